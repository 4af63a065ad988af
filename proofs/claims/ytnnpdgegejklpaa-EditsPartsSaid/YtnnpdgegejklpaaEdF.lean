/- The reference's tables of costs and of ways, walked. -/
import Derived.Test.YtnnpdgegejklpaaEdCosts
namespace Go.Proofs.Ytnnpdgegejklpaa
open Go.RowKit Go.Sx
set_option linter.unusedVariables false
set_option linter.unusedSimpArgs false
set_option maxRecDepth 100000
set_option maxHeartbeats 4000000

private theorem agg_46 : isAggB Try.prog 46 = some false := by kernel_rfl
private theorem size_3 : (Try.prog.info? 3).map (·.size) = some 1 := by kernel_rfl
private theorem inf_46 : ∃ ie, Try.prog.info? 46 = some ie ∧ ie.zero = some (.slice none 0 0) ∧ ie.size = 1 ∧ ie.bytes = 24 := info_of (by kernel_rfl) (by kernel_rfl)
private theorem inf_3 : ∃ ie, Try.prog.info? 3 = some ie ∧ ie.zero = some (.int .i64 0) ∧ ie.size = 1 ∧ ie.bytes = 8 := info_of (by kernel_rfl) (by kernel_rfl)
private theorem size_46 : (Try.prog.info? 46).map (·.size) = some 1 := by kernel_rfl
private theorem fld_23_2 (b off : Nat) (w : World) : (Instr.fieldAt 23 (.pointer (some ⟨b, off, none⟩)) 2).run Try.prog w = .ok (.pointer (some ⟨b, off + 2, none⟩)) w := by kernel_rfl
private theorem agg_3 : isAggB Try.prog 3 = some false := by kernel_rfl
private theorem fld_23_1 (b off : Nat) (w : World) : (Instr.fieldAt 23 (.pointer (some ⟨b, off, none⟩)) 1).run Try.prog w = .ok (.pointer (some ⟨b, off + 1, none⟩)) w := by kernel_rfl
private theorem fld_23_0 (b off : Nat) (w : World) : (Instr.fieldAt 23 (.pointer (some ⟨b, off, none⟩)) 0).run Try.prog w = .ok (.pointer (some ⟨b, off, none⟩)) w := by kernel_rfl

/-- The two tables. -/
def tabM (f : Nat → Nat → Int) (n M : Nat) (x : Nat × Nat × List Value × List Nat) : List (Nat × Obj) := (x.1, .cells (x.2.2.2.map (rowV M) ++ x.2.2.1).toArray 46 (0, 0)) :: rowsM f M x.2.2.2
theorem perm_two (r c p x y : Nat × Obj) (A B : List (Nat × Obj)) : (r :: c :: p :: x :: y :: (A ++ B)).Perm (p :: x :: y :: ((A ++ [r]) ++ (B ++ [c]))) := by
  have h1 : (r :: c :: p :: x :: y :: (A ++ B)).Perm (p :: x :: y :: r :: c :: (A ++ B)) := by
    exact (perm_idx [2, 3, 4, 0, 1] [r, c, p, x, y] rfl).symm.append_right (A ++ B)
  refine h1.trans ?_
  refine List.Perm.cons _ (List.Perm.cons _ (List.Perm.cons _ ?_))
  have h2 : (r :: c :: (A ++ B)).Perm (r :: (A ++ (c :: B))) := List.Perm.cons _ (List.perm_middle.symm)
  have h3 : (r :: (A ++ (c :: B))).Perm (A ++ (r :: c :: B)) := List.perm_middle.symm
  refine (h2.trans h3).trans ?_
  rw [List.append_assoc]
  refine List.Perm.append_left A ?_
  show (r :: c :: B).Perm (r :: (B ++ [c]))
  exact List.Perm.cons _ (List.perm_append_comm (l₁ := [c]) (l₂ := B))
theorem costs_ok (w : World) (a b : ByteArray) (pi po ps : Int) (ha12 : a.size ≤ 12) (hb12 : b.size ≤ 12) (hp : okP pi po ps) :
    Calls Try.prog 66 [.string a, .string b, .agg #[.int .i64 pi, .int .i64 po, .int .i64 ps]].toArray w fun e w' => ∃ x : (Nat × Nat × List Value × List Nat) × (Nat × Nat × List Value × List Nat), (x.1.2.2.2.length = a.size + 1 ∧ x.2.2.2.2.length = a.size + 1) ∧
      e = .returned (.tuple #[.slice (some ⟨x.1.1, 0, none⟩) (a.size + 1) x.1.2.1, .slice (some ⟨x.2.1, 0, none⟩) (a.size + 1) x.2.2.1]) ∧
      Hq w w ((x.1.1, .cells (x.1.2.2.2.map (rowV (b.size + 1)) ++ x.1.2.2.1).toArray 46 (0, 0)) :: (x.2.1, .cells (x.2.2.2.2.map (rowV (b.size + 1)) ++ x.2.2.2.1).toArray 46 (0, 0)) :: (rowsM (D a b pi po ps) (b.size + 1) x.1.2.2.2 ++ rowsM (U a b pi po ps) (b.size + 1) x.2.2.2.2)) w' := by
  obtain ⟨hp1, hp2, hp3⟩ := id hp
  obtain ⟨ie46, i46, z46, s46, y46⟩ := inf_46
  obtain ⟨ie3, i3, z3, s3, y3⟩ := inf_3
  refine enter (N := 140) Try.func66 rfl rfl rfl ?_
  refine g_seq ?_
  refine g_region ?_
  refine s_tr (t_box rfl rfl) rfl rfl rfl rfl (fun b5 hb5 => ?_)
  refine s_y (y_assign rfl) rfl rfl rfl rfl ?_
  refine s_y (y_assign rfl) rfl rfl rfl rfl ?_
  refine s_nil ?_
  refine g_then ?_
  refine g_seq ?_
  refine g_region ?_
  refine s_y (y_assign rfl) rfl rfl rfl rfl ?_
  refine s_y (y_assign rfl) rfl rfl rfl rfl ?_
  refine s_nil ?_
  refine g_then ?_
  refine g_seq ?_
  refine g_seq ?_
  refine g_region ?_
  refine s_y (y_move rfl) rfl rfl rfl rfl ?_
  refine s_y (y_lens rfl Try.underlying9) rfl rfl rfl rfl ?_
  refine s_y (y_add rfl rfl (by omega) (by omega)) rfl rfl rfl rfl ?_
  refine s_y (y_move rfl) rfl rfl rfl rfl ?_
  refine s_nil ?_
  refine g_then ?_
  refine g_block ?_
  refine g_loop (fun (i : Nat) act W => i ≤ a.size + 1 ∧ ∃ (w1 : World) (sv1 sv2 : SV) (Bs Cs : List Nat), Bs.length = i ∧ Cs.length = i ∧ sv1.ok 1 i (Bs.map (rowV (b.size + 1))) ∧ sv2.ok 1 i (Cs.map (rowV (b.size + 1))) ∧
      Has 140 [] [(22, .int .i64 i), (21, .int .i64 ((a.size : Int) + 1)), (8, sv1.val i), (9, sv2.val i), (5, .pointer (some ⟨b5, 0, none⟩)), (1, .string b), (0, .string a)] act ∧
      Hp w w1 ((b5, .cells [.int .i64 pi, .int .i64 po, .int .i64 ps].toArray 23 (0, 0)) :: (sv1.mem 46 (Bs.map (rowV (b.size + 1))) ++ (sv2.mem 46 (Cs.map (rowV (b.size + 1))) ++ (rowsM (D a b pi po ps) (b.size + 1) Bs ++ rowsM (U a b pi po ps) (b.size + 1) Cs)))) W) (fun i => a.size + 1 - i) 0 (fun act W ha hw => ⟨Nat.zero_le _, W, .nil, .nil, [], [], rfl, rfl, ⟨rfl, rfl⟩, ⟨rfl, rfl⟩, ha.weak (sub_get ⟨rfl, rfl, rfl, rfl, rfl, rfl, rfl, trivial⟩), hw.look'⟩) ?_
  intro i act W ⟨hi, w1, sv1, sv2, Bs, Cs, hBs, hCs, hok1, hok2, ha, hw⟩
  refine g_go ha hw ?_
  clear ha hw act W
  refine g_seq ?_
  refine g_region ?_
  refine s_y (y_lss rfl rfl) rfl rfl rfl rfl ?_
  refine s_nil ?_
  refine g_then ?_
  refine g_seq ?_
  refine g_cond rfl (fun hq1 => ?_) (fun hq1 => ?_)
  · (try simp at hq1)
    refine g_skip ?_
    refine g_then ?_
    refine g_seq ?_
    refine g_block ?_
    refine g_seq ?_
    refine g_region ?_
    refine s_y (y_move rfl) rfl rfl rfl rfl ?_
    refine s_y (y_assign rfl) rfl rfl rfl rfl ?_
    refine s_nil ?_
    refine g_then ?_
    refine g_seam (fun act W => ∃ (bR cR bb1 cap1 : Nat) (jk1 : List Value) (bb2 cap2 : Nat) (jk2 : List Value), (SV.own bb1 cap1 jk1).ok 1 (i + 1) (Bs.map (rowV (b.size + 1)) ++ [rowV (b.size + 1) bR]) ∧ (SV.own bb2 cap2 jk2).ok 1 (i + 1) (Cs.map (rowV (b.size + 1)) ++ [rowV (b.size + 1) cR]) ∧
      Has 140 [] [(22, .int .i64 i), (21, .int .i64 ((a.size : Int) + 1)), (10, .int .i64 i), (8, (.slice (some ⟨bb1, 0, none⟩) (i + 1) cap1)), (9, (.slice (some ⟨bb2, 0, none⟩) (i + 1) cap2)), (5, .pointer (some ⟨b5, 0, none⟩)), (1, .string b), (0, .string a)] act ∧ Hp w W ((bR, .cells (List.replicate (b.size + 1) (.int .i64 0)).toArray 3 (0, 0)) :: (cR, .cells (List.replicate (b.size + 1) (.int .i64 0)).toArray 3 (0, 0)) :: (b5, .cells [.int .i64 pi, .int .i64 po, .int .i64 ps].toArray 23 (0, 0)) :: (bb1, .cells ((Bs.map (rowV (b.size + 1)) ++ [rowV (b.size + 1) bR]) ++ jk1).toArray 46 (0, 0)) :: (bb2, .cells ((Cs.map (rowV (b.size + 1)) ++ [rowV (b.size + 1) cR]) ++ jk2).toArray 46 (0, 0)) :: (rowsM (D a b pi po ps) (b.size + 1) Bs ++ rowsM (U a b pi po ps) (b.size + 1) Cs)) W) ?_ ?_
    · skip
      refine g_draw 6 (by kernel_rfl) ?_
      refine j_p (i := 0) rfl (y_move rfl) (by kernel_rfl) (by kernel_rfl) (by kernel_rfl) rfl rfl rfl rfl rfl (.inr (fun _ h => h)) ?_
      refine j_p (i := 1) rfl (y_move rfl) (by kernel_rfl) (by kernel_rfl) (by kernel_rfl) rfl rfl rfl rfl rfl (.inr (fun _ h => h)) ?_
      refine j_p (i := 2) rfl (y_lens rfl Try.underlying9) (by kernel_rfl) (by kernel_rfl) (by kernel_rfl) rfl rfl rfl rfl rfl (.inr (fun _ h => h)) ?_
      refine j_p (i := 3) rfl (y_add rfl rfl (by omega) (by omega)) (by kernel_rfl) (by kernel_rfl) (by kernel_rfl) rfl rfl rfl rfl rfl (.inr (fun _ h => h)) ?_
      refine j_p (i := 7) rfl (y_move rfl) (by kernel_rfl) (by kernel_rfl) (by kernel_rfl) rfl rfl rfl rfl rfl (.inr (fun _ h => h)) ?_
      refine j_p (i := 8) rfl (y_move rfl) (by kernel_rfl) (by kernel_rfl) (by kernel_rfl) rfl rfl rfl rfl rfl (.inr (fun _ h => h)) ?_
      refine j_p (i := 9) rfl (y_lens rfl Try.underlying9) (by kernel_rfl) (by kernel_rfl) (by kernel_rfl) rfl rfl rfl rfl rfl (.inr (fun _ h => h)) ?_
      refine j_p (i := 10) rfl (y_add rfl rfl (by omega) (by omega)) (by kernel_rfl) (by kernel_rfl) (by kernel_rfl) rfl rfl rfl rfl rfl (.inr (fun _ h => h)) ?_
      refine j_two 4 11 (by kernel_rfl) ?_ ?_
      · skip
        refine i_tr (i := 4) rfl (t_make (n := b.size + 1) rfl Try.underlying46 i3 z3 s3 rfl (by rw [y3]; omega) (by omega)) rfl rfl rfl rfl (.inr (fun x w hb h => (h.tail hb.2))) (fun bR hbR => ?_)
        refine j_two 5 11 (by kernel_rfl) ?_ ?_
        · skip
          refine i_tr (i := 5) rfl (t_build (vs := [(0, rowV (b.size + 1) bR)]) (cells := [rowV (b.size + 1) bR]) rfl rfl Try.underlying66 i46 z46 (by rw [s46]; rfl) (by rw [s46]; rfl) (by rw [s46]; kernel_rfl)) rfl rfl rfl rfl (.inr (fun x w hb h => ((h.tail hb.2).tail hbR.2))) (fun bA hbA => ?_)
          refine j_two 6 11 (by kernel_rfl) ?_ ?_
          · skip
            refine i_tr (i := 6) rfl (t_append (sv := sv1) (n := i) (xs := Bs.map (rowV (b.size + 1))) (news := [rowV (b.size + 1) bR]) [_, _, _] _ rfl rfl rfl hok1 Try.underlying66 i46 z46 s46 y46 rfl (by decide) (fun w h j u hj => match j, hj with | 0, hj => by cases hj; exact h.toHq.cell (i := 0) rfl rfl | j + 1, hj => by simp at hj) rfl rfl (by decide) (by omega) (by unfold maxLen; omega)) rfl rfl rfl rfl (.inl rfl) (fun y1 hy1 => ?_)
            obtain ⟨sv1', gs1⟩ := y1
            obtain ⟨hok3, bb1, cap1, jk1, hsv⟩ := hy1
            have hsv2 : sv1' = .own bb1 cap1 jk1 := hsv
            subst hsv2
            clear hsv
            refine j_tr (i := 11) rfl (t_make (n := b.size + 1) rfl Try.underlying46 i3 z3 s3 rfl (by rw [y3]; omega) (by omega)) (by kernel_rfl) rfl rfl rfl rfl (.inl rfl) (fun cR hcR => ?_)
            refine j_tr (i := 12) rfl (t_build (vs := [(0, rowV (b.size + 1) cR)]) (cells := [rowV (b.size + 1) cR]) rfl rfl Try.underlying66 i46 z46 (by rw [s46]; rfl) (by rw [s46]; rfl) (by rw [s46]; kernel_rfl)) (by kernel_rfl) rfl rfl rfl rfl (.inl rfl) (fun cA hcA => ?_)
            refine j_tr (i := 13) rfl (t_append (sv := sv2) (n := i) (xs := Cs.map (rowV (b.size + 1))) (news := [rowV (b.size + 1) cR]) (_ :: _ :: _ :: _ :: _ :: _ :: gs1) _ rfl rfl rfl hok2 Try.underlying66 i46 z46 s46 y46 rfl (by decide) (fun w h j u hj => match j, hj with | 0, hj => by cases hj; exact h.toHq.cell (i := 0) rfl rfl | j + 1, hj => by simp at hj) rfl rfl (by decide) (by omega) (by unfold maxLen; omega)) (by kernel_rfl) rfl rfl rfl rfl (.inl rfl) (fun y2 hy2 => ?_)
            obtain ⟨sv2', gs2⟩ := y2
            obtain ⟨hok4, bb2, cap2, jk2, hsv⟩ := hy2
            have hsv2 : sv2' = .own bb2 cap2 jk2 := hsv
            subst hsv2
            clear hsv
            refine j_p (i := 14) rfl (y_assign rfl) (by kernel_rfl) (by kernel_rfl) (by kernel_rfl) rfl rfl rfl rfl rfl (.inl rfl) ?_
            refine j_p (i := 15) rfl (y_assign rfl) (by kernel_rfl) (by kernel_rfl) (by kernel_rfl) rfl rfl rfl rfl rfl (.inl rfl) ?_
            refine j_nil (by kernel_rfl) ?_
            refine g_then ?_
            refine fun act W ha hw => ⟨bR, cR, bb1, cap1, jk1, bb2, cap2, jk2, hok3, hok4, ha.weak (sub_get ⟨rfl, rfl, rfl, rfl, rfl, rfl, rfl, rfl, trivial⟩), hw.toHq.pick ((perm_idx [2, 0, 3, 1] [_, _, _, _] rfl).append_right _) ?_⟩
            exact List.Sublist.cons _ (List.Sublist.cons _ (List.Sublist.cons_cons _ (List.Sublist.cons_cons _ (List.Sublist.cons_cons _ (List.Sublist.cons_cons _ ((List.Sublist.cons_cons _ (List.sublist_append_right gs2 _)).trans (List.sublist_append_right gs1 _)))))))
          · skip
            refine i_tr (i := 11) rfl (t_make (n := b.size + 1) rfl Try.underlying46 i3 z3 s3 rfl (by rw [y3]; omega) (by omega)) rfl rfl rfl rfl (.inr (fun x w hb h => (((h.tail hb.2).tail hbA.2).tail hbR.2))) (fun cR hcR => ?_)
            refine j_two 6 12 (by kernel_rfl) ?_ ?_
            · skip
              refine i_tr (i := 6) rfl (t_append (sv := sv1) (n := i) (xs := Bs.map (rowV (b.size + 1))) (news := [rowV (b.size + 1) bR]) [_, _, _, _] _ rfl rfl rfl hok1 Try.underlying66 i46 z46 s46 y46 rfl (by decide) (fun w h j u hj => match j, hj with | 0, hj => by cases hj; exact h.toHq.cell (i := 1) rfl rfl | j + 1, hj => by simp at hj) rfl rfl (by decide) (by omega) (by unfold maxLen; omega)) rfl rfl rfl rfl (.inl rfl) (fun y1 hy1 => ?_)
              obtain ⟨sv1', gs1⟩ := y1
              obtain ⟨hok3, bb1, cap1, jk1, hsv⟩ := hy1
              have hsv2 : sv1' = .own bb1 cap1 jk1 := hsv
              subst hsv2
              clear hsv
              refine j_tr (i := 12) rfl (t_build (vs := [(0, rowV (b.size + 1) cR)]) (cells := [rowV (b.size + 1) cR]) rfl rfl Try.underlying66 i46 z46 (by rw [s46]; rfl) (by rw [s46]; rfl) (by rw [s46]; kernel_rfl)) (by kernel_rfl) rfl rfl rfl rfl (.inl rfl) (fun cA hcA => ?_)
              refine j_tr (i := 13) rfl (t_append (sv := sv2) (n := i) (xs := Cs.map (rowV (b.size + 1))) (news := [rowV (b.size + 1) cR]) (_ :: _ :: _ :: _ :: _ :: _ :: gs1) _ rfl rfl rfl hok2 Try.underlying66 i46 z46 s46 y46 rfl (by decide) (fun w h j u hj => match j, hj with | 0, hj => by cases hj; exact h.toHq.cell (i := 0) rfl rfl | j + 1, hj => by simp at hj) rfl rfl (by decide) (by omega) (by unfold maxLen; omega)) (by kernel_rfl) rfl rfl rfl rfl (.inl rfl) (fun y2 hy2 => ?_)
              obtain ⟨sv2', gs2⟩ := y2
              obtain ⟨hok4, bb2, cap2, jk2, hsv⟩ := hy2
              have hsv2 : sv2' = .own bb2 cap2 jk2 := hsv
              subst hsv2
              clear hsv
              refine j_p (i := 14) rfl (y_assign rfl) (by kernel_rfl) (by kernel_rfl) (by kernel_rfl) rfl rfl rfl rfl rfl (.inl rfl) ?_
              refine j_p (i := 15) rfl (y_assign rfl) (by kernel_rfl) (by kernel_rfl) (by kernel_rfl) rfl rfl rfl rfl rfl (.inl rfl) ?_
              refine j_nil (by kernel_rfl) ?_
              refine g_then ?_
              refine fun act W ha hw => ⟨bR, cR, bb1, cap1, jk1, bb2, cap2, jk2, hok3, hok4, ha.weak (sub_get ⟨rfl, rfl, rfl, rfl, rfl, rfl, rfl, rfl, trivial⟩), hw.toHq.pick ((perm_idx [2, 0, 3, 1] [_, _, _, _] rfl).append_right _) ?_⟩
              exact List.Sublist.cons _ (List.Sublist.cons _ (List.Sublist.cons_cons _ (List.Sublist.cons_cons _ (List.Sublist.cons_cons _ (List.Sublist.cons_cons _ ((List.Sublist.cons_cons _ (List.sublist_append_right gs2 _)).trans (List.sublist_append_right gs1 _)))))))
            · skip
              refine i_tr (i := 12) rfl (t_build (vs := [(0, rowV (b.size + 1) cR)]) (cells := [rowV (b.size + 1) cR]) rfl rfl Try.underlying66 i46 z46 (by rw [s46]; rfl) (by rw [s46]; rfl) (by rw [s46]; kernel_rfl)) rfl rfl rfl rfl (.inr (fun x w hb h => ((((h.tail hb.2).tail hcR.2).tail hbA.2).tail hbR.2))) (fun cA hcA => ?_)
              refine j_tr (i := 6) rfl (t_append (sv := sv1) (n := i) (xs := Bs.map (rowV (b.size + 1))) (news := [rowV (b.size + 1) bR]) [_, _, _, _, _] _ rfl rfl rfl hok1 Try.underlying66 i46 z46 s46 y46 rfl (by decide) (fun w h j u hj => match j, hj with | 0, hj => by cases hj; exact h.toHq.cell (i := 2) rfl rfl | j + 1, hj => by simp at hj) rfl rfl (by decide) (by omega) (by unfold maxLen; omega)) (by kernel_rfl) rfl rfl rfl rfl (.inl rfl) (fun y1 hy1 => ?_)
              obtain ⟨sv1', gs1⟩ := y1
              obtain ⟨hok3, bb1, cap1, jk1, hsv⟩ := hy1
              have hsv2 : sv1' = .own bb1 cap1 jk1 := hsv
              subst hsv2
              clear hsv
              refine j_tr (i := 13) rfl (t_append (sv := sv2) (n := i) (xs := Cs.map (rowV (b.size + 1))) (news := [rowV (b.size + 1) cR]) (_ :: _ :: _ :: _ :: _ :: _ :: gs1) _ rfl rfl rfl hok2 Try.underlying66 i46 z46 s46 y46 rfl (by decide) (fun w h j u hj => match j, hj with | 0, hj => by cases hj; exact h.toHq.cell (i := 0) rfl rfl | j + 1, hj => by simp at hj) rfl rfl (by decide) (by omega) (by unfold maxLen; omega)) (by kernel_rfl) rfl rfl rfl rfl (.inl rfl) (fun y2 hy2 => ?_)
              obtain ⟨sv2', gs2⟩ := y2
              obtain ⟨hok4, bb2, cap2, jk2, hsv⟩ := hy2
              have hsv2 : sv2' = .own bb2 cap2 jk2 := hsv
              subst hsv2
              clear hsv
              refine j_p (i := 14) rfl (y_assign rfl) (by kernel_rfl) (by kernel_rfl) (by kernel_rfl) rfl rfl rfl rfl rfl (.inl rfl) ?_
              refine j_p (i := 15) rfl (y_assign rfl) (by kernel_rfl) (by kernel_rfl) (by kernel_rfl) rfl rfl rfl rfl rfl (.inl rfl) ?_
              refine j_nil (by kernel_rfl) ?_
              refine g_then ?_
              refine fun act W ha hw => ⟨bR, cR, bb1, cap1, jk1, bb2, cap2, jk2, hok3, hok4, ha.weak (sub_get ⟨rfl, rfl, rfl, rfl, rfl, rfl, rfl, rfl, trivial⟩), hw.toHq.pick ((perm_idx [2, 0, 3, 1] [_, _, _, _] rfl).append_right _) ?_⟩
              exact List.Sublist.cons _ (List.Sublist.cons _ (List.Sublist.cons_cons _ (List.Sublist.cons_cons _ (List.Sublist.cons_cons _ (List.Sublist.cons_cons _ ((List.Sublist.cons_cons _ (List.sublist_append_right gs2 _)).trans (List.sublist_append_right gs1 _)))))))
        · skip
          refine i_tr (i := 11) rfl (t_make (n := b.size + 1) rfl Try.underlying46 i3 z3 s3 rfl (by rw [y3]; omega) (by omega)) rfl rfl rfl rfl (.inr (fun x w hb h => ((h.tail hb.2).tail hbR.2))) (fun cR hcR => ?_)
          refine j_two 5 12 (by kernel_rfl) ?_ ?_
          · skip
            refine i_tr (i := 5) rfl (t_build (vs := [(0, rowV (b.size + 1) bR)]) (cells := [rowV (b.size + 1) bR]) rfl rfl Try.underlying66 i46 z46 (by rw [s46]; rfl) (by rw [s46]; rfl) (by rw [s46]; kernel_rfl)) rfl rfl rfl rfl (.inr (fun x w hb h => (((h.tail hb.2).tail hcR.2).tail hbR.2))) (fun bA hbA => ?_)
            refine j_two 6 12 (by kernel_rfl) ?_ ?_
            · skip
              refine i_tr (i := 6) rfl (t_append (sv := sv1) (n := i) (xs := Bs.map (rowV (b.size + 1))) (news := [rowV (b.size + 1) bR]) [_, _, _, _] _ rfl rfl rfl hok1 Try.underlying66 i46 z46 s46 y46 rfl (by decide) (fun w h j u hj => match j, hj with | 0, hj => by cases hj; exact h.toHq.cell (i := 0) rfl rfl | j + 1, hj => by simp at hj) rfl rfl (by decide) (by omega) (by unfold maxLen; omega)) rfl rfl rfl rfl (.inl rfl) (fun y1 hy1 => ?_)
              obtain ⟨sv1', gs1⟩ := y1
              obtain ⟨hok3, bb1, cap1, jk1, hsv⟩ := hy1
              have hsv2 : sv1' = .own bb1 cap1 jk1 := hsv
              subst hsv2
              clear hsv
              refine j_tr (i := 12) rfl (t_build (vs := [(0, rowV (b.size + 1) cR)]) (cells := [rowV (b.size + 1) cR]) rfl rfl Try.underlying66 i46 z46 (by rw [s46]; rfl) (by rw [s46]; rfl) (by rw [s46]; kernel_rfl)) (by kernel_rfl) rfl rfl rfl rfl (.inl rfl) (fun cA hcA => ?_)
              refine j_tr (i := 13) rfl (t_append (sv := sv2) (n := i) (xs := Cs.map (rowV (b.size + 1))) (news := [rowV (b.size + 1) cR]) (_ :: _ :: _ :: _ :: _ :: _ :: gs1) _ rfl rfl rfl hok2 Try.underlying66 i46 z46 s46 y46 rfl (by decide) (fun w h j u hj => match j, hj with | 0, hj => by cases hj; exact h.toHq.cell (i := 0) rfl rfl | j + 1, hj => by simp at hj) rfl rfl (by decide) (by omega) (by unfold maxLen; omega)) (by kernel_rfl) rfl rfl rfl rfl (.inl rfl) (fun y2 hy2 => ?_)
              obtain ⟨sv2', gs2⟩ := y2
              obtain ⟨hok4, bb2, cap2, jk2, hsv⟩ := hy2
              have hsv2 : sv2' = .own bb2 cap2 jk2 := hsv
              subst hsv2
              clear hsv
              refine j_p (i := 14) rfl (y_assign rfl) (by kernel_rfl) (by kernel_rfl) (by kernel_rfl) rfl rfl rfl rfl rfl (.inl rfl) ?_
              refine j_p (i := 15) rfl (y_assign rfl) (by kernel_rfl) (by kernel_rfl) (by kernel_rfl) rfl rfl rfl rfl rfl (.inl rfl) ?_
              refine j_nil (by kernel_rfl) ?_
              refine g_then ?_
              refine fun act W ha hw => ⟨bR, cR, bb1, cap1, jk1, bb2, cap2, jk2, hok3, hok4, ha.weak (sub_get ⟨rfl, rfl, rfl, rfl, rfl, rfl, rfl, rfl, trivial⟩), hw.toHq.pick ((perm_idx [1, 0, 3, 2] [_, _, _, _] rfl).append_right _) ?_⟩
              exact List.Sublist.cons _ (List.Sublist.cons _ (List.Sublist.cons_cons _ (List.Sublist.cons_cons _ (List.Sublist.cons_cons _ (List.Sublist.cons_cons _ ((List.Sublist.cons_cons _ (List.sublist_append_right gs2 _)).trans (List.sublist_append_right gs1 _)))))))
            · skip
              refine i_tr (i := 12) rfl (t_build (vs := [(0, rowV (b.size + 1) cR)]) (cells := [rowV (b.size + 1) cR]) rfl rfl Try.underlying66 i46 z46 (by rw [s46]; rfl) (by rw [s46]; rfl) (by rw [s46]; kernel_rfl)) rfl rfl rfl rfl (.inr (fun x w hb h => ((((h.tail hb.2).tail hbA.2).tail hcR.2).tail hbR.2))) (fun cA hcA => ?_)
              refine j_tr (i := 6) rfl (t_append (sv := sv1) (n := i) (xs := Bs.map (rowV (b.size + 1))) (news := [rowV (b.size + 1) bR]) [_, _, _, _, _] _ rfl rfl rfl hok1 Try.underlying66 i46 z46 s46 y46 rfl (by decide) (fun w h j u hj => match j, hj with | 0, hj => by cases hj; exact h.toHq.cell (i := 1) rfl rfl | j + 1, hj => by simp at hj) rfl rfl (by decide) (by omega) (by unfold maxLen; omega)) (by kernel_rfl) rfl rfl rfl rfl (.inl rfl) (fun y1 hy1 => ?_)
              obtain ⟨sv1', gs1⟩ := y1
              obtain ⟨hok3, bb1, cap1, jk1, hsv⟩ := hy1
              have hsv2 : sv1' = .own bb1 cap1 jk1 := hsv
              subst hsv2
              clear hsv
              refine j_tr (i := 13) rfl (t_append (sv := sv2) (n := i) (xs := Cs.map (rowV (b.size + 1))) (news := [rowV (b.size + 1) cR]) (_ :: _ :: _ :: _ :: _ :: _ :: gs1) _ rfl rfl rfl hok2 Try.underlying66 i46 z46 s46 y46 rfl (by decide) (fun w h j u hj => match j, hj with | 0, hj => by cases hj; exact h.toHq.cell (i := 0) rfl rfl | j + 1, hj => by simp at hj) rfl rfl (by decide) (by omega) (by unfold maxLen; omega)) (by kernel_rfl) rfl rfl rfl rfl (.inl rfl) (fun y2 hy2 => ?_)
              obtain ⟨sv2', gs2⟩ := y2
              obtain ⟨hok4, bb2, cap2, jk2, hsv⟩ := hy2
              have hsv2 : sv2' = .own bb2 cap2 jk2 := hsv
              subst hsv2
              clear hsv
              refine j_p (i := 14) rfl (y_assign rfl) (by kernel_rfl) (by kernel_rfl) (by kernel_rfl) rfl rfl rfl rfl rfl (.inl rfl) ?_
              refine j_p (i := 15) rfl (y_assign rfl) (by kernel_rfl) (by kernel_rfl) (by kernel_rfl) rfl rfl rfl rfl rfl (.inl rfl) ?_
              refine j_nil (by kernel_rfl) ?_
              refine g_then ?_
              refine fun act W ha hw => ⟨bR, cR, bb1, cap1, jk1, bb2, cap2, jk2, hok3, hok4, ha.weak (sub_get ⟨rfl, rfl, rfl, rfl, rfl, rfl, rfl, rfl, trivial⟩), hw.toHq.pick ((perm_idx [1, 0, 3, 2] [_, _, _, _] rfl).append_right _) ?_⟩
              exact List.Sublist.cons _ (List.Sublist.cons _ (List.Sublist.cons_cons _ (List.Sublist.cons_cons _ (List.Sublist.cons_cons _ (List.Sublist.cons_cons _ ((List.Sublist.cons_cons _ (List.sublist_append_right gs2 _)).trans (List.sublist_append_right gs1 _)))))))
          · skip
            refine i_tr (i := 12) rfl (t_build (vs := [(0, rowV (b.size + 1) cR)]) (cells := [rowV (b.size + 1) cR]) rfl rfl Try.underlying66 i46 z46 (by rw [s46]; rfl) (by rw [s46]; rfl) (by rw [s46]; kernel_rfl)) rfl rfl rfl rfl (.inr (fun x w hb h => (((h.tail hb.2).tail hcR.2).tail hbR.2))) (fun cA hcA => ?_)
            refine j_tr (i := 5) rfl (t_build (vs := [(0, rowV (b.size + 1) bR)]) (cells := [rowV (b.size + 1) bR]) rfl rfl Try.underlying66 i46 z46 (by rw [s46]; rfl) (by rw [s46]; rfl) (by rw [s46]; kernel_rfl)) (by kernel_rfl) rfl rfl rfl rfl (.inr (fun x w hb h => ((((h.tail hb.2).tail hcA.2).tail hcR.2).tail hbR.2))) (fun bA hbA => ?_)
            refine j_tr (i := 6) rfl (t_append (sv := sv1) (n := i) (xs := Bs.map (rowV (b.size + 1))) (news := [rowV (b.size + 1) bR]) [_, _, _, _, _] _ rfl rfl rfl hok1 Try.underlying66 i46 z46 s46 y46 rfl (by decide) (fun w h j u hj => match j, hj with | 0, hj => by cases hj; exact h.toHq.cell (i := 0) rfl rfl | j + 1, hj => by simp at hj) rfl rfl (by decide) (by omega) (by unfold maxLen; omega)) (by kernel_rfl) rfl rfl rfl rfl (.inl rfl) (fun y1 hy1 => ?_)
            obtain ⟨sv1', gs1⟩ := y1
            obtain ⟨hok3, bb1, cap1, jk1, hsv⟩ := hy1
            have hsv2 : sv1' = .own bb1 cap1 jk1 := hsv
            subst hsv2
            clear hsv
            refine j_tr (i := 13) rfl (t_append (sv := sv2) (n := i) (xs := Cs.map (rowV (b.size + 1))) (news := [rowV (b.size + 1) cR]) (_ :: _ :: _ :: _ :: _ :: _ :: gs1) _ rfl rfl rfl hok2 Try.underlying66 i46 z46 s46 y46 rfl (by decide) (fun w h j u hj => match j, hj with | 0, hj => by cases hj; exact h.toHq.cell (i := 1) rfl rfl | j + 1, hj => by simp at hj) rfl rfl (by decide) (by omega) (by unfold maxLen; omega)) (by kernel_rfl) rfl rfl rfl rfl (.inl rfl) (fun y2 hy2 => ?_)
            obtain ⟨sv2', gs2⟩ := y2
            obtain ⟨hok4, bb2, cap2, jk2, hsv⟩ := hy2
            have hsv2 : sv2' = .own bb2 cap2 jk2 := hsv
            subst hsv2
            clear hsv
            refine j_p (i := 14) rfl (y_assign rfl) (by kernel_rfl) (by kernel_rfl) (by kernel_rfl) rfl rfl rfl rfl rfl (.inl rfl) ?_
            refine j_p (i := 15) rfl (y_assign rfl) (by kernel_rfl) (by kernel_rfl) (by kernel_rfl) rfl rfl rfl rfl rfl (.inl rfl) ?_
            refine j_nil (by kernel_rfl) ?_
            refine g_then ?_
            refine fun act W ha hw => ⟨bR, cR, bb1, cap1, jk1, bb2, cap2, jk2, hok3, hok4, ha.weak (sub_get ⟨rfl, rfl, rfl, rfl, rfl, rfl, rfl, rfl, trivial⟩), hw.toHq.pick ((perm_idx [0, 1, 3, 2] [_, _, _, _] rfl).append_right _) ?_⟩
            exact List.Sublist.cons _ (List.Sublist.cons _ (List.Sublist.cons_cons _ (List.Sublist.cons_cons _ (List.Sublist.cons_cons _ (List.Sublist.cons_cons _ ((List.Sublist.cons_cons _ (List.sublist_append_right gs2 _)).trans (List.sublist_append_right gs1 _)))))))
      · skip
        refine i_tr (i := 11) rfl (t_make (n := b.size + 1) rfl Try.underlying46 i3 z3 s3 rfl (by rw [y3]; omega) (by omega)) rfl rfl rfl rfl (.inr (fun x w hb h => (h.tail hb.2))) (fun cR hcR => ?_)
        refine j_two 4 12 (by kernel_rfl) ?_ ?_
        · skip
          refine i_tr (i := 4) rfl (t_make (n := b.size + 1) rfl Try.underlying46 i3 z3 s3 rfl (by rw [y3]; omega) (by omega)) rfl rfl rfl rfl (.inr (fun x w hb h => ((h.tail hb.2).tail hcR.2))) (fun bR hbR => ?_)
          refine j_two 5 12 (by kernel_rfl) ?_ ?_
          · skip
            refine i_tr (i := 5) rfl (t_build (vs := [(0, rowV (b.size + 1) bR)]) (cells := [rowV (b.size + 1) bR]) rfl rfl Try.underlying66 i46 z46 (by rw [s46]; rfl) (by rw [s46]; rfl) (by rw [s46]; kernel_rfl)) rfl rfl rfl rfl (.inr (fun x w hb h => (((h.tail hb.2).tail hbR.2).tail hcR.2))) (fun bA hbA => ?_)
            refine j_two 6 12 (by kernel_rfl) ?_ ?_
            · skip
              refine i_tr (i := 6) rfl (t_append (sv := sv1) (n := i) (xs := Bs.map (rowV (b.size + 1))) (news := [rowV (b.size + 1) bR]) [_, _, _, _] _ rfl rfl rfl hok1 Try.underlying66 i46 z46 s46 y46 rfl (by decide) (fun w h j u hj => match j, hj with | 0, hj => by cases hj; exact h.toHq.cell (i := 0) rfl rfl | j + 1, hj => by simp at hj) rfl rfl (by decide) (by omega) (by unfold maxLen; omega)) rfl rfl rfl rfl (.inl rfl) (fun y1 hy1 => ?_)
              obtain ⟨sv1', gs1⟩ := y1
              obtain ⟨hok3, bb1, cap1, jk1, hsv⟩ := hy1
              have hsv2 : sv1' = .own bb1 cap1 jk1 := hsv
              subst hsv2
              clear hsv
              refine j_tr (i := 12) rfl (t_build (vs := [(0, rowV (b.size + 1) cR)]) (cells := [rowV (b.size + 1) cR]) rfl rfl Try.underlying66 i46 z46 (by rw [s46]; rfl) (by rw [s46]; rfl) (by rw [s46]; kernel_rfl)) (by kernel_rfl) rfl rfl rfl rfl (.inl rfl) (fun cA hcA => ?_)
              refine j_tr (i := 13) rfl (t_append (sv := sv2) (n := i) (xs := Cs.map (rowV (b.size + 1))) (news := [rowV (b.size + 1) cR]) (_ :: _ :: _ :: _ :: _ :: _ :: gs1) _ rfl rfl rfl hok2 Try.underlying66 i46 z46 s46 y46 rfl (by decide) (fun w h j u hj => match j, hj with | 0, hj => by cases hj; exact h.toHq.cell (i := 0) rfl rfl | j + 1, hj => by simp at hj) rfl rfl (by decide) (by omega) (by unfold maxLen; omega)) (by kernel_rfl) rfl rfl rfl rfl (.inl rfl) (fun y2 hy2 => ?_)
              obtain ⟨sv2', gs2⟩ := y2
              obtain ⟨hok4, bb2, cap2, jk2, hsv⟩ := hy2
              have hsv2 : sv2' = .own bb2 cap2 jk2 := hsv
              subst hsv2
              clear hsv
              refine j_p (i := 14) rfl (y_assign rfl) (by kernel_rfl) (by kernel_rfl) (by kernel_rfl) rfl rfl rfl rfl rfl (.inl rfl) ?_
              refine j_p (i := 15) rfl (y_assign rfl) (by kernel_rfl) (by kernel_rfl) (by kernel_rfl) rfl rfl rfl rfl rfl (.inl rfl) ?_
              refine j_nil (by kernel_rfl) ?_
              refine g_then ?_
              refine fun act W ha hw => ⟨bR, cR, bb1, cap1, jk1, bb2, cap2, jk2, hok3, hok4, ha.weak (sub_get ⟨rfl, rfl, rfl, rfl, rfl, rfl, rfl, rfl, trivial⟩), hw.toHq.pick ((perm_idx [1, 0, 2, 3] [_, _, _, _] rfl).append_right _) ?_⟩
              exact List.Sublist.cons _ (List.Sublist.cons _ (List.Sublist.cons_cons _ (List.Sublist.cons_cons _ (List.Sublist.cons_cons _ (List.Sublist.cons_cons _ ((List.Sublist.cons_cons _ (List.sublist_append_right gs2 _)).trans (List.sublist_append_right gs1 _)))))))
            · skip
              refine i_tr (i := 12) rfl (t_build (vs := [(0, rowV (b.size + 1) cR)]) (cells := [rowV (b.size + 1) cR]) rfl rfl Try.underlying66 i46 z46 (by rw [s46]; rfl) (by rw [s46]; rfl) (by rw [s46]; kernel_rfl)) rfl rfl rfl rfl (.inr (fun x w hb h => ((((h.tail hb.2).tail hbA.2).tail hbR.2).tail hcR.2))) (fun cA hcA => ?_)
              refine j_tr (i := 6) rfl (t_append (sv := sv1) (n := i) (xs := Bs.map (rowV (b.size + 1))) (news := [rowV (b.size + 1) bR]) [_, _, _, _, _] _ rfl rfl rfl hok1 Try.underlying66 i46 z46 s46 y46 rfl (by decide) (fun w h j u hj => match j, hj with | 0, hj => by cases hj; exact h.toHq.cell (i := 1) rfl rfl | j + 1, hj => by simp at hj) rfl rfl (by decide) (by omega) (by unfold maxLen; omega)) (by kernel_rfl) rfl rfl rfl rfl (.inl rfl) (fun y1 hy1 => ?_)
              obtain ⟨sv1', gs1⟩ := y1
              obtain ⟨hok3, bb1, cap1, jk1, hsv⟩ := hy1
              have hsv2 : sv1' = .own bb1 cap1 jk1 := hsv
              subst hsv2
              clear hsv
              refine j_tr (i := 13) rfl (t_append (sv := sv2) (n := i) (xs := Cs.map (rowV (b.size + 1))) (news := [rowV (b.size + 1) cR]) (_ :: _ :: _ :: _ :: _ :: _ :: gs1) _ rfl rfl rfl hok2 Try.underlying66 i46 z46 s46 y46 rfl (by decide) (fun w h j u hj => match j, hj with | 0, hj => by cases hj; exact h.toHq.cell (i := 0) rfl rfl | j + 1, hj => by simp at hj) rfl rfl (by decide) (by omega) (by unfold maxLen; omega)) (by kernel_rfl) rfl rfl rfl rfl (.inl rfl) (fun y2 hy2 => ?_)
              obtain ⟨sv2', gs2⟩ := y2
              obtain ⟨hok4, bb2, cap2, jk2, hsv⟩ := hy2
              have hsv2 : sv2' = .own bb2 cap2 jk2 := hsv
              subst hsv2
              clear hsv
              refine j_p (i := 14) rfl (y_assign rfl) (by kernel_rfl) (by kernel_rfl) (by kernel_rfl) rfl rfl rfl rfl rfl (.inl rfl) ?_
              refine j_p (i := 15) rfl (y_assign rfl) (by kernel_rfl) (by kernel_rfl) (by kernel_rfl) rfl rfl rfl rfl rfl (.inl rfl) ?_
              refine j_nil (by kernel_rfl) ?_
              refine g_then ?_
              refine fun act W ha hw => ⟨bR, cR, bb1, cap1, jk1, bb2, cap2, jk2, hok3, hok4, ha.weak (sub_get ⟨rfl, rfl, rfl, rfl, rfl, rfl, rfl, rfl, trivial⟩), hw.toHq.pick ((perm_idx [1, 0, 2, 3] [_, _, _, _] rfl).append_right _) ?_⟩
              exact List.Sublist.cons _ (List.Sublist.cons _ (List.Sublist.cons_cons _ (List.Sublist.cons_cons _ (List.Sublist.cons_cons _ (List.Sublist.cons_cons _ ((List.Sublist.cons_cons _ (List.sublist_append_right gs2 _)).trans (List.sublist_append_right gs1 _)))))))
          · skip
            refine i_tr (i := 12) rfl (t_build (vs := [(0, rowV (b.size + 1) cR)]) (cells := [rowV (b.size + 1) cR]) rfl rfl Try.underlying66 i46 z46 (by rw [s46]; rfl) (by rw [s46]; rfl) (by rw [s46]; kernel_rfl)) rfl rfl rfl rfl (.inr (fun x w hb h => (((h.tail hb.2).tail hbR.2).tail hcR.2))) (fun cA hcA => ?_)
            refine j_tr (i := 5) rfl (t_build (vs := [(0, rowV (b.size + 1) bR)]) (cells := [rowV (b.size + 1) bR]) rfl rfl Try.underlying66 i46 z46 (by rw [s46]; rfl) (by rw [s46]; rfl) (by rw [s46]; kernel_rfl)) (by kernel_rfl) rfl rfl rfl rfl (.inr (fun x w hb h => ((((h.tail hb.2).tail hcA.2).tail hbR.2).tail hcR.2))) (fun bA hbA => ?_)
            refine j_tr (i := 6) rfl (t_append (sv := sv1) (n := i) (xs := Bs.map (rowV (b.size + 1))) (news := [rowV (b.size + 1) bR]) [_, _, _, _, _] _ rfl rfl rfl hok1 Try.underlying66 i46 z46 s46 y46 rfl (by decide) (fun w h j u hj => match j, hj with | 0, hj => by cases hj; exact h.toHq.cell (i := 0) rfl rfl | j + 1, hj => by simp at hj) rfl rfl (by decide) (by omega) (by unfold maxLen; omega)) (by kernel_rfl) rfl rfl rfl rfl (.inl rfl) (fun y1 hy1 => ?_)
            obtain ⟨sv1', gs1⟩ := y1
            obtain ⟨hok3, bb1, cap1, jk1, hsv⟩ := hy1
            have hsv2 : sv1' = .own bb1 cap1 jk1 := hsv
            subst hsv2
            clear hsv
            refine j_tr (i := 13) rfl (t_append (sv := sv2) (n := i) (xs := Cs.map (rowV (b.size + 1))) (news := [rowV (b.size + 1) cR]) (_ :: _ :: _ :: _ :: _ :: _ :: gs1) _ rfl rfl rfl hok2 Try.underlying66 i46 z46 s46 y46 rfl (by decide) (fun w h j u hj => match j, hj with | 0, hj => by cases hj; exact h.toHq.cell (i := 1) rfl rfl | j + 1, hj => by simp at hj) rfl rfl (by decide) (by omega) (by unfold maxLen; omega)) (by kernel_rfl) rfl rfl rfl rfl (.inl rfl) (fun y2 hy2 => ?_)
            obtain ⟨sv2', gs2⟩ := y2
            obtain ⟨hok4, bb2, cap2, jk2, hsv⟩ := hy2
            have hsv2 : sv2' = .own bb2 cap2 jk2 := hsv
            subst hsv2
            clear hsv
            refine j_p (i := 14) rfl (y_assign rfl) (by kernel_rfl) (by kernel_rfl) (by kernel_rfl) rfl rfl rfl rfl rfl (.inl rfl) ?_
            refine j_p (i := 15) rfl (y_assign rfl) (by kernel_rfl) (by kernel_rfl) (by kernel_rfl) rfl rfl rfl rfl rfl (.inl rfl) ?_
            refine j_nil (by kernel_rfl) ?_
            refine g_then ?_
            refine fun act W ha hw => ⟨bR, cR, bb1, cap1, jk1, bb2, cap2, jk2, hok3, hok4, ha.weak (sub_get ⟨rfl, rfl, rfl, rfl, rfl, rfl, rfl, rfl, trivial⟩), hw.toHq.pick ((perm_idx [0, 1, 2, 3] [_, _, _, _] rfl).append_right _) ?_⟩
            exact List.Sublist.cons _ (List.Sublist.cons _ (List.Sublist.cons_cons _ (List.Sublist.cons_cons _ (List.Sublist.cons_cons _ (List.Sublist.cons_cons _ ((List.Sublist.cons_cons _ (List.sublist_append_right gs2 _)).trans (List.sublist_append_right gs1 _)))))))
        · skip
          refine i_tr (i := 12) rfl (t_build (vs := [(0, rowV (b.size + 1) cR)]) (cells := [rowV (b.size + 1) cR]) rfl rfl Try.underlying66 i46 z46 (by rw [s46]; rfl) (by rw [s46]; rfl) (by rw [s46]; kernel_rfl)) rfl rfl rfl rfl (.inr (fun x w hb h => ((h.tail hb.2).tail hcR.2))) (fun cA hcA => ?_)
          refine j_tr (i := 4) rfl (t_make (n := b.size + 1) rfl Try.underlying46 i3 z3 s3 rfl (by rw [y3]; omega) (by omega)) (by kernel_rfl) rfl rfl rfl rfl (.inr (fun x w hb h => (((h.tail hb.2).tail hcA.2).tail hcR.2))) (fun bR hbR => ?_)
          refine j_tr (i := 5) rfl (t_build (vs := [(0, rowV (b.size + 1) bR)]) (cells := [rowV (b.size + 1) bR]) rfl rfl Try.underlying66 i46 z46 (by rw [s46]; rfl) (by rw [s46]; rfl) (by rw [s46]; kernel_rfl)) (by kernel_rfl) rfl rfl rfl rfl (.inr (fun x w hb h => ((((h.tail hb.2).tail hbR.2).tail hcA.2).tail hcR.2))) (fun bA hbA => ?_)
          refine j_tr (i := 6) rfl (t_append (sv := sv1) (n := i) (xs := Bs.map (rowV (b.size + 1))) (news := [rowV (b.size + 1) bR]) [_, _, _, _, _] _ rfl rfl rfl hok1 Try.underlying66 i46 z46 s46 y46 rfl (by decide) (fun w h j u hj => match j, hj with | 0, hj => by cases hj; exact h.toHq.cell (i := 0) rfl rfl | j + 1, hj => by simp at hj) rfl rfl (by decide) (by omega) (by unfold maxLen; omega)) (by kernel_rfl) rfl rfl rfl rfl (.inl rfl) (fun y1 hy1 => ?_)
          obtain ⟨sv1', gs1⟩ := y1
          obtain ⟨hok3, bb1, cap1, jk1, hsv⟩ := hy1
          have hsv2 : sv1' = .own bb1 cap1 jk1 := hsv
          subst hsv2
          clear hsv
          refine j_tr (i := 13) rfl (t_append (sv := sv2) (n := i) (xs := Cs.map (rowV (b.size + 1))) (news := [rowV (b.size + 1) cR]) (_ :: _ :: _ :: _ :: _ :: _ :: gs1) _ rfl rfl rfl hok2 Try.underlying66 i46 z46 s46 y46 rfl (by decide) (fun w h j u hj => match j, hj with | 0, hj => by cases hj; exact h.toHq.cell (i := 2) rfl rfl | j + 1, hj => by simp at hj) rfl rfl (by decide) (by omega) (by unfold maxLen; omega)) (by kernel_rfl) rfl rfl rfl rfl (.inl rfl) (fun y2 hy2 => ?_)
          obtain ⟨sv2', gs2⟩ := y2
          obtain ⟨hok4, bb2, cap2, jk2, hsv⟩ := hy2
          have hsv2 : sv2' = .own bb2 cap2 jk2 := hsv
          subst hsv2
          clear hsv
          refine j_p (i := 14) rfl (y_assign rfl) (by kernel_rfl) (by kernel_rfl) (by kernel_rfl) rfl rfl rfl rfl rfl (.inl rfl) ?_
          refine j_p (i := 15) rfl (y_assign rfl) (by kernel_rfl) (by kernel_rfl) (by kernel_rfl) rfl rfl rfl rfl rfl (.inl rfl) ?_
          refine j_nil (by kernel_rfl) ?_
          refine g_then ?_
          refine fun act W ha hw => ⟨bR, cR, bb1, cap1, jk1, bb2, cap2, jk2, hok3, hok4, ha.weak (sub_get ⟨rfl, rfl, rfl, rfl, rfl, rfl, rfl, rfl, trivial⟩), hw.toHq.pick ((perm_idx [0, 2, 1, 3] [_, _, _, _] rfl).append_right _) ?_⟩
          exact List.Sublist.cons _ (List.Sublist.cons _ (List.Sublist.cons_cons _ (List.Sublist.cons_cons _ (List.Sublist.cons_cons _ (List.Sublist.cons_cons _ ((List.Sublist.cons_cons _ (List.sublist_append_right gs2 _)).trans (List.sublist_append_right gs1 _)))))))
    rintro act W ⟨bR, cR, bb1, cap1, jk1, bb2, cap2, jk2, hok3, hok4, ha, hw⟩
    refine g_go ha hw ?_
    clear ha hw act
    refine g_seq ?_
    refine g_region ?_
    refine s_y (y_move rfl) rfl rfl rfl rfl ?_
    refine s_y (y_lens rfl Try.underlying9) rfl rfl rfl rfl ?_
    refine s_y (y_add rfl rfl (by omega) (by omega)) rfl rfl rfl rfl ?_
    refine s_y (y_move rfl) rfl rfl rfl rfl ?_
    refine s_nil ?_
    refine g_then ?_
    refine g_block ?_
    refine g_loop (fun (j : Nat) act W => j ≤ b.size + 1 ∧ Has 140 [] [(42, .int .i64 j), (41, .int .i64 ((b.size : Int) + 1)), (22, .int .i64 i), (21, .int .i64 ((a.size : Int) + 1)), (10, .int .i64 i), (8, (.slice (some ⟨bb1, 0, none⟩) (i + 1) cap1)), (9, (.slice (some ⟨bb2, 0, none⟩) (i + 1) cap2)), (5, .pointer (some ⟨b5, 0, none⟩)), (1, .string b), (0, .string a)] act ∧ ∃ w1, Hp w w1 ((bR, rowO (curRow (D a b pi po ps) (b.size + 1) i j)) :: (cR, rowO (curRow (U a b pi po ps) (b.size + 1) i j)) :: (b5, .cells [.int .i64 pi, .int .i64 po, .int .i64 ps].toArray 23 (0, 0)) :: (bb1, .cells ((Bs.map (rowV (b.size + 1)) ++ [rowV (b.size + 1) bR]) ++ jk1).toArray 46 (0, 0)) :: (bb2, .cells ((Cs.map (rowV (b.size + 1)) ++ [rowV (b.size + 1) cR]) ++ jk2).toArray 46 (0, 0)) :: (rowsM (D a b pi po ps) (b.size + 1) Bs ++ rowsM (U a b pi po ps) (b.size + 1) Cs)) W) (fun j => b.size + 1 - j) 0 (fun act W ha hw => ⟨Nat.zero_le _, ha.weak (sub_get ⟨rfl, rfl, rfl, rfl, rfl, rfl, rfl, rfl, rfl, rfl, trivial⟩), W, ?h0⟩) ?_
    case h0 =>
      rw [show rowO (curRow (D a b pi po ps) (b.size + 1) i 0) = .cells (List.replicate (b.size + 1) (.int .i64 0)).toArray 3 (0, 0) from by rw [curRow_zero, rowO, List.map_replicate]]
      rw [show rowO (curRow (U a b pi po ps) (b.size + 1) i 0) = .cells (List.replicate (b.size + 1) (.int .i64 0)).toArray 3 (0, 0) from by rw [curRow_zero, rowO, List.map_replicate]]
      exact hw.look'
    intro j act W ⟨hj, ha, w1, hw⟩
    refine g_go ha hw ?_
    clear ha hw act W
    have hbl : j < b.size + 1 → ∀ (f : Nat → Nat → Int) (v : Int), Nat.ble (((j : Nat) : Int).toNat + [Value.int .i64 v].length) ((curRow f (b.size + 1) i j).map (Value.int .i64)).length = true := fun h f v => by rw [List.length_map, curRow_len _ _ _ _ (by omega)]; exact Nat.ble_eq_true_of_le (by simp; omega)
    have cr1 : ((Bs.map (rowV (b.size + 1)) ++ [rowV (b.size + 1) bR]) ++ jk1)[((i : Nat) : Int).toNat]? = some (rowV (b.size + 1) bR) := by simp [hBs]
    have cr2 : ((Cs.map (rowV (b.size + 1)) ++ [rowV (b.size + 1) cR]) ++ jk2)[((i : Nat) : Int).toNat]? = some (rowV (b.size + 1) cR) := by simp [hCs]
    refine g_seq ?_
    refine g_region ?_
    refine s_y (y_lss rfl rfl) rfl rfl rfl rfl ?_
    refine s_nil ?_
    refine g_then ?_
    refine g_seq ?_
    refine g_cond rfl (fun hq2 => ?_) (fun hq2 => ?_)
    · (try simp at hq2)
      refine g_skip ?_
      refine g_then ?_
      refine g_seq ?_
      refine g_block ?_
      refine g_seq ?_
      refine g_region ?_
      refine s_y (y_move rfl) rfl rfl rfl rfl ?_
      refine s_y (y_assign rfl) rfl rfl rfl rfl ?_
      refine s_nil ?_
      refine g_then ?_
      refine g_seq ?_
      refine g_seq ?_
      refine g_region ?_
      refine s_y (y_move rfl) rfl rfl rfl rfl ?_
      refine s_y (y_eql rfl rfl) rfl rfl rfl rfl ?_
      refine s_y (y_move rfl) rfl rfl rfl rfl ?_
      refine g_bool 47 rfl (fun hq3 => ?_) (fun hq3 => ?_)
      · (try simp at hq3)
        refine s_y (y_move rfl) rfl rfl rfl rfl ?_
        refine s_y (y_eql rfl rfl) rfl rfl rfl rfl ?_
        refine s_y (y_pick_t rfl rfl) rfl rfl rfl rfl ?_
        refine s_nil ?_
        refine g_then ?_
        refine g_cond rfl (fun hq4 => ?_) (fun hq4 => ?_)
        · (try simp at hq4)
          have crz : ((Cs.map (rowV (b.size + 1)) ++ [rowV (b.size + 1) cR]) ++ jk2)[((0 : Int)).toNat]? = some (rowV (b.size + 1) cR) := by obtain rfl : Cs = [] := List.length_eq_zero_iff.1 (by omega); rfl
          have hbz : Nat.ble (((0 : Int)).toNat + [Value.int .i64 1].length) ((curRow (U a b pi po ps) (b.size + 1) i j).map (Value.int .i64)).length = true := by have h9 := hbl (by omega) (U a b pi po ps) 1; obtain rfl : j = 0 := (by omega); exact h9
          refine g_seq ?_
          refine g_region ?_
          refine s_y (y_move rfl) rfl rfl rfl rfl ?_
          refine s_y (y_idxb1 rfl rfl Try.underlying66 size_46 (by omega) (by omega)) rfl rfl rfl rfl ?_
          refine s_y (y_ld1 4 rfl rfl agg_46 crz) rfl rfl rfl rfl ?_
          refine s_y (y_idxb1 rfl rfl Try.underlying46 size_3 (by omega) (by omega)) rfl rfl rfl rfl ?_
          refine s_tr0 (t_store 1 rfl rfl rfl rfl size_3 hbz rfl) rfl rfl rfl (fun _ _ => ?_)
          refine s_nil ?_
          refine g_then ?_
          refine g_exit ?_
          refine g_thenx ?_
          refine g_inbx ?_
          refine g_then ?_
          refine g_region ?_
          refine s_y (y_add rfl rfl (by omega) (by omega)) rfl rfl rfl rfl ?_
          refine s_y (y_move rfl) rfl rfl rfl rfl ?_
          refine s_nil ?_
          refine g_then ?_
          refine fun act W ha hw => ⟨j + 1, by omega, by omega, ha.weak (sub_get ⟨rfl, rfl, rfl, rfl, rfl, rfl, rfl, rfl, rfl, rfl, trivial⟩), W, ?_⟩
          obtain ⟨hi0, hj0⟩ : i = 0 ∧ j = 0 := by omega
          subst hi0; subst hj0
          rw [show rowO (curRow (D a b pi po ps) (b.size + 1) 0 (0 + 1)) = rowO (curRow (D a b pi po ps) (b.size + 1) 0 0) from by rw [rowO, rowO, ← row_store (D a b pi po ps) _ 0 0 0 (by omega) (by unfold D; rw [EM.C_00])]; rw [curRow_zero, List.map_replicate, setCs_cons, setCs_nil]; simp [List.replicate_succ]]
          rw [show rowO (curRow (U a b pi po ps) (b.size + 1) 0 (0 + 1)) = .cells (setCs ((curRow (U a b pi po ps) (b.size + 1) 0 0).map (Value.int .i64)) ((0 : Nat) : Int).toNat [.int .i64 1]).toArray 3 (0, 0) from by rw [row_store _ _ _ _ _ (by omega) (by unfold U; rw [EM.W_00])]; try rfl]
          exact hw.look'
        · (try simp at hq4)
          refine g_skip ?_
          refine g_then ?_
          refine g_seq ?_
          refine g_region ?_
          refine s_y (y_assign rfl) rfl rfl rfl rfl ?_
          refine s_y (y_assign rfl) rfl rfl rfl rfl ?_
          refine s_nil ?_
          refine g_then ?_
          refine g_seq ?_
          refine g_seq ?_
          refine g_region ?_
          refine s_y (y_move rfl) rfl rfl rfl rfl ?_
          refine s_nil ?_
          refine g_then ?_
          refine g_block ?_
          refine g_loop (fun (k : Nat) act W => k ≤ 3 ∧ Has 140 [] [(55, .int .i64 k), (12, .int .i64 (costSt a b pi po ps i j k).1), (13, .int .i64 (costSt a b pi po ps i j k).2), (11, .int .i64 j), (42, .int .i64 j), (41, .int .i64 ((b.size : Int) + 1)), (22, .int .i64 i), (21, .int .i64 ((a.size : Int) + 1)), (10, .int .i64 i), (8, (.slice (some ⟨bb1, 0, none⟩) (i + 1) cap1)), (9, (.slice (some ⟨bb2, 0, none⟩) (i + 1) cap2)), (5, .pointer (some ⟨b5, 0, none⟩)), (1, .string b), (0, .string a)] act ∧ ∃ w1, Hp w w1 ((bR, rowO (curRow (D a b pi po ps) (b.size + 1) i j)) :: (cR, rowO (curRow (U a b pi po ps) (b.size + 1) i j)) :: (b5, .cells [.int .i64 pi, .int .i64 po, .int .i64 ps].toArray 23 (0, 0)) :: (bb1, .cells ((Bs.map (rowV (b.size + 1)) ++ [rowV (b.size + 1) bR]) ++ jk1).toArray 46 (0, 0)) :: (bb2, .cells ((Cs.map (rowV (b.size + 1)) ++ [rowV (b.size + 1) cR]) ++ jk2).toArray 46 (0, 0)) :: (rowsM (D a b pi po ps) (b.size + 1) Bs ++ rowsM (U a b pi po ps) (b.size + 1) Cs)) W) (fun k => 3 - k) 0 (fun act W ha hw => ⟨Nat.zero_le _, ha.weak (sub_get ⟨rfl, rfl, rfl, rfl, rfl, rfl, rfl, rfl, rfl, rfl, rfl, rfl, rfl, rfl, trivial⟩), _, hw⟩) ?_
          intro k act W ⟨hk, ha, w1, hw⟩
          refine g_go ha hw ?_
          clear ha hw act W
          have hcr := costSt_range (a := a) (b := b) (i := i) (j := j) hp (by omega) (by omega) k
          have look : ∀ (i' j' : Int) (ni nj : Nat), i' = ni → j' = nj → ((ni < i ∧ nj < b.size + 1) ∨ (ni = i ∧ nj < j)) → ∃ B B2 cs cs2, ((Bs.map (rowV (b.size + 1)) ++ [rowV (b.size + 1) bR]) ++ jk1)[i'.toNat]? = some (rowV (b.size + 1) B) ∧ (B, Obj.cells (List.toArray cs) 3 (0, 0)) ∈ ((bR, rowO (curRow (D a b pi po ps) (b.size + 1) i j)) :: (cR, rowO (curRow (U a b pi po ps) (b.size + 1) i j)) :: (b5, .cells [.int .i64 pi, .int .i64 po, .int .i64 ps].toArray 23 (0, 0)) :: (bb1, .cells ((Bs.map (rowV (b.size + 1)) ++ [rowV (b.size + 1) bR]) ++ jk1).toArray 46 (0, 0)) :: (bb2, .cells ((Cs.map (rowV (b.size + 1)) ++ [rowV (b.size + 1) cR]) ++ jk2).toArray 46 (0, 0)) :: (rowsM (D a b pi po ps) (b.size + 1) Bs ++ rowsM (U a b pi po ps) (b.size + 1) Cs)) ∧ cs[j'.toNat]? = some (.int .i64 (D a b pi po ps ni nj)) ∧
            ((Cs.map (rowV (b.size + 1)) ++ [rowV (b.size + 1) cR]) ++ jk2)[i'.toNat]? = some (rowV (b.size + 1) B2) ∧ (B2, Obj.cells (List.toArray cs2) 3 (0, 0)) ∈ ((bR, rowO (curRow (D a b pi po ps) (b.size + 1) i j)) :: (cR, rowO (curRow (U a b pi po ps) (b.size + 1) i j)) :: (b5, .cells [.int .i64 pi, .int .i64 po, .int .i64 ps].toArray 23 (0, 0)) :: (bb1, .cells ((Bs.map (rowV (b.size + 1)) ++ [rowV (b.size + 1) bR]) ++ jk1).toArray 46 (0, 0)) :: (bb2, .cells ((Cs.map (rowV (b.size + 1)) ++ [rowV (b.size + 1) cR]) ++ jk2).toArray 46 (0, 0)) :: (rowsM (D a b pi po ps) (b.size + 1) Bs ++ rowsM (U a b pi po ps) (b.size + 1) Cs)) ∧ cs2[j'.toNat]? = some (.int .i64 (U a b pi po ps ni nj)) := by
            rintro _ _ ni nj rfl rfl h
            rw [Int.toNat_natCast, Int.toNat_natCast]
            rcases h with ⟨h1, h2⟩ | ⟨rfl, h2⟩
            · obtain ⟨B, hB⟩ : ∃ B, Bs[ni]? = some B := ⟨Bs[ni]'(by omega), List.getElem?_eq_getElem _⟩
              obtain ⟨B2, hB2⟩ : ∃ B, Cs[ni]? = some B := ⟨Cs[ni]'(by omega), List.getElem?_eq_getElem _⟩
              have m1 := rowsM_mem (D a b pi po ps) (b.size + 1) Bs ni B hB
              have m2 := rowsM_mem (U a b pi po ps) (b.size + 1) Cs ni B2 hB2
              refine ⟨B, B2, _, _, ?_, List.mem_append_right [_, _, _, _, _] (List.mem_append_left _ m1), ?_, ?_, List.mem_append_right [_, _, _, _, _] (List.mem_append_right _ m2), ?_⟩
              · rw [List.append_assoc, List.getElem?_append_left (by rw [List.length_map]; omega), List.getElem?_map, hB]; rfl
              · rw [List.getElem?_map, tabRow_at _ _ _ _ h2]; rfl
              · rw [List.append_assoc, List.getElem?_append_left (by rw [List.length_map]; omega), List.getElem?_map, hB2]; rfl
              · rw [List.getElem?_map, tabRow_at _ _ _ _ h2]; rfl
            · refine ⟨bR, cR, _, _, cr1, List.Mem.head _, ?_, cr2, List.Mem.tail _ (List.Mem.head _), ?_⟩
              · rw [List.getElem?_map, curRow_at _ _ _ _ _ h2]; rfl
              · rw [List.getElem?_map, curRow_at _ _ _ _ _ h2]; rfl
          refine g_seq ?_
          refine g_region ?_
          refine s_y (y_lss rfl rfl) rfl rfl rfl rfl ?_
          refine s_nil ?_
          refine g_then ?_
          refine g_seq ?_
          refine g_cond rfl (fun hq5 => ?_) (fun hq5 => ?_)
          · (try simp at hq5)
            refine g_skip ?_
            refine g_then ?_
            refine g_seq ?_
            refine g_block ?_
            refine g_seq ?_
            refine g_region ?_
            refine s_y (y_move rfl) rfl rfl rfl rfl ?_
            refine s_y (y_assign rfl) rfl rfl rfl rfl ?_
            refine s_nil ?_
            refine g_then ?_
            refine g_seq ?_
            refine g_draw 9 (by kernel_rfl) ?_
            refine j_p (i := 0) rfl (y_move rfl) (by kernel_rfl) (by kernel_rfl) (by kernel_rfl) rfl rfl rfl rfl rfl (.inr (fun _ h => h)) ?_
            refine j_p (i := 1) rfl (y_sub rfl rfl (by omega) (by omega)) (by kernel_rfl) (by kernel_rfl) (by kernel_rfl) rfl rfl rfl rfl rfl (.inr (fun _ h => h)) ?_
            refine j_p (i := 2) rfl (y_move rfl) (by kernel_rfl) (by kernel_rfl) (by kernel_rfl) rfl rfl rfl rfl rfl (.inr (fun _ h => h)) ?_
            refine j_p (i := 3) rfl (y_sub rfl rfl (by omega) (by omega)) (by kernel_rfl) (by kernel_rfl) (by kernel_rfl) rfl rfl rfl rfl rfl (.inr (fun _ h => h)) ?_
            refine j_p (i := 4) rfl (y_fld rfl (fun w => fld_23_2 _ _ w)) (by kernel_rfl) (by kernel_rfl) (by kernel_rfl) rfl rfl rfl rfl rfl (.inr (fun _ h => h)) ?_
            refine j_l (i := 5) rfl (y_ld1 2 rfl rfl agg_3 rfl) (by kernel_rfl) (by kernel_rfl) (by kernel_rfl) (by kernel_rfl) rfl rfl rfl rfl rfl (.inr (fun _ h => h)) ?_
            refine j_p (i := 6) rfl (y_assign rfl) (by kernel_rfl) (by kernel_rfl) (by kernel_rfl) rfl rfl rfl rfl rfl (.inr (fun _ h => h)) ?_
            refine j_p (i := 7) rfl (y_assign rfl) (by kernel_rfl) (by kernel_rfl) (by kernel_rfl) rfl rfl rfl rfl rfl (.inr (fun _ h => h)) ?_
            refine j_p (i := 8) rfl (y_assign rfl) (by kernel_rfl) (by kernel_rfl) (by kernel_rfl) rfl rfl rfl rfl rfl (.inr (fun _ h => h)) ?_
            refine j_nil (by kernel_rfl) ?_
            refine g_then ?_
            refine g_seq ?_
            refine g_seq ?_
            refine g_region ?_
            refine s_y (y_move rfl) rfl rfl rfl rfl ?_
            refine s_nil ?_
            refine g_then ?_
            refine g_block ?_
            refine g_seq ?_
            refine g_region ?_
            refine s_y (y_eql rfl rfl) rfl rfl rfl rfl ?_
            refine s_y (y_assign rfl) rfl rfl rfl rfl ?_
            refine s_nil ?_
            refine g_then ?_
            refine g_cond rfl (fun hq6 => ?_) (fun hq6 => ?_)
            · (try simp at hq6)
              refine g_draw 5 (by kernel_rfl) ?_
              refine j_p (i := 0) rfl (y_move rfl) (by kernel_rfl) (by kernel_rfl) (by kernel_rfl) rfl rfl rfl rfl rfl (.inr (fun _ h => h)) ?_
              refine j_p (i := 1) rfl (y_fld rfl (fun w => fld_23_1 _ _ w)) (by kernel_rfl) (by kernel_rfl) (by kernel_rfl) rfl rfl rfl rfl rfl (.inr (fun _ h => h)) ?_
              refine j_l (i := 2) rfl (y_ld1 2 rfl rfl agg_3 rfl) (by kernel_rfl) (by kernel_rfl) (by kernel_rfl) (by kernel_rfl) rfl rfl rfl rfl rfl (.inr (fun _ h => h)) ?_
              refine j_p (i := 3) rfl (y_assign rfl) (by kernel_rfl) (by kernel_rfl) (by kernel_rfl) rfl rfl rfl rfl rfl (.inr (fun _ h => h)) ?_
              refine j_p (i := 4) rfl (y_assign rfl) (by kernel_rfl) (by kernel_rfl) (by kernel_rfl) rfl rfl rfl rfl rfl (.inr (fun _ h => h)) ?_
              refine j_nil (by kernel_rfl) ?_
              refine g_inb ?_
              refine g_then ?_
              refine g_seq ?_
              refine g_seq ?_
              refine g_region ?_
              refine s_y (y_move rfl) rfl rfl rfl rfl ?_
              refine s_y (y_lss rfl rfl) rfl rfl rfl rfl ?_
              refine s_y (y_move rfl) rfl rfl rfl rfl ?_
              refine g_bool 77 rfl (fun hq7 => ?_) (fun hq7 => ?_)
              · (try simp at hq7)
                refine s_no rfl rfl rfl ?_
                refine s_no rfl rfl rfl ?_
                refine s_y (y_pick_t rfl rfl) rfl rfl rfl rfl ?_
                refine s_nil ?_
                refine g_then ?_
                refine g_cond_t rfl ?_
                refine g_exit ?_
                refine g_thenx ?_
                refine g_inbx ?_
                refine g_then ?_
                refine g_region ?_
                refine s_y (y_add rfl rfl (by omega) (by omega)) rfl rfl rfl rfl ?_
                refine s_y (y_move rfl) rfl rfl rfl rfl ?_
                refine s_nil ?_
                refine g_then ?_
                have hcand : candC a b pi po ps i j k = none := by
                  have hk' : k = 0 ∨ k = 1 ∨ k = 2 := by omega
                  rcases hk' with rfl | rfl | rfl
                  all_goals (unfold candC; simp only [show ((0 : Nat) = 0) = True from by simp, show ((1 : Nat) = 0) = False from by simp, show ((2 : Nat) = 0) = False from by simp, show ((1 : Nat) = 1) = True from by simp, show ((2 : Nat) = 1) = False from by simp, if_true, if_false]; exact if_neg (by omega))
                have e := costSt_none hcand
                refine fun act W ha hw => ⟨k + 1, by omega, by omega, ?_, _, hw⟩
                rw [e]
                exact ha.weak (sub_get ⟨rfl, rfl, rfl, rfl, rfl, rfl, rfl, rfl, rfl, rfl, rfl, rfl, rfl, rfl, trivial⟩)
              · (try simp at hq7)
                refine s_y (y_move rfl) rfl rfl rfl rfl ?_
                refine s_y (y_lss rfl rfl) rfl rfl rfl rfl ?_
                refine s_y (y_pick_f rfl rfl) rfl rfl rfl rfl ?_
                refine s_nil ?_
                refine g_then ?_
                refine g_cond rfl (fun hq8 => ?_) (fun hq8 => ?_)
                · (try simp at hq8)
                  all_goals (exfalso; omega)
                · (try simp at hq8)
                  refine g_skip ?_
                  refine g_then ?_
                  refine g_seq ?_
                  refine g_seq ?_
                  have hk0 : k = 0 := by omega
                  subst hk0
                  obtain ⟨B, B2, cs, cs2, hrs, hB, hc, hrs2, hB2, hc2⟩ := look ((i : Int) - 1) (j : Int) (i - 1) j (by omega) (by omega) (by omega)
                  have hDr := D_range (a := a) (b := b) hp.1 hp.2.1 hp.2.2 (i - 1) j
                  have hUr := U_range a b pi po ps (i := (i - 1)) (j := j) (by omega)
                  have hcand : candC a b pi po ps i j 0 = some (D a b pi po ps (i - 1) j + po, U a b pi po ps (i - 1) j) := by unfold candC; rw [if_pos rfl]; exact if_pos (by omega)
                  refine g_draw 11 (by kernel_rfl) ?_
                  refine j_p (i := 0) rfl (y_move rfl) (by kernel_rfl) (by kernel_rfl) (by kernel_rfl) rfl rfl rfl rfl rfl (.inr (fun _ h => h)) ?_
                  refine j_p (i := 1) rfl (y_eql rfl rfl) (by kernel_rfl) (by kernel_rfl) (by kernel_rfl) rfl rfl rfl rfl rfl (.inr (fun _ h => h)) ?_
                  refine j_p (i := 2) rfl (y_move rfl) (by kernel_rfl) (by kernel_rfl) (by kernel_rfl) rfl rfl rfl rfl rfl (.inr (fun _ h => h)) ?_
                  refine g_bool 83 rfl (fun hq9 => ?_) (fun hq9 => ?_)
                  · (try simp at hq9)
                    all_goals (exfalso; omega)
                  · (try simp at hq9)
                    refine j_no (i := 3) rfl (by kernel_rfl) (by kernel_rfl) (by kernel_rfl) rfl rfl rfl rfl rfl (.inr (fun _ h => h)) ?_
                    refine j_no (i := 4) rfl (by kernel_rfl) (by kernel_rfl) (by kernel_rfl) rfl rfl rfl rfl rfl (.inr (fun _ h => h)) ?_
                    refine j_no (i := 5) rfl (by kernel_rfl) (by kernel_rfl) (by kernel_rfl) rfl rfl rfl rfl rfl (.inr (fun _ h => h)) ?_
                    refine j_no (i := 6) rfl (by kernel_rfl) (by kernel_rfl) (by kernel_rfl) rfl rfl rfl rfl rfl (.inr (fun _ h => h)) ?_
                    refine j_no (i := 7) rfl (by kernel_rfl) (by kernel_rfl) (by kernel_rfl) rfl rfl rfl rfl rfl (.inr (fun _ h => h)) ?_
                    refine j_no (i := 8) rfl (by kernel_rfl) (by kernel_rfl) (by kernel_rfl) rfl rfl rfl rfl rfl (.inr (fun _ h => h)) ?_
                    refine j_no (i := 9) rfl (by kernel_rfl) (by kernel_rfl) (by kernel_rfl) rfl rfl rfl rfl rfl (.inr (fun _ h => h)) ?_
                    refine j_p (i := 10) rfl (y_pick_f rfl rfl) (by kernel_rfl) (by kernel_rfl) (by kernel_rfl) rfl rfl rfl rfl rfl (.inr (fun _ h => h)) ?_
                    refine j_nil (by kernel_rfl) ?_
                    refine g_then ?_
                    refine g_cond_f rfl ?_
                    refine g_skip ?_
                    refine g_then ?_
                    refine g_seq ?_
                    refine g_region ?_
                    refine s_y (y_move rfl) rfl rfl rfl rfl ?_
                    refine s_y (y_move rfl) rfl rfl rfl rfl ?_
                    refine s_y (y_idxb1 rfl rfl Try.underlying66 size_46 (by omega) (by omega)) rfl rfl rfl rfl ?_
                    refine s_y (y_ld1 3 rfl rfl agg_46 hrs) rfl rfl rfl rfl ?_
                    refine s_y (y_move rfl) rfl rfl rfl rfl ?_
                    refine s_y (y_idxb1 rfl rfl Try.underlying46 size_3 (by omega) (by omega)) rfl rfl rfl rfl ?_
                    refine s_y (y_ldM hB rfl agg_3 hc) rfl rfl rfl rfl ?_
                    refine s_y (y_move rfl) rfl rfl rfl rfl ?_
                    refine s_y (y_add rfl rfl (by omega) (by omega)) rfl rfl rfl rfl ?_
                    refine s_y (y_assign rfl) rfl rfl rfl rfl ?_
                    refine s_nil ?_
                    refine g_then ?_
                    refine g_seq ?_
                    refine g_seq ?_
                    refine g_region ?_
                    refine s_y (y_move rfl) rfl rfl rfl rfl ?_
                    refine s_y (y_lss rfl rfl) rfl rfl rfl rfl ?_
                    refine s_y (y_move rfl) rfl rfl rfl rfl ?_
                    refine g_bool 103 rfl (fun hq10 => ?_) (fun hq10 => ?_)
                    · (try simp at hq10)
                      refine s_no rfl rfl rfl ?_
                      refine s_no rfl rfl rfl ?_
                      refine s_no rfl rfl rfl ?_
                      refine s_y (y_pick_t rfl rfl) rfl rfl rfl rfl ?_
                      refine s_nil ?_
                      refine g_then ?_
                      refine g_cond_t rfl ?_
                      refine g_region ?_
                      refine s_y (y_move rfl) rfl rfl rfl rfl ?_
                      refine s_y (y_assign rfl) rfl rfl rfl rfl ?_
                      refine s_y (y_assign rfl) rfl rfl rfl rfl ?_
                      refine s_nil ?_
                      refine g_then ?_
                      refine g_seq ?_
                      refine g_region ?_
                      refine s_y (y_move rfl) rfl rfl rfl rfl ?_
                      refine s_y (y_move rfl) rfl rfl rfl rfl ?_
                      refine s_y (y_eql rfl rfl) rfl rfl rfl rfl ?_
                      refine s_nil ?_
                      refine g_then ?_
                      refine g_cond rfl (fun hq11 => ?_) (fun hq11 => ?_)
                      · (try simp at hq11)
                        refine g_region ?_
                        refine s_y (y_move rfl) rfl rfl rfl rfl ?_
                        refine s_y (y_move rfl) rfl rfl rfl rfl ?_
                        refine s_y (y_move rfl) rfl rfl rfl rfl ?_
                        refine s_y (y_idxb1 rfl rfl Try.underlying66 size_46 (by omega) (by omega)) rfl rfl rfl rfl ?_
                        refine s_y (y_ld1 4 rfl rfl agg_46 hrs2) rfl rfl rfl rfl ?_
                        refine s_y (y_move rfl) rfl rfl rfl rfl ?_
                        refine s_y (y_idxb1 rfl rfl Try.underlying46 size_3 (by omega) (by omega)) rfl rfl rfl rfl ?_
                        refine s_y (y_ldM hB2 rfl agg_3 hc2) rfl rfl rfl rfl ?_
                        refine s_y (y_add rfl rfl (by omega) (by omega)) rfl rfl rfl rfl ?_
                        refine s_y (y_assign rfl) rfl rfl rfl rfl ?_
                        refine s_nil ?_
                        refine g_inb ?_
                        refine g_then ?_
                        refine g_region ?_
                        refine s_y (y_add rfl rfl (by omega) (by omega)) rfl rfl rfl rfl ?_
                        refine s_y (y_move rfl) rfl rfl rfl rfl ?_
                        refine s_nil ?_
                        refine g_then ?_
                        have hcg := cand_range hp (by omega) (by omega) hcand
                        have e := costSt_lt hcand (by omega)
                        refine fun act W ha hw => ⟨0 + 1, by omega, by omega, ?_, _, hw⟩
                        rw [e]
                        exact ha.weak (sub_get ⟨rfl, rfl, rfl, rfl, rfl, rfl, rfl, rfl, rfl, rfl, rfl, rfl, rfl, rfl, trivial⟩)
                      · (try simp at hq11)
                        all_goals (exfalso; omega)
                    · (try simp at hq10)
                      refine s_y (y_move rfl) rfl rfl rfl rfl ?_
                      refine s_y (y_move rfl) rfl rfl rfl rfl ?_
                      refine s_y (y_lss rfl rfl) rfl rfl rfl rfl ?_
                      refine s_y (y_pick_f rfl rfl) rfl rfl rfl rfl ?_
                      refine s_nil ?_
                      refine g_then ?_
                      refine g_cond rfl (fun hq12 => ?_) (fun hq12 => ?_)
                      · (try simp at hq12)
                        refine g_region ?_
                        refine s_y (y_move rfl) rfl rfl rfl rfl ?_
                        refine s_y (y_assign rfl) rfl rfl rfl rfl ?_
                        refine s_y (y_assign rfl) rfl rfl rfl rfl ?_
                        refine s_nil ?_
                        refine g_then ?_
                        refine g_seq ?_
                        refine g_region ?_
                        refine s_y (y_move rfl) rfl rfl rfl rfl ?_
                        refine s_y (y_move rfl) rfl rfl rfl rfl ?_
                        refine s_y (y_eql rfl rfl) rfl rfl rfl rfl ?_
                        refine s_nil ?_
                        refine g_then ?_
                        refine g_cond rfl (fun hq13 => ?_) (fun hq13 => ?_)
                        · (try simp at hq13)
                          refine g_region ?_
                          refine s_y (y_move rfl) rfl rfl rfl rfl ?_
                          refine s_y (y_move rfl) rfl rfl rfl rfl ?_
                          refine s_y (y_move rfl) rfl rfl rfl rfl ?_
                          refine s_y (y_idxb1 rfl rfl Try.underlying66 size_46 (by omega) (by omega)) rfl rfl rfl rfl ?_
                          refine s_y (y_ld1 4 rfl rfl agg_46 hrs2) rfl rfl rfl rfl ?_
                          refine s_y (y_move rfl) rfl rfl rfl rfl ?_
                          refine s_y (y_idxb1 rfl rfl Try.underlying46 size_3 (by omega) (by omega)) rfl rfl rfl rfl ?_
                          refine s_y (y_ldM hB2 rfl agg_3 hc2) rfl rfl rfl rfl ?_
                          refine s_y (y_add rfl rfl (by omega) (by omega)) rfl rfl rfl rfl ?_
                          refine s_y (y_assign rfl) rfl rfl rfl rfl ?_
                          refine s_nil ?_
                          refine g_inb ?_
                          refine g_then ?_
                          refine g_region ?_
                          refine s_y (y_add rfl rfl (by omega) (by omega)) rfl rfl rfl rfl ?_
                          refine s_y (y_move rfl) rfl rfl rfl rfl ?_
                          refine s_nil ?_
                          refine g_then ?_
                          have hcg := cand_range hp (by omega) (by omega) hcand
                          have e := costSt_lt hcand (by omega)
                          refine fun act W ha hw => ⟨0 + 1, by omega, by omega, ?_, _, hw⟩
                          rw [e]
                          exact ha.weak (sub_get ⟨rfl, rfl, rfl, rfl, rfl, rfl, rfl, rfl, rfl, rfl, rfl, rfl, rfl, rfl, trivial⟩)
                        · (try simp at hq13)
                          all_goals (exfalso; omega)
                      · (try simp at hq12)
                        refine g_skip ?_
                        refine g_then ?_
                        refine g_seq ?_
                        refine g_region ?_
                        refine s_y (y_move rfl) rfl rfl rfl rfl ?_
                        refine s_y (y_move rfl) rfl rfl rfl rfl ?_
                        refine s_y (y_eql rfl rfl) rfl rfl rfl rfl ?_
                        refine s_nil ?_
                        refine g_then ?_
                        refine g_cond rfl (fun hq14 => ?_) (fun hq14 => ?_)
                        · (try simp at hq14)
                          refine g_region ?_
                          refine s_y (y_move rfl) rfl rfl rfl rfl ?_
                          refine s_y (y_move rfl) rfl rfl rfl rfl ?_
                          refine s_y (y_move rfl) rfl rfl rfl rfl ?_
                          refine s_y (y_idxb1 rfl rfl Try.underlying66 size_46 (by omega) (by omega)) rfl rfl rfl rfl ?_
                          refine s_y (y_ld1 4 rfl rfl agg_46 hrs2) rfl rfl rfl rfl ?_
                          refine s_y (y_move rfl) rfl rfl rfl rfl ?_
                          refine s_y (y_idxb1 rfl rfl Try.underlying46 size_3 (by omega) (by omega)) rfl rfl rfl rfl ?_
                          refine s_y (y_ldM hB2 rfl agg_3 hc2) rfl rfl rfl rfl ?_
                          refine s_y (y_add rfl rfl (by omega) (by omega)) rfl rfl rfl rfl ?_
                          refine s_y (y_assign rfl) rfl rfl rfl rfl ?_
                          refine s_nil ?_
                          refine g_inb ?_
                          refine g_then ?_
                          refine g_region ?_
                          refine s_y (y_add rfl rfl (by omega) (by omega)) rfl rfl rfl rfl ?_
                          refine s_y (y_move rfl) rfl rfl rfl rfl ?_
                          refine s_nil ?_
                          refine g_then ?_
                          have hcg := cand_range hp (by omega) (by omega) hcand
                          have e := costSt_eq hcand (by omega) (by omega)
                          refine fun act W ha hw => ⟨0 + 1, by omega, by omega, ?_, _, hw⟩
                          rw [e]
                          exact ha.weak (sub_get ⟨rfl, rfl, rfl, rfl, rfl, rfl, rfl, rfl, rfl, rfl, rfl, rfl, rfl, rfl, trivial⟩)
                        · (try simp at hq14)
                          refine g_skip ?_
                          refine g_inb ?_
                          refine g_then ?_
                          refine g_region ?_
                          refine s_y (y_add rfl rfl (by omega) (by omega)) rfl rfl rfl rfl ?_
                          refine s_y (y_move rfl) rfl rfl rfl rfl ?_
                          refine s_nil ?_
                          refine g_then ?_
                          have hcg := cand_range hp (by omega) (by omega) hcand
                          have e := costSt_gt hcand (by omega) (by omega)
                          refine fun act W ha hw => ⟨0 + 1, by omega, by omega, ?_, _, hw⟩
                          rw [e]
                          exact ha.weak (sub_get ⟨rfl, rfl, rfl, rfl, rfl, rfl, rfl, rfl, rfl, rfl, rfl, rfl, rfl, rfl, trivial⟩)
            · (try simp at hq6)
              refine g_seq ?_
              refine g_region ?_
              refine s_y (y_eql rfl rfl) rfl rfl rfl rfl ?_
              refine s_y (y_assign rfl) rfl rfl rfl rfl ?_
              refine s_nil ?_
              refine g_then ?_
              refine g_cond rfl (fun hq15 => ?_) (fun hq15 => ?_)
              · (try simp at hq15)
                refine g_draw 5 (by kernel_rfl) ?_
                refine j_p (i := 0) rfl (y_move rfl) (by kernel_rfl) (by kernel_rfl) (by kernel_rfl) rfl rfl rfl rfl rfl (.inr (fun _ h => h)) ?_
                refine j_p (i := 1) rfl (y_fld rfl (fun w => fld_23_0 _ _ w)) (by kernel_rfl) (by kernel_rfl) (by kernel_rfl) rfl rfl rfl rfl rfl (.inr (fun _ h => h)) ?_
                refine j_l (i := 2) rfl (y_ld1 2 rfl rfl agg_3 rfl) (by kernel_rfl) (by kernel_rfl) (by kernel_rfl) (by kernel_rfl) rfl rfl rfl rfl rfl (.inr (fun _ h => h)) ?_
                refine j_p (i := 3) rfl (y_assign rfl) (by kernel_rfl) (by kernel_rfl) (by kernel_rfl) rfl rfl rfl rfl rfl (.inr (fun _ h => h)) ?_
                refine j_p (i := 4) rfl (y_assign rfl) (by kernel_rfl) (by kernel_rfl) (by kernel_rfl) rfl rfl rfl rfl rfl (.inr (fun _ h => h)) ?_
                refine j_nil (by kernel_rfl) ?_
                refine g_inb ?_
                refine g_then ?_
                refine g_seq ?_
                refine g_seq ?_
                refine g_region ?_
                refine s_y (y_move rfl) rfl rfl rfl rfl ?_
                refine s_y (y_lss rfl rfl) rfl rfl rfl rfl ?_
                refine s_y (y_move rfl) rfl rfl rfl rfl ?_
                refine g_bool 77 rfl (fun hq16 => ?_) (fun hq16 => ?_)
                · (try simp at hq16)
                  all_goals (exfalso; omega)
                · (try simp at hq16)
                  refine s_y (y_move rfl) rfl rfl rfl rfl ?_
                  refine s_y (y_lss rfl rfl) rfl rfl rfl rfl ?_
                  refine s_y (y_pick_f rfl rfl) rfl rfl rfl rfl ?_
                  refine s_nil ?_
                  refine g_then ?_
                  refine g_cond rfl (fun hq17 => ?_) (fun hq17 => ?_)
                  · (try simp at hq17)
                    refine g_exit ?_
                    refine g_thenx ?_
                    refine g_inbx ?_
                    refine g_then ?_
                    refine g_region ?_
                    refine s_y (y_add rfl rfl (by omega) (by omega)) rfl rfl rfl rfl ?_
                    refine s_y (y_move rfl) rfl rfl rfl rfl ?_
                    refine s_nil ?_
                    refine g_then ?_
                    have hcand : candC a b pi po ps i j k = none := by
                      have hk' : k = 0 ∨ k = 1 ∨ k = 2 := by omega
                      rcases hk' with rfl | rfl | rfl
                      all_goals (unfold candC; simp only [show ((0 : Nat) = 0) = True from by simp, show ((1 : Nat) = 0) = False from by simp, show ((2 : Nat) = 0) = False from by simp, show ((1 : Nat) = 1) = True from by simp, show ((2 : Nat) = 1) = False from by simp, if_true, if_false]; exact if_neg (by omega))
                    have e := costSt_none hcand
                    refine fun act W ha hw => ⟨k + 1, by omega, by omega, ?_, _, hw⟩
                    rw [e]
                    exact ha.weak (sub_get ⟨rfl, rfl, rfl, rfl, rfl, rfl, rfl, rfl, rfl, rfl, rfl, rfl, rfl, rfl, trivial⟩)
                  · (try simp at hq17)
                    refine g_skip ?_
                    refine g_then ?_
                    refine g_seq ?_
                    refine g_seq ?_
                    have hk0 : k = 1 := by omega
                    subst hk0
                    obtain ⟨B, B2, cs, cs2, hrs, hB, hc, hrs2, hB2, hc2⟩ := look (i : Int) ((j : Int) - 1) i (j - 1) (by omega) (by omega) (by omega)
                    have hDr := D_range (a := a) (b := b) hp.1 hp.2.1 hp.2.2 i (j - 1)
                    have hUr := U_range a b pi po ps (i := i) (j := (j - 1)) (by omega)
                    have hcand : candC a b pi po ps i j 1 = some (D a b pi po ps i (j - 1) + pi, U a b pi po ps i (j - 1)) := by unfold candC; rw [if_neg (by decide), if_pos rfl]; exact if_pos (by omega)
                    refine g_draw 11 (by kernel_rfl) ?_
                    refine j_p (i := 0) rfl (y_move rfl) (by kernel_rfl) (by kernel_rfl) (by kernel_rfl) rfl rfl rfl rfl rfl (.inr (fun _ h => h)) ?_
                    refine j_p (i := 1) rfl (y_eql rfl rfl) (by kernel_rfl) (by kernel_rfl) (by kernel_rfl) rfl rfl rfl rfl rfl (.inr (fun _ h => h)) ?_
                    refine j_p (i := 2) rfl (y_move rfl) (by kernel_rfl) (by kernel_rfl) (by kernel_rfl) rfl rfl rfl rfl rfl (.inr (fun _ h => h)) ?_
                    refine g_bool 83 rfl (fun hq18 => ?_) (fun hq18 => ?_)
                    · (try simp at hq18)
                      all_goals (exfalso; omega)
                    · (try simp at hq18)
                      refine j_no (i := 3) rfl (by kernel_rfl) (by kernel_rfl) (by kernel_rfl) rfl rfl rfl rfl rfl (.inr (fun _ h => h)) ?_
                      refine j_no (i := 4) rfl (by kernel_rfl) (by kernel_rfl) (by kernel_rfl) rfl rfl rfl rfl rfl (.inr (fun _ h => h)) ?_
                      refine j_no (i := 5) rfl (by kernel_rfl) (by kernel_rfl) (by kernel_rfl) rfl rfl rfl rfl rfl (.inr (fun _ h => h)) ?_
                      refine j_no (i := 6) rfl (by kernel_rfl) (by kernel_rfl) (by kernel_rfl) rfl rfl rfl rfl rfl (.inr (fun _ h => h)) ?_
                      refine j_no (i := 7) rfl (by kernel_rfl) (by kernel_rfl) (by kernel_rfl) rfl rfl rfl rfl rfl (.inr (fun _ h => h)) ?_
                      refine j_no (i := 8) rfl (by kernel_rfl) (by kernel_rfl) (by kernel_rfl) rfl rfl rfl rfl rfl (.inr (fun _ h => h)) ?_
                      refine j_no (i := 9) rfl (by kernel_rfl) (by kernel_rfl) (by kernel_rfl) rfl rfl rfl rfl rfl (.inr (fun _ h => h)) ?_
                      refine j_p (i := 10) rfl (y_pick_f rfl rfl) (by kernel_rfl) (by kernel_rfl) (by kernel_rfl) rfl rfl rfl rfl rfl (.inr (fun _ h => h)) ?_
                      refine j_nil (by kernel_rfl) ?_
                      refine g_then ?_
                      refine g_cond_f rfl ?_
                      refine g_skip ?_
                      refine g_then ?_
                      refine g_seq ?_
                      refine g_region ?_
                      refine s_y (y_move rfl) rfl rfl rfl rfl ?_
                      refine s_y (y_move rfl) rfl rfl rfl rfl ?_
                      refine s_y (y_idxb1 rfl rfl Try.underlying66 size_46 (by omega) (by omega)) rfl rfl rfl rfl ?_
                      refine s_y (y_ld1 3 rfl rfl agg_46 hrs) rfl rfl rfl rfl ?_
                      refine s_y (y_move rfl) rfl rfl rfl rfl ?_
                      refine s_y (y_idxb1 rfl rfl Try.underlying46 size_3 (by omega) (by omega)) rfl rfl rfl rfl ?_
                      refine s_y (y_ldM hB rfl agg_3 hc) rfl rfl rfl rfl ?_
                      refine s_y (y_move rfl) rfl rfl rfl rfl ?_
                      refine s_y (y_add rfl rfl (by omega) (by omega)) rfl rfl rfl rfl ?_
                      refine s_y (y_assign rfl) rfl rfl rfl rfl ?_
                      refine s_nil ?_
                      refine g_then ?_
                      refine g_seq ?_
                      refine g_seq ?_
                      refine g_region ?_
                      refine s_y (y_move rfl) rfl rfl rfl rfl ?_
                      refine s_y (y_lss rfl rfl) rfl rfl rfl rfl ?_
                      refine s_y (y_move rfl) rfl rfl rfl rfl ?_
                      refine g_bool 103 rfl (fun hq19 => ?_) (fun hq19 => ?_)
                      · (try simp at hq19)
                        refine s_no rfl rfl rfl ?_
                        refine s_no rfl rfl rfl ?_
                        refine s_no rfl rfl rfl ?_
                        refine s_y (y_pick_t rfl rfl) rfl rfl rfl rfl ?_
                        refine s_nil ?_
                        refine g_then ?_
                        refine g_cond_t rfl ?_
                        refine g_region ?_
                        refine s_y (y_move rfl) rfl rfl rfl rfl ?_
                        refine s_y (y_assign rfl) rfl rfl rfl rfl ?_
                        refine s_y (y_assign rfl) rfl rfl rfl rfl ?_
                        refine s_nil ?_
                        refine g_then ?_
                        refine g_seq ?_
                        refine g_region ?_
                        refine s_y (y_move rfl) rfl rfl rfl rfl ?_
                        refine s_y (y_move rfl) rfl rfl rfl rfl ?_
                        refine s_y (y_eql rfl rfl) rfl rfl rfl rfl ?_
                        refine s_nil ?_
                        refine g_then ?_
                        refine g_cond rfl (fun hq20 => ?_) (fun hq20 => ?_)
                        · (try simp at hq20)
                          refine g_region ?_
                          refine s_y (y_move rfl) rfl rfl rfl rfl ?_
                          refine s_y (y_move rfl) rfl rfl rfl rfl ?_
                          refine s_y (y_move rfl) rfl rfl rfl rfl ?_
                          refine s_y (y_idxb1 rfl rfl Try.underlying66 size_46 (by omega) (by omega)) rfl rfl rfl rfl ?_
                          refine s_y (y_ld1 4 rfl rfl agg_46 hrs2) rfl rfl rfl rfl ?_
                          refine s_y (y_move rfl) rfl rfl rfl rfl ?_
                          refine s_y (y_idxb1 rfl rfl Try.underlying46 size_3 (by omega) (by omega)) rfl rfl rfl rfl ?_
                          refine s_y (y_ldM hB2 rfl agg_3 hc2) rfl rfl rfl rfl ?_
                          refine s_y (y_add rfl rfl (by omega) (by omega)) rfl rfl rfl rfl ?_
                          refine s_y (y_assign rfl) rfl rfl rfl rfl ?_
                          refine s_nil ?_
                          refine g_inb ?_
                          refine g_then ?_
                          refine g_region ?_
                          refine s_y (y_add rfl rfl (by omega) (by omega)) rfl rfl rfl rfl ?_
                          refine s_y (y_move rfl) rfl rfl rfl rfl ?_
                          refine s_nil ?_
                          refine g_then ?_
                          have hcg := cand_range hp (by omega) (by omega) hcand
                          have e := costSt_lt hcand (by omega)
                          refine fun act W ha hw => ⟨1 + 1, by omega, by omega, ?_, _, hw⟩
                          rw [e]
                          exact ha.weak (sub_get ⟨rfl, rfl, rfl, rfl, rfl, rfl, rfl, rfl, rfl, rfl, rfl, rfl, rfl, rfl, trivial⟩)
                        · (try simp at hq20)
                          all_goals (exfalso; omega)
                      · (try simp at hq19)
                        refine s_y (y_move rfl) rfl rfl rfl rfl ?_
                        refine s_y (y_move rfl) rfl rfl rfl rfl ?_
                        refine s_y (y_lss rfl rfl) rfl rfl rfl rfl ?_
                        refine s_y (y_pick_f rfl rfl) rfl rfl rfl rfl ?_
                        refine s_nil ?_
                        refine g_then ?_
                        refine g_cond rfl (fun hq21 => ?_) (fun hq21 => ?_)
                        · (try simp at hq21)
                          refine g_region ?_
                          refine s_y (y_move rfl) rfl rfl rfl rfl ?_
                          refine s_y (y_assign rfl) rfl rfl rfl rfl ?_
                          refine s_y (y_assign rfl) rfl rfl rfl rfl ?_
                          refine s_nil ?_
                          refine g_then ?_
                          refine g_seq ?_
                          refine g_region ?_
                          refine s_y (y_move rfl) rfl rfl rfl rfl ?_
                          refine s_y (y_move rfl) rfl rfl rfl rfl ?_
                          refine s_y (y_eql rfl rfl) rfl rfl rfl rfl ?_
                          refine s_nil ?_
                          refine g_then ?_
                          refine g_cond rfl (fun hq22 => ?_) (fun hq22 => ?_)
                          · (try simp at hq22)
                            refine g_region ?_
                            refine s_y (y_move rfl) rfl rfl rfl rfl ?_
                            refine s_y (y_move rfl) rfl rfl rfl rfl ?_
                            refine s_y (y_move rfl) rfl rfl rfl rfl ?_
                            refine s_y (y_idxb1 rfl rfl Try.underlying66 size_46 (by omega) (by omega)) rfl rfl rfl rfl ?_
                            refine s_y (y_ld1 4 rfl rfl agg_46 hrs2) rfl rfl rfl rfl ?_
                            refine s_y (y_move rfl) rfl rfl rfl rfl ?_
                            refine s_y (y_idxb1 rfl rfl Try.underlying46 size_3 (by omega) (by omega)) rfl rfl rfl rfl ?_
                            refine s_y (y_ldM hB2 rfl agg_3 hc2) rfl rfl rfl rfl ?_
                            refine s_y (y_add rfl rfl (by omega) (by omega)) rfl rfl rfl rfl ?_
                            refine s_y (y_assign rfl) rfl rfl rfl rfl ?_
                            refine s_nil ?_
                            refine g_inb ?_
                            refine g_then ?_
                            refine g_region ?_
                            refine s_y (y_add rfl rfl (by omega) (by omega)) rfl rfl rfl rfl ?_
                            refine s_y (y_move rfl) rfl rfl rfl rfl ?_
                            refine s_nil ?_
                            refine g_then ?_
                            have hcg := cand_range hp (by omega) (by omega) hcand
                            have e := costSt_lt hcand (by omega)
                            refine fun act W ha hw => ⟨1 + 1, by omega, by omega, ?_, _, hw⟩
                            rw [e]
                            exact ha.weak (sub_get ⟨rfl, rfl, rfl, rfl, rfl, rfl, rfl, rfl, rfl, rfl, rfl, rfl, rfl, rfl, trivial⟩)
                          · (try simp at hq22)
                            all_goals (exfalso; omega)
                        · (try simp at hq21)
                          refine g_skip ?_
                          refine g_then ?_
                          refine g_seq ?_
                          refine g_region ?_
                          refine s_y (y_move rfl) rfl rfl rfl rfl ?_
                          refine s_y (y_move rfl) rfl rfl rfl rfl ?_
                          refine s_y (y_eql rfl rfl) rfl rfl rfl rfl ?_
                          refine s_nil ?_
                          refine g_then ?_
                          refine g_cond rfl (fun hq23 => ?_) (fun hq23 => ?_)
                          · (try simp at hq23)
                            refine g_region ?_
                            refine s_y (y_move rfl) rfl rfl rfl rfl ?_
                            refine s_y (y_move rfl) rfl rfl rfl rfl ?_
                            refine s_y (y_move rfl) rfl rfl rfl rfl ?_
                            refine s_y (y_idxb1 rfl rfl Try.underlying66 size_46 (by omega) (by omega)) rfl rfl rfl rfl ?_
                            refine s_y (y_ld1 4 rfl rfl agg_46 hrs2) rfl rfl rfl rfl ?_
                            refine s_y (y_move rfl) rfl rfl rfl rfl ?_
                            refine s_y (y_idxb1 rfl rfl Try.underlying46 size_3 (by omega) (by omega)) rfl rfl rfl rfl ?_
                            refine s_y (y_ldM hB2 rfl agg_3 hc2) rfl rfl rfl rfl ?_
                            refine s_y (y_add rfl rfl (by omega) (by omega)) rfl rfl rfl rfl ?_
                            refine s_y (y_assign rfl) rfl rfl rfl rfl ?_
                            refine s_nil ?_
                            refine g_inb ?_
                            refine g_then ?_
                            refine g_region ?_
                            refine s_y (y_add rfl rfl (by omega) (by omega)) rfl rfl rfl rfl ?_
                            refine s_y (y_move rfl) rfl rfl rfl rfl ?_
                            refine s_nil ?_
                            refine g_then ?_
                            have hcg := cand_range hp (by omega) (by omega) hcand
                            have e := costSt_eq hcand (by omega) (by omega)
                            refine fun act W ha hw => ⟨1 + 1, by omega, by omega, ?_, _, hw⟩
                            rw [e]
                            exact ha.weak (sub_get ⟨rfl, rfl, rfl, rfl, rfl, rfl, rfl, rfl, rfl, rfl, rfl, rfl, rfl, rfl, trivial⟩)
                          · (try simp at hq23)
                            refine g_skip ?_
                            refine g_inb ?_
                            refine g_then ?_
                            refine g_region ?_
                            refine s_y (y_add rfl rfl (by omega) (by omega)) rfl rfl rfl rfl ?_
                            refine s_y (y_move rfl) rfl rfl rfl rfl ?_
                            refine s_nil ?_
                            refine g_then ?_
                            have hcg := cand_range hp (by omega) (by omega) hcand
                            have e := costSt_gt hcand (by omega) (by omega)
                            refine fun act W ha hw => ⟨1 + 1, by omega, by omega, ?_, _, hw⟩
                            rw [e]
                            exact ha.weak (sub_get ⟨rfl, rfl, rfl, rfl, rfl, rfl, rfl, rfl, rfl, rfl, rfl, rfl, rfl, rfl, trivial⟩)
              · (try simp at hq15)
                refine g_skip ?_
                refine g_inb ?_
                refine g_then ?_
                refine g_seq ?_
                refine g_seq ?_
                refine g_region ?_
                refine s_y (y_move rfl) rfl rfl rfl rfl ?_
                refine s_y (y_lss rfl rfl) rfl rfl rfl rfl ?_
                refine s_y (y_move rfl) rfl rfl rfl rfl ?_
                refine g_bool 77 rfl (fun hq24 => ?_) (fun hq24 => ?_)
                · (try simp at hq24)
                  refine s_no rfl rfl rfl ?_
                  refine s_no rfl rfl rfl ?_
                  refine s_y (y_pick_t rfl rfl) rfl rfl rfl rfl ?_
                  refine s_nil ?_
                  refine g_then ?_
                  refine g_cond_t rfl ?_
                  refine g_exit ?_
                  refine g_thenx ?_
                  refine g_inbx ?_
                  refine g_then ?_
                  refine g_region ?_
                  refine s_y (y_add rfl rfl (by omega) (by omega)) rfl rfl rfl rfl ?_
                  refine s_y (y_move rfl) rfl rfl rfl rfl ?_
                  refine s_nil ?_
                  refine g_then ?_
                  have hcand : candC a b pi po ps i j k = none := by
                    have hk' : k = 0 ∨ k = 1 ∨ k = 2 := by omega
                    rcases hk' with rfl | rfl | rfl
                    all_goals (unfold candC; simp only [show ((0 : Nat) = 0) = True from by simp, show ((1 : Nat) = 0) = False from by simp, show ((2 : Nat) = 0) = False from by simp, show ((1 : Nat) = 1) = True from by simp, show ((2 : Nat) = 1) = False from by simp, if_true, if_false]; exact if_neg (by omega))
                  have e := costSt_none hcand
                  refine fun act W ha hw => ⟨k + 1, by omega, by omega, ?_, _, hw⟩
                  rw [e]
                  exact ha.weak (sub_get ⟨rfl, rfl, rfl, rfl, rfl, rfl, rfl, rfl, rfl, rfl, rfl, rfl, rfl, rfl, trivial⟩)
                · (try simp at hq24)
                  refine s_y (y_move rfl) rfl rfl rfl rfl ?_
                  refine s_y (y_lss rfl rfl) rfl rfl rfl rfl ?_
                  refine s_y (y_pick_f rfl rfl) rfl rfl rfl rfl ?_
                  refine s_nil ?_
                  refine g_then ?_
                  refine g_cond rfl (fun hq25 => ?_) (fun hq25 => ?_)
                  · (try simp at hq25)
                    refine g_exit ?_
                    refine g_thenx ?_
                    refine g_inbx ?_
                    refine g_then ?_
                    refine g_region ?_
                    refine s_y (y_add rfl rfl (by omega) (by omega)) rfl rfl rfl rfl ?_
                    refine s_y (y_move rfl) rfl rfl rfl rfl ?_
                    refine s_nil ?_
                    refine g_then ?_
                    have hcand : candC a b pi po ps i j k = none := by
                      have hk' : k = 0 ∨ k = 1 ∨ k = 2 := by omega
                      rcases hk' with rfl | rfl | rfl
                      all_goals (unfold candC; simp only [show ((0 : Nat) = 0) = True from by simp, show ((1 : Nat) = 0) = False from by simp, show ((2 : Nat) = 0) = False from by simp, show ((1 : Nat) = 1) = True from by simp, show ((2 : Nat) = 1) = False from by simp, if_true, if_false]; exact if_neg (by omega))
                    have e := costSt_none hcand
                    refine fun act W ha hw => ⟨k + 1, by omega, by omega, ?_, _, hw⟩
                    rw [e]
                    exact ha.weak (sub_get ⟨rfl, rfl, rfl, rfl, rfl, rfl, rfl, rfl, rfl, rfl, rfl, rfl, rfl, rfl, trivial⟩)
                  · (try simp at hq25)
                    refine g_skip ?_
                    refine g_then ?_
                    refine g_seq ?_
                    refine g_seq ?_
                    have hk0 : k = 2 := by omega
                    subst hk0
                    obtain ⟨B, B2, cs, cs2, hrs, hB, hc, hrs2, hB2, hc2⟩ := look ((i : Int) - 1) ((j : Int) - 1) (i - 1) (j - 1) (by omega) (by omega) (by omega)
                    have hDr := D_range (a := a) (b := b) hp.1 hp.2.1 hp.2.2 (i - 1) (j - 1)
                    have hUr := U_range a b pi po ps (i := (i - 1)) (j := (j - 1)) (by omega)
                    refine g_draw 11 (by kernel_rfl) ?_
                    refine j_p (i := 0) rfl (y_move rfl) (by kernel_rfl) (by kernel_rfl) (by kernel_rfl) rfl rfl rfl rfl rfl (.inr (fun _ h => h)) ?_
                    refine j_p (i := 1) rfl (y_eql rfl rfl) (by kernel_rfl) (by kernel_rfl) (by kernel_rfl) rfl rfl rfl rfl rfl (.inr (fun _ h => h)) ?_
                    refine j_p (i := 2) rfl (y_move rfl) (by kernel_rfl) (by kernel_rfl) (by kernel_rfl) rfl rfl rfl rfl rfl (.inr (fun _ h => h)) ?_
                    refine g_bool 83 rfl (fun hq26 => ?_) (fun hq26 => ?_)
                    · (try simp at hq26)
                      refine j_p (i := 3) rfl (y_move rfl) (by kernel_rfl) (by kernel_rfl) (by kernel_rfl) rfl rfl rfl rfl rfl (.inr (fun _ h => h)) ?_
                      refine j_p (i := 4) rfl (y_move rfl) (by kernel_rfl) (by kernel_rfl) (by kernel_rfl) rfl rfl rfl rfl rfl (.inr (fun _ h => h)) ?_
                      refine j_p (i := 5) rfl (y_idxs rfl rfl Try.underlying9 (by omega) (by omega)) (by kernel_rfl) (by kernel_rfl) (by kernel_rfl) rfl rfl rfl rfl rfl (.inr (fun _ h => h)) ?_
                      refine j_p (i := 6) rfl (y_move rfl) (by kernel_rfl) (by kernel_rfl) (by kernel_rfl) rfl rfl rfl rfl rfl (.inr (fun _ h => h)) ?_
                      refine j_p (i := 7) rfl (y_move rfl) (by kernel_rfl) (by kernel_rfl) (by kernel_rfl) rfl rfl rfl rfl rfl (.inr (fun _ h => h)) ?_
                      refine j_p (i := 8) rfl (y_idxs rfl rfl Try.underlying9 (by omega) (by omega)) (by kernel_rfl) (by kernel_rfl) (by kernel_rfl) rfl rfl rfl rfl rfl (.inr (fun _ h => h)) ?_
                      refine j_p (i := 9) rfl (y_eql rfl rfl) (by kernel_rfl) (by kernel_rfl) (by kernel_rfl) rfl rfl rfl rfl rfl (.inr (fun _ h => h)) ?_
                      refine j_p (i := 10) rfl (y_pick_t rfl rfl) (by kernel_rfl) (by kernel_rfl) (by kernel_rfl) rfl rfl rfl rfl rfl (.inr (fun _ h => h)) ?_
                      refine j_nil (by kernel_rfl) ?_
                      refine g_then ?_
                      refine g_cond rfl (fun hq27 => ?_) (fun hq27 => ?_)
                      · (try simp at hq27)
                        refine g_region ?_
                        refine s_y (y_assign rfl) rfl rfl rfl rfl ?_
                        refine s_nil ?_
                        refine g_then ?_
                        refine g_seq ?_
                        have hcand : candC a b pi po ps i j 2 = some (D a b pi po ps (i - 1) (j - 1) + 0, U a b pi po ps (i - 1) (j - 1)) := by
                          first | (exfalso; omega) | (have e1 : ((i - 1 : Nat) : Int) = (i : Int) - 1 := (by omega); have e2 : ((j - 1 : Nat) : Int) = (j : Int) - 1 := (by omega); unfold candC; rw [if_neg (by decide), if_neg (by decide), if_pos (by omega), e1, e2, if_pos (by assumption)])
                        refine g_region ?_
                        refine s_y (y_move rfl) rfl rfl rfl rfl ?_
                        refine s_y (y_move rfl) rfl rfl rfl rfl ?_
                        refine s_y (y_idxb1 rfl rfl Try.underlying66 size_46 (by omega) (by omega)) rfl rfl rfl rfl ?_
                        refine s_y (y_ld1 3 rfl rfl agg_46 hrs) rfl rfl rfl rfl ?_
                        refine s_y (y_move rfl) rfl rfl rfl rfl ?_
                        refine s_y (y_idxb1 rfl rfl Try.underlying46 size_3 (by omega) (by omega)) rfl rfl rfl rfl ?_
                        refine s_y (y_ldM hB rfl agg_3 hc) rfl rfl rfl rfl ?_
                        refine s_y (y_move rfl) rfl rfl rfl rfl ?_
                        refine s_y (y_add rfl rfl (by omega) (by omega)) rfl rfl rfl rfl ?_
                        refine s_y (y_assign rfl) rfl rfl rfl rfl ?_
                        refine s_nil ?_
                        refine g_then ?_
                        refine g_seq ?_
                        refine g_seq ?_
                        refine g_region ?_
                        refine s_y (y_move rfl) rfl rfl rfl rfl ?_
                        refine s_y (y_lss rfl rfl) rfl rfl rfl rfl ?_
                        refine s_y (y_move rfl) rfl rfl rfl rfl ?_
                        refine g_bool 103 rfl (fun hq28 => ?_) (fun hq28 => ?_)
                        · (try simp at hq28)
                          refine s_no rfl rfl rfl ?_
                          refine s_no rfl rfl rfl ?_
                          refine s_no rfl rfl rfl ?_
                          refine s_y (y_pick_t rfl rfl) rfl rfl rfl rfl ?_
                          refine s_nil ?_
                          refine g_then ?_
                          refine g_cond_t rfl ?_
                          refine g_region ?_
                          refine s_y (y_move rfl) rfl rfl rfl rfl ?_
                          refine s_y (y_assign rfl) rfl rfl rfl rfl ?_
                          refine s_y (y_assign rfl) rfl rfl rfl rfl ?_
                          refine s_nil ?_
                          refine g_then ?_
                          refine g_seq ?_
                          refine g_region ?_
                          refine s_y (y_move rfl) rfl rfl rfl rfl ?_
                          refine s_y (y_move rfl) rfl rfl rfl rfl ?_
                          refine s_y (y_eql rfl rfl) rfl rfl rfl rfl ?_
                          refine s_nil ?_
                          refine g_then ?_
                          refine g_cond rfl (fun hq29 => ?_) (fun hq29 => ?_)
                          · (try simp at hq29)
                            refine g_region ?_
                            refine s_y (y_move rfl) rfl rfl rfl rfl ?_
                            refine s_y (y_move rfl) rfl rfl rfl rfl ?_
                            refine s_y (y_move rfl) rfl rfl rfl rfl ?_
                            refine s_y (y_idxb1 rfl rfl Try.underlying66 size_46 (by omega) (by omega)) rfl rfl rfl rfl ?_
                            refine s_y (y_ld1 4 rfl rfl agg_46 hrs2) rfl rfl rfl rfl ?_
                            refine s_y (y_move rfl) rfl rfl rfl rfl ?_
                            refine s_y (y_idxb1 rfl rfl Try.underlying46 size_3 (by omega) (by omega)) rfl rfl rfl rfl ?_
                            refine s_y (y_ldM hB2 rfl agg_3 hc2) rfl rfl rfl rfl ?_
                            refine s_y (y_add rfl rfl (by omega) (by omega)) rfl rfl rfl rfl ?_
                            refine s_y (y_assign rfl) rfl rfl rfl rfl ?_
                            refine s_nil ?_
                            refine g_inb ?_
                            refine g_then ?_
                            refine g_region ?_
                            refine s_y (y_add rfl rfl (by omega) (by omega)) rfl rfl rfl rfl ?_
                            refine s_y (y_move rfl) rfl rfl rfl rfl ?_
                            refine s_nil ?_
                            refine g_then ?_
                            have hcg := cand_range hp (by omega) (by omega) hcand
                            have e := costSt_lt hcand (by omega)
                            refine fun act W ha hw => ⟨2 + 1, by omega, by omega, ?_, _, hw⟩
                            rw [e]
                            exact ha.weak (sub_get ⟨rfl, rfl, rfl, rfl, rfl, rfl, rfl, rfl, rfl, rfl, rfl, rfl, rfl, rfl, trivial⟩)
                          · (try simp at hq29)
                            all_goals (exfalso; omega)
                        · (try simp at hq28)
                          refine s_y (y_move rfl) rfl rfl rfl rfl ?_
                          refine s_y (y_move rfl) rfl rfl rfl rfl ?_
                          refine s_y (y_lss rfl rfl) rfl rfl rfl rfl ?_
                          refine s_y (y_pick_f rfl rfl) rfl rfl rfl rfl ?_
                          refine s_nil ?_
                          refine g_then ?_
                          refine g_cond rfl (fun hq30 => ?_) (fun hq30 => ?_)
                          · (try simp at hq30)
                            refine g_region ?_
                            refine s_y (y_move rfl) rfl rfl rfl rfl ?_
                            refine s_y (y_assign rfl) rfl rfl rfl rfl ?_
                            refine s_y (y_assign rfl) rfl rfl rfl rfl ?_
                            refine s_nil ?_
                            refine g_then ?_
                            refine g_seq ?_
                            refine g_region ?_
                            refine s_y (y_move rfl) rfl rfl rfl rfl ?_
                            refine s_y (y_move rfl) rfl rfl rfl rfl ?_
                            refine s_y (y_eql rfl rfl) rfl rfl rfl rfl ?_
                            refine s_nil ?_
                            refine g_then ?_
                            refine g_cond rfl (fun hq31 => ?_) (fun hq31 => ?_)
                            · (try simp at hq31)
                              refine g_region ?_
                              refine s_y (y_move rfl) rfl rfl rfl rfl ?_
                              refine s_y (y_move rfl) rfl rfl rfl rfl ?_
                              refine s_y (y_move rfl) rfl rfl rfl rfl ?_
                              refine s_y (y_idxb1 rfl rfl Try.underlying66 size_46 (by omega) (by omega)) rfl rfl rfl rfl ?_
                              refine s_y (y_ld1 4 rfl rfl agg_46 hrs2) rfl rfl rfl rfl ?_
                              refine s_y (y_move rfl) rfl rfl rfl rfl ?_
                              refine s_y (y_idxb1 rfl rfl Try.underlying46 size_3 (by omega) (by omega)) rfl rfl rfl rfl ?_
                              refine s_y (y_ldM hB2 rfl agg_3 hc2) rfl rfl rfl rfl ?_
                              refine s_y (y_add rfl rfl (by omega) (by omega)) rfl rfl rfl rfl ?_
                              refine s_y (y_assign rfl) rfl rfl rfl rfl ?_
                              refine s_nil ?_
                              refine g_inb ?_
                              refine g_then ?_
                              refine g_region ?_
                              refine s_y (y_add rfl rfl (by omega) (by omega)) rfl rfl rfl rfl ?_
                              refine s_y (y_move rfl) rfl rfl rfl rfl ?_
                              refine s_nil ?_
                              refine g_then ?_
                              have hcg := cand_range hp (by omega) (by omega) hcand
                              have e := costSt_lt hcand (by omega)
                              refine fun act W ha hw => ⟨2 + 1, by omega, by omega, ?_, _, hw⟩
                              rw [e]
                              exact ha.weak (sub_get ⟨rfl, rfl, rfl, rfl, rfl, rfl, rfl, rfl, rfl, rfl, rfl, rfl, rfl, rfl, trivial⟩)
                            · (try simp at hq31)
                              all_goals (exfalso; omega)
                          · (try simp at hq30)
                            refine g_skip ?_
                            refine g_then ?_
                            refine g_seq ?_
                            refine g_region ?_
                            refine s_y (y_move rfl) rfl rfl rfl rfl ?_
                            refine s_y (y_move rfl) rfl rfl rfl rfl ?_
                            refine s_y (y_eql rfl rfl) rfl rfl rfl rfl ?_
                            refine s_nil ?_
                            refine g_then ?_
                            refine g_cond rfl (fun hq32 => ?_) (fun hq32 => ?_)
                            · (try simp at hq32)
                              refine g_region ?_
                              refine s_y (y_move rfl) rfl rfl rfl rfl ?_
                              refine s_y (y_move rfl) rfl rfl rfl rfl ?_
                              refine s_y (y_move rfl) rfl rfl rfl rfl ?_
                              refine s_y (y_idxb1 rfl rfl Try.underlying66 size_46 (by omega) (by omega)) rfl rfl rfl rfl ?_
                              refine s_y (y_ld1 4 rfl rfl agg_46 hrs2) rfl rfl rfl rfl ?_
                              refine s_y (y_move rfl) rfl rfl rfl rfl ?_
                              refine s_y (y_idxb1 rfl rfl Try.underlying46 size_3 (by omega) (by omega)) rfl rfl rfl rfl ?_
                              refine s_y (y_ldM hB2 rfl agg_3 hc2) rfl rfl rfl rfl ?_
                              refine s_y (y_add rfl rfl (by omega) (by omega)) rfl rfl rfl rfl ?_
                              refine s_y (y_assign rfl) rfl rfl rfl rfl ?_
                              refine s_nil ?_
                              refine g_inb ?_
                              refine g_then ?_
                              refine g_region ?_
                              refine s_y (y_add rfl rfl (by omega) (by omega)) rfl rfl rfl rfl ?_
                              refine s_y (y_move rfl) rfl rfl rfl rfl ?_
                              refine s_nil ?_
                              refine g_then ?_
                              have hcg := cand_range hp (by omega) (by omega) hcand
                              have e := costSt_eq hcand (by omega) (by omega)
                              refine fun act W ha hw => ⟨2 + 1, by omega, by omega, ?_, _, hw⟩
                              rw [e]
                              exact ha.weak (sub_get ⟨rfl, rfl, rfl, rfl, rfl, rfl, rfl, rfl, rfl, rfl, rfl, rfl, rfl, rfl, trivial⟩)
                            · (try simp at hq32)
                              refine g_skip ?_
                              refine g_inb ?_
                              refine g_then ?_
                              refine g_region ?_
                              refine s_y (y_add rfl rfl (by omega) (by omega)) rfl rfl rfl rfl ?_
                              refine s_y (y_move rfl) rfl rfl rfl rfl ?_
                              refine s_nil ?_
                              refine g_then ?_
                              have hcg := cand_range hp (by omega) (by omega) hcand
                              have e := costSt_gt hcand (by omega) (by omega)
                              refine fun act W ha hw => ⟨2 + 1, by omega, by omega, ?_, _, hw⟩
                              rw [e]
                              exact ha.weak (sub_get ⟨rfl, rfl, rfl, rfl, rfl, rfl, rfl, rfl, rfl, rfl, rfl, rfl, rfl, rfl, trivial⟩)
                      · (try simp at hq27)
                        refine g_skip ?_
                        refine g_then ?_
                        refine g_seq ?_
                        have hcand : candC a b pi po ps i j 2 = some (D a b pi po ps (i - 1) (j - 1) + ps, U a b pi po ps (i - 1) (j - 1)) := by
                          first | (exfalso; omega) | (have e1 : ((i - 1 : Nat) : Int) = (i : Int) - 1 := (by omega); have e2 : ((j - 1 : Nat) : Int) = (j : Int) - 1 := (by omega); unfold candC; rw [if_neg (by decide), if_neg (by decide), if_pos (by omega), e1, e2, if_neg (by assumption)])
                        refine g_region ?_
                        refine s_y (y_move rfl) rfl rfl rfl rfl ?_
                        refine s_y (y_move rfl) rfl rfl rfl rfl ?_
                        refine s_y (y_idxb1 rfl rfl Try.underlying66 size_46 (by omega) (by omega)) rfl rfl rfl rfl ?_
                        refine s_y (y_ld1 3 rfl rfl agg_46 hrs) rfl rfl rfl rfl ?_
                        refine s_y (y_move rfl) rfl rfl rfl rfl ?_
                        refine s_y (y_idxb1 rfl rfl Try.underlying46 size_3 (by omega) (by omega)) rfl rfl rfl rfl ?_
                        refine s_y (y_ldM hB rfl agg_3 hc) rfl rfl rfl rfl ?_
                        refine s_y (y_move rfl) rfl rfl rfl rfl ?_
                        refine s_y (y_add rfl rfl (by omega) (by omega)) rfl rfl rfl rfl ?_
                        refine s_y (y_assign rfl) rfl rfl rfl rfl ?_
                        refine s_nil ?_
                        refine g_then ?_
                        refine g_seq ?_
                        refine g_seq ?_
                        refine g_region ?_
                        refine s_y (y_move rfl) rfl rfl rfl rfl ?_
                        refine s_y (y_lss rfl rfl) rfl rfl rfl rfl ?_
                        refine s_y (y_move rfl) rfl rfl rfl rfl ?_
                        refine g_bool 103 rfl (fun hq33 => ?_) (fun hq33 => ?_)
                        · (try simp at hq33)
                          refine s_no rfl rfl rfl ?_
                          refine s_no rfl rfl rfl ?_
                          refine s_no rfl rfl rfl ?_
                          refine s_y (y_pick_t rfl rfl) rfl rfl rfl rfl ?_
                          refine s_nil ?_
                          refine g_then ?_
                          refine g_cond_t rfl ?_
                          refine g_region ?_
                          refine s_y (y_move rfl) rfl rfl rfl rfl ?_
                          refine s_y (y_assign rfl) rfl rfl rfl rfl ?_
                          refine s_y (y_assign rfl) rfl rfl rfl rfl ?_
                          refine s_nil ?_
                          refine g_then ?_
                          refine g_seq ?_
                          refine g_region ?_
                          refine s_y (y_move rfl) rfl rfl rfl rfl ?_
                          refine s_y (y_move rfl) rfl rfl rfl rfl ?_
                          refine s_y (y_eql rfl rfl) rfl rfl rfl rfl ?_
                          refine s_nil ?_
                          refine g_then ?_
                          refine g_cond rfl (fun hq34 => ?_) (fun hq34 => ?_)
                          · (try simp at hq34)
                            refine g_region ?_
                            refine s_y (y_move rfl) rfl rfl rfl rfl ?_
                            refine s_y (y_move rfl) rfl rfl rfl rfl ?_
                            refine s_y (y_move rfl) rfl rfl rfl rfl ?_
                            refine s_y (y_idxb1 rfl rfl Try.underlying66 size_46 (by omega) (by omega)) rfl rfl rfl rfl ?_
                            refine s_y (y_ld1 4 rfl rfl agg_46 hrs2) rfl rfl rfl rfl ?_
                            refine s_y (y_move rfl) rfl rfl rfl rfl ?_
                            refine s_y (y_idxb1 rfl rfl Try.underlying46 size_3 (by omega) (by omega)) rfl rfl rfl rfl ?_
                            refine s_y (y_ldM hB2 rfl agg_3 hc2) rfl rfl rfl rfl ?_
                            refine s_y (y_add rfl rfl (by omega) (by omega)) rfl rfl rfl rfl ?_
                            refine s_y (y_assign rfl) rfl rfl rfl rfl ?_
                            refine s_nil ?_
                            refine g_inb ?_
                            refine g_then ?_
                            refine g_region ?_
                            refine s_y (y_add rfl rfl (by omega) (by omega)) rfl rfl rfl rfl ?_
                            refine s_y (y_move rfl) rfl rfl rfl rfl ?_
                            refine s_nil ?_
                            refine g_then ?_
                            have hcg := cand_range hp (by omega) (by omega) hcand
                            have e := costSt_lt hcand (by omega)
                            refine fun act W ha hw => ⟨2 + 1, by omega, by omega, ?_, _, hw⟩
                            rw [e]
                            exact ha.weak (sub_get ⟨rfl, rfl, rfl, rfl, rfl, rfl, rfl, rfl, rfl, rfl, rfl, rfl, rfl, rfl, trivial⟩)
                          · (try simp at hq34)
                            all_goals (exfalso; omega)
                        · (try simp at hq33)
                          refine s_y (y_move rfl) rfl rfl rfl rfl ?_
                          refine s_y (y_move rfl) rfl rfl rfl rfl ?_
                          refine s_y (y_lss rfl rfl) rfl rfl rfl rfl ?_
                          refine s_y (y_pick_f rfl rfl) rfl rfl rfl rfl ?_
                          refine s_nil ?_
                          refine g_then ?_
                          refine g_cond rfl (fun hq35 => ?_) (fun hq35 => ?_)
                          · (try simp at hq35)
                            refine g_region ?_
                            refine s_y (y_move rfl) rfl rfl rfl rfl ?_
                            refine s_y (y_assign rfl) rfl rfl rfl rfl ?_
                            refine s_y (y_assign rfl) rfl rfl rfl rfl ?_
                            refine s_nil ?_
                            refine g_then ?_
                            refine g_seq ?_
                            refine g_region ?_
                            refine s_y (y_move rfl) rfl rfl rfl rfl ?_
                            refine s_y (y_move rfl) rfl rfl rfl rfl ?_
                            refine s_y (y_eql rfl rfl) rfl rfl rfl rfl ?_
                            refine s_nil ?_
                            refine g_then ?_
                            refine g_cond rfl (fun hq36 => ?_) (fun hq36 => ?_)
                            · (try simp at hq36)
                              refine g_region ?_
                              refine s_y (y_move rfl) rfl rfl rfl rfl ?_
                              refine s_y (y_move rfl) rfl rfl rfl rfl ?_
                              refine s_y (y_move rfl) rfl rfl rfl rfl ?_
                              refine s_y (y_idxb1 rfl rfl Try.underlying66 size_46 (by omega) (by omega)) rfl rfl rfl rfl ?_
                              refine s_y (y_ld1 4 rfl rfl agg_46 hrs2) rfl rfl rfl rfl ?_
                              refine s_y (y_move rfl) rfl rfl rfl rfl ?_
                              refine s_y (y_idxb1 rfl rfl Try.underlying46 size_3 (by omega) (by omega)) rfl rfl rfl rfl ?_
                              refine s_y (y_ldM hB2 rfl agg_3 hc2) rfl rfl rfl rfl ?_
                              refine s_y (y_add rfl rfl (by omega) (by omega)) rfl rfl rfl rfl ?_
                              refine s_y (y_assign rfl) rfl rfl rfl rfl ?_
                              refine s_nil ?_
                              refine g_inb ?_
                              refine g_then ?_
                              refine g_region ?_
                              refine s_y (y_add rfl rfl (by omega) (by omega)) rfl rfl rfl rfl ?_
                              refine s_y (y_move rfl) rfl rfl rfl rfl ?_
                              refine s_nil ?_
                              refine g_then ?_
                              have hcg := cand_range hp (by omega) (by omega) hcand
                              have e := costSt_lt hcand (by omega)
                              refine fun act W ha hw => ⟨2 + 1, by omega, by omega, ?_, _, hw⟩
                              rw [e]
                              exact ha.weak (sub_get ⟨rfl, rfl, rfl, rfl, rfl, rfl, rfl, rfl, rfl, rfl, rfl, rfl, rfl, rfl, trivial⟩)
                            · (try simp at hq36)
                              all_goals (exfalso; omega)
                          · (try simp at hq35)
                            refine g_skip ?_
                            refine g_then ?_
                            refine g_seq ?_
                            refine g_region ?_
                            refine s_y (y_move rfl) rfl rfl rfl rfl ?_
                            refine s_y (y_move rfl) rfl rfl rfl rfl ?_
                            refine s_y (y_eql rfl rfl) rfl rfl rfl rfl ?_
                            refine s_nil ?_
                            refine g_then ?_
                            refine g_cond rfl (fun hq37 => ?_) (fun hq37 => ?_)
                            · (try simp at hq37)
                              refine g_region ?_
                              refine s_y (y_move rfl) rfl rfl rfl rfl ?_
                              refine s_y (y_move rfl) rfl rfl rfl rfl ?_
                              refine s_y (y_move rfl) rfl rfl rfl rfl ?_
                              refine s_y (y_idxb1 rfl rfl Try.underlying66 size_46 (by omega) (by omega)) rfl rfl rfl rfl ?_
                              refine s_y (y_ld1 4 rfl rfl agg_46 hrs2) rfl rfl rfl rfl ?_
                              refine s_y (y_move rfl) rfl rfl rfl rfl ?_
                              refine s_y (y_idxb1 rfl rfl Try.underlying46 size_3 (by omega) (by omega)) rfl rfl rfl rfl ?_
                              refine s_y (y_ldM hB2 rfl agg_3 hc2) rfl rfl rfl rfl ?_
                              refine s_y (y_add rfl rfl (by omega) (by omega)) rfl rfl rfl rfl ?_
                              refine s_y (y_assign rfl) rfl rfl rfl rfl ?_
                              refine s_nil ?_
                              refine g_inb ?_
                              refine g_then ?_
                              refine g_region ?_
                              refine s_y (y_add rfl rfl (by omega) (by omega)) rfl rfl rfl rfl ?_
                              refine s_y (y_move rfl) rfl rfl rfl rfl ?_
                              refine s_nil ?_
                              refine g_then ?_
                              have hcg := cand_range hp (by omega) (by omega) hcand
                              have e := costSt_eq hcand (by omega) (by omega)
                              refine fun act W ha hw => ⟨2 + 1, by omega, by omega, ?_, _, hw⟩
                              rw [e]
                              exact ha.weak (sub_get ⟨rfl, rfl, rfl, rfl, rfl, rfl, rfl, rfl, rfl, rfl, rfl, rfl, rfl, rfl, trivial⟩)
                            · (try simp at hq37)
                              refine g_skip ?_
                              refine g_inb ?_
                              refine g_then ?_
                              refine g_region ?_
                              refine s_y (y_add rfl rfl (by omega) (by omega)) rfl rfl rfl rfl ?_
                              refine s_y (y_move rfl) rfl rfl rfl rfl ?_
                              refine s_nil ?_
                              refine g_then ?_
                              have hcg := cand_range hp (by omega) (by omega) hcand
                              have e := costSt_gt hcand (by omega) (by omega)
                              refine fun act W ha hw => ⟨2 + 1, by omega, by omega, ?_, _, hw⟩
                              rw [e]
                              exact ha.weak (sub_get ⟨rfl, rfl, rfl, rfl, rfl, rfl, rfl, rfl, rfl, rfl, rfl, rfl, rfl, rfl, trivial⟩)
                    · (try simp at hq26)
                      all_goals (exfalso; omega)
          · (try simp at hq5)
            refine g_exit ?_
            refine g_thenx ?_
            refine g_thenx ?_
            refine g_inbx ?_
            refine g_then ?_
            refine g_drawC 15 (fun W => W.heap[bb1]? = some (.cells ((Bs.map (rowV (b.size + 1)) ++ [rowV (b.size + 1) bR]) ++ jk1).toArray 46 (0, 0)) ∧ W.heap[bb2]? = some (.cells ((Cs.map (rowV (b.size + 1)) ++ [rowV (b.size + 1) cR]) ++ jk2).toArray 46 (0, 0))) (by kernel_rfl) ?_
            refine j_p (i := 0) rfl (y_move rfl) (by kernel_rfl) (by kernel_rfl) (by kernel_rfl) rfl rfl rfl rfl rfl (.inr (fun _ h => ⟨h.at_ _ (List.mem_of_getElem? (i := 3) rfl), h.at_ _ (List.mem_of_getElem? (i := 4) rfl)⟩)) ?_
            refine j_p (i := 1) rfl (y_move rfl) (by kernel_rfl) (by kernel_rfl) (by kernel_rfl) rfl rfl rfl rfl rfl (.inr (fun _ h => ⟨h.at_ _ (List.mem_of_getElem? (i := 3) rfl), h.at_ _ (List.mem_of_getElem? (i := 4) rfl)⟩)) ?_
            refine j_p (i := 2) rfl (y_idxb1 rfl rfl Try.underlying66 size_46 (by omega) (by omega)) (by kernel_rfl) (by kernel_rfl) (by kernel_rfl) rfl rfl rfl rfl rfl (.inr (fun _ h => ⟨h.at_ _ (List.mem_of_getElem? (i := 3) rfl), h.at_ _ (List.mem_of_getElem? (i := 4) rfl)⟩)) ?_
            refine j_l (i := 3) rfl (y_ldC (fun w h => h.1) rfl agg_46 cr1) (by kernel_rfl) (by kernel_rfl) (by kernel_rfl) (by kernel_rfl) rfl rfl rfl rfl rfl (.inr (fun _ h => ⟨h.at_ _ (List.mem_of_getElem? (i := 3) rfl), h.at_ _ (List.mem_of_getElem? (i := 4) rfl)⟩)) ?_
            refine j_p (i := 4) rfl (y_move rfl) (by kernel_rfl) (by kernel_rfl) (by kernel_rfl) rfl rfl rfl rfl rfl (.inr (fun _ h => ⟨h.at_ _ (List.mem_of_getElem? (i := 3) rfl), h.at_ _ (List.mem_of_getElem? (i := 4) rfl)⟩)) ?_
            refine j_p (i := 5) rfl (y_move rfl) (by kernel_rfl) (by kernel_rfl) (by kernel_rfl) rfl rfl rfl rfl rfl (.inr (fun _ h => ⟨h.at_ _ (List.mem_of_getElem? (i := 3) rfl), h.at_ _ (List.mem_of_getElem? (i := 4) rfl)⟩)) ?_
            refine j_p (i := 6) rfl (y_move rfl) (by kernel_rfl) (by kernel_rfl) (by kernel_rfl) rfl rfl rfl rfl rfl (.inr (fun _ h => ⟨h.at_ _ (List.mem_of_getElem? (i := 3) rfl), h.at_ _ (List.mem_of_getElem? (i := 4) rfl)⟩)) ?_
            refine j_p (i := 7) rfl (y_idxb1 rfl rfl Try.underlying66 size_46 (by omega) (by omega)) (by kernel_rfl) (by kernel_rfl) (by kernel_rfl) rfl rfl rfl rfl rfl (.inr (fun _ h => ⟨h.at_ _ (List.mem_of_getElem? (i := 3) rfl), h.at_ _ (List.mem_of_getElem? (i := 4) rfl)⟩)) ?_
            refine j_l (i := 8) rfl (y_ldC (fun w h => h.2) rfl agg_46 cr2) (by kernel_rfl) (by kernel_rfl) (by kernel_rfl) (by kernel_rfl) rfl rfl rfl rfl rfl (.inr (fun _ h => ⟨h.at_ _ (List.mem_of_getElem? (i := 3) rfl), h.at_ _ (List.mem_of_getElem? (i := 4) rfl)⟩)) ?_
            refine j_p (i := 9) rfl (y_move rfl) (by kernel_rfl) (by kernel_rfl) (by kernel_rfl) rfl rfl rfl rfl rfl (.inr (fun _ h => ⟨h.at_ _ (List.mem_of_getElem? (i := 3) rfl), h.at_ _ (List.mem_of_getElem? (i := 4) rfl)⟩)) ?_
            refine j_p (i := 10) rfl (y_move rfl) (by kernel_rfl) (by kernel_rfl) (by kernel_rfl) rfl rfl rfl rfl rfl (.inr (fun _ h => ⟨h.at_ _ (List.mem_of_getElem? (i := 3) rfl), h.at_ _ (List.mem_of_getElem? (i := 4) rfl)⟩)) ?_
            refine j_p (i := 11) rfl (y_move rfl) (by kernel_rfl) (by kernel_rfl) (by kernel_rfl) rfl rfl rfl rfl rfl (.inr (fun _ h => ⟨h.at_ _ (List.mem_of_getElem? (i := 3) rfl), h.at_ _ (List.mem_of_getElem? (i := 4) rfl)⟩)) ?_
            refine j_p (i := 12) rfl (y_idxb1 rfl rfl Try.underlying46 size_3 (by omega) (by omega)) (by kernel_rfl) (by kernel_rfl) (by kernel_rfl) rfl rfl rfl rfl rfl (.inr (fun _ h => ⟨h.at_ _ (List.mem_of_getElem? (i := 3) rfl), h.at_ _ (List.mem_of_getElem? (i := 4) rfl)⟩)) ?_
            refine j_tr0 (i := 13) rfl (t_store 0 rfl rfl rfl rfl size_3 (hbl (by omega) _ _) rfl) (by kernel_rfl) rfl rfl rfl (.inr (fun x w hb h => ⟨h.at_ _ (List.mem_of_getElem? (i := 3) rfl), h.at_ _ (List.mem_of_getElem? (i := 4) rfl)⟩)) (fun _ _ => ?_)
            refine j_p (i := 14) rfl (y_idxb1 rfl rfl Try.underlying46 size_3 (by omega) (by omega)) (by kernel_rfl) (by kernel_rfl) (by kernel_rfl) rfl rfl rfl rfl rfl (.inr (fun _ h => ⟨h.at_ _ (List.mem_of_getElem? (i := 3) rfl), h.at_ _ (List.mem_of_getElem? (i := 4) rfl)⟩)) ?_
            refine j_tr0 (i := 15) rfl (t_store 1 rfl rfl rfl rfl size_3 (hbl (by omega) _ _) rfl) (by kernel_rfl) rfl rfl rfl (.inl rfl) (fun _ _ => ?_)
            refine j_nil (by kernel_rfl) ?_
            refine g_inb ?_
            refine g_then ?_
            refine g_region ?_
            refine s_y (y_add rfl rfl (by omega) (by omega)) rfl rfl rfl rfl ?_
            refine s_y (y_move rfl) rfl rfl rfl rfl ?_
            refine s_nil ?_
            refine g_then ?_
            refine fun act W ha hw => ⟨j + 1, by omega, by omega, ha.weak (sub_get ⟨rfl, rfl, rfl, rfl, rfl, rfl, rfl, rfl, rfl, rfl, trivial⟩), W, ?_⟩
            have hne : i + j ≠ 0 := by omega
            have hk3 : k = 3 := by omega
            subst hk3
            have he := costSt_end (a := a) (b := b) hp hne
            have he1 : (costSt a b pi po ps i j 3).1 = D a b pi po ps i j := congrArg Prod.fst he
            have he2 : (costSt a b pi po ps i j 3).2 = U a b pi po ps i j := congrArg Prod.snd he
            rw [show rowO (curRow (D a b pi po ps) (b.size + 1) i (j + 1)) = .cells (setCs ((curRow (D a b pi po ps) (b.size + 1) i j).map (Value.int .i64)) ((j : Nat) : Int).toNat [.int .i64 _]).toArray 3 (0, 0) from by rw [row_store (D a b pi po ps) _ _ _ _ (by omega) he1]; try rfl]
            rw [show rowO (curRow (U a b pi po ps) (b.size + 1) i (j + 1)) = .cells (setCs ((curRow (U a b pi po ps) (b.size + 1) i j).map (Value.int .i64)) ((j : Nat) : Int).toNat [.int .i64 _]).toArray 3 (0, 0) from by rw [row_store (U a b pi po ps) _ _ _ _ (by omega) he2]; try rfl]
            exact hw.look'
      · (try simp at hq3)
        refine s_no rfl rfl rfl ?_
        refine s_no rfl rfl rfl ?_
        refine s_y (y_pick_f rfl rfl) rfl rfl rfl rfl ?_
        refine s_nil ?_
        refine g_then ?_
        refine g_cond_f rfl ?_
        refine g_skip ?_
        refine g_then ?_
        refine g_seq ?_
        refine g_region ?_
        refine s_y (y_assign rfl) rfl rfl rfl rfl ?_
        refine s_y (y_assign rfl) rfl rfl rfl rfl ?_
        refine s_nil ?_
        refine g_then ?_
        refine g_seq ?_
        refine g_seq ?_
        refine g_region ?_
        refine s_y (y_move rfl) rfl rfl rfl rfl ?_
        refine s_nil ?_
        refine g_then ?_
        refine g_block ?_
        refine g_loop (fun (k : Nat) act W => k ≤ 3 ∧ Has 140 [] [(55, .int .i64 k), (12, .int .i64 (costSt a b pi po ps i j k).1), (13, .int .i64 (costSt a b pi po ps i j k).2), (11, .int .i64 j), (42, .int .i64 j), (41, .int .i64 ((b.size : Int) + 1)), (22, .int .i64 i), (21, .int .i64 ((a.size : Int) + 1)), (10, .int .i64 i), (8, (.slice (some ⟨bb1, 0, none⟩) (i + 1) cap1)), (9, (.slice (some ⟨bb2, 0, none⟩) (i + 1) cap2)), (5, .pointer (some ⟨b5, 0, none⟩)), (1, .string b), (0, .string a)] act ∧ ∃ w1, Hp w w1 ((bR, rowO (curRow (D a b pi po ps) (b.size + 1) i j)) :: (cR, rowO (curRow (U a b pi po ps) (b.size + 1) i j)) :: (b5, .cells [.int .i64 pi, .int .i64 po, .int .i64 ps].toArray 23 (0, 0)) :: (bb1, .cells ((Bs.map (rowV (b.size + 1)) ++ [rowV (b.size + 1) bR]) ++ jk1).toArray 46 (0, 0)) :: (bb2, .cells ((Cs.map (rowV (b.size + 1)) ++ [rowV (b.size + 1) cR]) ++ jk2).toArray 46 (0, 0)) :: (rowsM (D a b pi po ps) (b.size + 1) Bs ++ rowsM (U a b pi po ps) (b.size + 1) Cs)) W) (fun k => 3 - k) 0 (fun act W ha hw => ⟨Nat.zero_le _, ha.weak (sub_get ⟨rfl, rfl, rfl, rfl, rfl, rfl, rfl, rfl, rfl, rfl, rfl, rfl, rfl, rfl, trivial⟩), _, hw⟩) ?_
        intro k act W ⟨hk, ha, w1, hw⟩
        refine g_go ha hw ?_
        clear ha hw act W
        have hcr := costSt_range (a := a) (b := b) (i := i) (j := j) hp (by omega) (by omega) k
        have look : ∀ (i' j' : Int) (ni nj : Nat), i' = ni → j' = nj → ((ni < i ∧ nj < b.size + 1) ∨ (ni = i ∧ nj < j)) → ∃ B B2 cs cs2, ((Bs.map (rowV (b.size + 1)) ++ [rowV (b.size + 1) bR]) ++ jk1)[i'.toNat]? = some (rowV (b.size + 1) B) ∧ (B, Obj.cells (List.toArray cs) 3 (0, 0)) ∈ ((bR, rowO (curRow (D a b pi po ps) (b.size + 1) i j)) :: (cR, rowO (curRow (U a b pi po ps) (b.size + 1) i j)) :: (b5, .cells [.int .i64 pi, .int .i64 po, .int .i64 ps].toArray 23 (0, 0)) :: (bb1, .cells ((Bs.map (rowV (b.size + 1)) ++ [rowV (b.size + 1) bR]) ++ jk1).toArray 46 (0, 0)) :: (bb2, .cells ((Cs.map (rowV (b.size + 1)) ++ [rowV (b.size + 1) cR]) ++ jk2).toArray 46 (0, 0)) :: (rowsM (D a b pi po ps) (b.size + 1) Bs ++ rowsM (U a b pi po ps) (b.size + 1) Cs)) ∧ cs[j'.toNat]? = some (.int .i64 (D a b pi po ps ni nj)) ∧
          ((Cs.map (rowV (b.size + 1)) ++ [rowV (b.size + 1) cR]) ++ jk2)[i'.toNat]? = some (rowV (b.size + 1) B2) ∧ (B2, Obj.cells (List.toArray cs2) 3 (0, 0)) ∈ ((bR, rowO (curRow (D a b pi po ps) (b.size + 1) i j)) :: (cR, rowO (curRow (U a b pi po ps) (b.size + 1) i j)) :: (b5, .cells [.int .i64 pi, .int .i64 po, .int .i64 ps].toArray 23 (0, 0)) :: (bb1, .cells ((Bs.map (rowV (b.size + 1)) ++ [rowV (b.size + 1) bR]) ++ jk1).toArray 46 (0, 0)) :: (bb2, .cells ((Cs.map (rowV (b.size + 1)) ++ [rowV (b.size + 1) cR]) ++ jk2).toArray 46 (0, 0)) :: (rowsM (D a b pi po ps) (b.size + 1) Bs ++ rowsM (U a b pi po ps) (b.size + 1) Cs)) ∧ cs2[j'.toNat]? = some (.int .i64 (U a b pi po ps ni nj)) := by
          rintro _ _ ni nj rfl rfl h
          rw [Int.toNat_natCast, Int.toNat_natCast]
          rcases h with ⟨h1, h2⟩ | ⟨rfl, h2⟩
          · obtain ⟨B, hB⟩ : ∃ B, Bs[ni]? = some B := ⟨Bs[ni]'(by omega), List.getElem?_eq_getElem _⟩
            obtain ⟨B2, hB2⟩ : ∃ B, Cs[ni]? = some B := ⟨Cs[ni]'(by omega), List.getElem?_eq_getElem _⟩
            have m1 := rowsM_mem (D a b pi po ps) (b.size + 1) Bs ni B hB
            have m2 := rowsM_mem (U a b pi po ps) (b.size + 1) Cs ni B2 hB2
            refine ⟨B, B2, _, _, ?_, List.mem_append_right [_, _, _, _, _] (List.mem_append_left _ m1), ?_, ?_, List.mem_append_right [_, _, _, _, _] (List.mem_append_right _ m2), ?_⟩
            · rw [List.append_assoc, List.getElem?_append_left (by rw [List.length_map]; omega), List.getElem?_map, hB]; rfl
            · rw [List.getElem?_map, tabRow_at _ _ _ _ h2]; rfl
            · rw [List.append_assoc, List.getElem?_append_left (by rw [List.length_map]; omega), List.getElem?_map, hB2]; rfl
            · rw [List.getElem?_map, tabRow_at _ _ _ _ h2]; rfl
          · refine ⟨bR, cR, _, _, cr1, List.Mem.head _, ?_, cr2, List.Mem.tail _ (List.Mem.head _), ?_⟩
            · rw [List.getElem?_map, curRow_at _ _ _ _ _ h2]; rfl
            · rw [List.getElem?_map, curRow_at _ _ _ _ _ h2]; rfl
        refine g_seq ?_
        refine g_region ?_
        refine s_y (y_lss rfl rfl) rfl rfl rfl rfl ?_
        refine s_nil ?_
        refine g_then ?_
        refine g_seq ?_
        refine g_cond rfl (fun hq38 => ?_) (fun hq38 => ?_)
        · (try simp at hq38)
          refine g_skip ?_
          refine g_then ?_
          refine g_seq ?_
          refine g_block ?_
          refine g_seq ?_
          refine g_region ?_
          refine s_y (y_move rfl) rfl rfl rfl rfl ?_
          refine s_y (y_assign rfl) rfl rfl rfl rfl ?_
          refine s_nil ?_
          refine g_then ?_
          refine g_seq ?_
          refine g_draw 9 (by kernel_rfl) ?_
          refine j_p (i := 0) rfl (y_move rfl) (by kernel_rfl) (by kernel_rfl) (by kernel_rfl) rfl rfl rfl rfl rfl (.inr (fun _ h => h)) ?_
          refine j_p (i := 1) rfl (y_sub rfl rfl (by omega) (by omega)) (by kernel_rfl) (by kernel_rfl) (by kernel_rfl) rfl rfl rfl rfl rfl (.inr (fun _ h => h)) ?_
          refine j_p (i := 2) rfl (y_move rfl) (by kernel_rfl) (by kernel_rfl) (by kernel_rfl) rfl rfl rfl rfl rfl (.inr (fun _ h => h)) ?_
          refine j_p (i := 3) rfl (y_sub rfl rfl (by omega) (by omega)) (by kernel_rfl) (by kernel_rfl) (by kernel_rfl) rfl rfl rfl rfl rfl (.inr (fun _ h => h)) ?_
          refine j_p (i := 4) rfl (y_fld rfl (fun w => fld_23_2 _ _ w)) (by kernel_rfl) (by kernel_rfl) (by kernel_rfl) rfl rfl rfl rfl rfl (.inr (fun _ h => h)) ?_
          refine j_l (i := 5) rfl (y_ld1 2 rfl rfl agg_3 rfl) (by kernel_rfl) (by kernel_rfl) (by kernel_rfl) (by kernel_rfl) rfl rfl rfl rfl rfl (.inr (fun _ h => h)) ?_
          refine j_p (i := 6) rfl (y_assign rfl) (by kernel_rfl) (by kernel_rfl) (by kernel_rfl) rfl rfl rfl rfl rfl (.inr (fun _ h => h)) ?_
          refine j_p (i := 7) rfl (y_assign rfl) (by kernel_rfl) (by kernel_rfl) (by kernel_rfl) rfl rfl rfl rfl rfl (.inr (fun _ h => h)) ?_
          refine j_p (i := 8) rfl (y_assign rfl) (by kernel_rfl) (by kernel_rfl) (by kernel_rfl) rfl rfl rfl rfl rfl (.inr (fun _ h => h)) ?_
          refine j_nil (by kernel_rfl) ?_
          refine g_then ?_
          refine g_seq ?_
          refine g_seq ?_
          refine g_region ?_
          refine s_y (y_move rfl) rfl rfl rfl rfl ?_
          refine s_nil ?_
          refine g_then ?_
          refine g_block ?_
          refine g_seq ?_
          refine g_region ?_
          refine s_y (y_eql rfl rfl) rfl rfl rfl rfl ?_
          refine s_y (y_assign rfl) rfl rfl rfl rfl ?_
          refine s_nil ?_
          refine g_then ?_
          refine g_cond rfl (fun hq39 => ?_) (fun hq39 => ?_)
          · (try simp at hq39)
            refine g_draw 5 (by kernel_rfl) ?_
            refine j_p (i := 0) rfl (y_move rfl) (by kernel_rfl) (by kernel_rfl) (by kernel_rfl) rfl rfl rfl rfl rfl (.inr (fun _ h => h)) ?_
            refine j_p (i := 1) rfl (y_fld rfl (fun w => fld_23_1 _ _ w)) (by kernel_rfl) (by kernel_rfl) (by kernel_rfl) rfl rfl rfl rfl rfl (.inr (fun _ h => h)) ?_
            refine j_l (i := 2) rfl (y_ld1 2 rfl rfl agg_3 rfl) (by kernel_rfl) (by kernel_rfl) (by kernel_rfl) (by kernel_rfl) rfl rfl rfl rfl rfl (.inr (fun _ h => h)) ?_
            refine j_p (i := 3) rfl (y_assign rfl) (by kernel_rfl) (by kernel_rfl) (by kernel_rfl) rfl rfl rfl rfl rfl (.inr (fun _ h => h)) ?_
            refine j_p (i := 4) rfl (y_assign rfl) (by kernel_rfl) (by kernel_rfl) (by kernel_rfl) rfl rfl rfl rfl rfl (.inr (fun _ h => h)) ?_
            refine j_nil (by kernel_rfl) ?_
            refine g_inb ?_
            refine g_then ?_
            refine g_seq ?_
            refine g_seq ?_
            refine g_region ?_
            refine s_y (y_move rfl) rfl rfl rfl rfl ?_
            refine s_y (y_lss rfl rfl) rfl rfl rfl rfl ?_
            refine s_y (y_move rfl) rfl rfl rfl rfl ?_
            refine g_bool 77 rfl (fun hq40 => ?_) (fun hq40 => ?_)
            · (try simp at hq40)
              refine s_no rfl rfl rfl ?_
              refine s_no rfl rfl rfl ?_
              refine s_y (y_pick_t rfl rfl) rfl rfl rfl rfl ?_
              refine s_nil ?_
              refine g_then ?_
              refine g_cond_t rfl ?_
              refine g_exit ?_
              refine g_thenx ?_
              refine g_inbx ?_
              refine g_then ?_
              refine g_region ?_
              refine s_y (y_add rfl rfl (by omega) (by omega)) rfl rfl rfl rfl ?_
              refine s_y (y_move rfl) rfl rfl rfl rfl ?_
              refine s_nil ?_
              refine g_then ?_
              have hcand : candC a b pi po ps i j k = none := by
                have hk' : k = 0 ∨ k = 1 ∨ k = 2 := by omega
                rcases hk' with rfl | rfl | rfl
                all_goals (unfold candC; simp only [show ((0 : Nat) = 0) = True from by simp, show ((1 : Nat) = 0) = False from by simp, show ((2 : Nat) = 0) = False from by simp, show ((1 : Nat) = 1) = True from by simp, show ((2 : Nat) = 1) = False from by simp, if_true, if_false]; exact if_neg (by omega))
              have e := costSt_none hcand
              refine fun act W ha hw => ⟨k + 1, by omega, by omega, ?_, _, hw⟩
              rw [e]
              exact ha.weak (sub_get ⟨rfl, rfl, rfl, rfl, rfl, rfl, rfl, rfl, rfl, rfl, rfl, rfl, rfl, rfl, trivial⟩)
            · (try simp at hq40)
              refine s_y (y_move rfl) rfl rfl rfl rfl ?_
              refine s_y (y_lss rfl rfl) rfl rfl rfl rfl ?_
              refine s_y (y_pick_f rfl rfl) rfl rfl rfl rfl ?_
              refine s_nil ?_
              refine g_then ?_
              refine g_cond rfl (fun hq41 => ?_) (fun hq41 => ?_)
              · (try simp at hq41)
                all_goals (exfalso; omega)
              · (try simp at hq41)
                refine g_skip ?_
                refine g_then ?_
                refine g_seq ?_
                refine g_seq ?_
                have hk0 : k = 0 := by omega
                subst hk0
                obtain ⟨B, B2, cs, cs2, hrs, hB, hc, hrs2, hB2, hc2⟩ := look ((i : Int) - 1) (j : Int) (i - 1) j (by omega) (by omega) (by omega)
                have hDr := D_range (a := a) (b := b) hp.1 hp.2.1 hp.2.2 (i - 1) j
                have hUr := U_range a b pi po ps (i := (i - 1)) (j := j) (by omega)
                have hcand : candC a b pi po ps i j 0 = some (D a b pi po ps (i - 1) j + po, U a b pi po ps (i - 1) j) := by unfold candC; rw [if_pos rfl]; exact if_pos (by omega)
                refine g_draw 11 (by kernel_rfl) ?_
                refine j_p (i := 0) rfl (y_move rfl) (by kernel_rfl) (by kernel_rfl) (by kernel_rfl) rfl rfl rfl rfl rfl (.inr (fun _ h => h)) ?_
                refine j_p (i := 1) rfl (y_eql rfl rfl) (by kernel_rfl) (by kernel_rfl) (by kernel_rfl) rfl rfl rfl rfl rfl (.inr (fun _ h => h)) ?_
                refine j_p (i := 2) rfl (y_move rfl) (by kernel_rfl) (by kernel_rfl) (by kernel_rfl) rfl rfl rfl rfl rfl (.inr (fun _ h => h)) ?_
                refine g_bool 83 rfl (fun hq42 => ?_) (fun hq42 => ?_)
                · (try simp at hq42)
                  all_goals (exfalso; omega)
                · (try simp at hq42)
                  refine j_no (i := 3) rfl (by kernel_rfl) (by kernel_rfl) (by kernel_rfl) rfl rfl rfl rfl rfl (.inr (fun _ h => h)) ?_
                  refine j_no (i := 4) rfl (by kernel_rfl) (by kernel_rfl) (by kernel_rfl) rfl rfl rfl rfl rfl (.inr (fun _ h => h)) ?_
                  refine j_no (i := 5) rfl (by kernel_rfl) (by kernel_rfl) (by kernel_rfl) rfl rfl rfl rfl rfl (.inr (fun _ h => h)) ?_
                  refine j_no (i := 6) rfl (by kernel_rfl) (by kernel_rfl) (by kernel_rfl) rfl rfl rfl rfl rfl (.inr (fun _ h => h)) ?_
                  refine j_no (i := 7) rfl (by kernel_rfl) (by kernel_rfl) (by kernel_rfl) rfl rfl rfl rfl rfl (.inr (fun _ h => h)) ?_
                  refine j_no (i := 8) rfl (by kernel_rfl) (by kernel_rfl) (by kernel_rfl) rfl rfl rfl rfl rfl (.inr (fun _ h => h)) ?_
                  refine j_no (i := 9) rfl (by kernel_rfl) (by kernel_rfl) (by kernel_rfl) rfl rfl rfl rfl rfl (.inr (fun _ h => h)) ?_
                  refine j_p (i := 10) rfl (y_pick_f rfl rfl) (by kernel_rfl) (by kernel_rfl) (by kernel_rfl) rfl rfl rfl rfl rfl (.inr (fun _ h => h)) ?_
                  refine j_nil (by kernel_rfl) ?_
                  refine g_then ?_
                  refine g_cond_f rfl ?_
                  refine g_skip ?_
                  refine g_then ?_
                  refine g_seq ?_
                  refine g_region ?_
                  refine s_y (y_move rfl) rfl rfl rfl rfl ?_
                  refine s_y (y_move rfl) rfl rfl rfl rfl ?_
                  refine s_y (y_idxb1 rfl rfl Try.underlying66 size_46 (by omega) (by omega)) rfl rfl rfl rfl ?_
                  refine s_y (y_ld1 3 rfl rfl agg_46 hrs) rfl rfl rfl rfl ?_
                  refine s_y (y_move rfl) rfl rfl rfl rfl ?_
                  refine s_y (y_idxb1 rfl rfl Try.underlying46 size_3 (by omega) (by omega)) rfl rfl rfl rfl ?_
                  refine s_y (y_ldM hB rfl agg_3 hc) rfl rfl rfl rfl ?_
                  refine s_y (y_move rfl) rfl rfl rfl rfl ?_
                  refine s_y (y_add rfl rfl (by omega) (by omega)) rfl rfl rfl rfl ?_
                  refine s_y (y_assign rfl) rfl rfl rfl rfl ?_
                  refine s_nil ?_
                  refine g_then ?_
                  refine g_seq ?_
                  refine g_seq ?_
                  refine g_region ?_
                  refine s_y (y_move rfl) rfl rfl rfl rfl ?_
                  refine s_y (y_lss rfl rfl) rfl rfl rfl rfl ?_
                  refine s_y (y_move rfl) rfl rfl rfl rfl ?_
                  refine g_bool 103 rfl (fun hq43 => ?_) (fun hq43 => ?_)
                  · (try simp at hq43)
                    refine s_no rfl rfl rfl ?_
                    refine s_no rfl rfl rfl ?_
                    refine s_no rfl rfl rfl ?_
                    refine s_y (y_pick_t rfl rfl) rfl rfl rfl rfl ?_
                    refine s_nil ?_
                    refine g_then ?_
                    refine g_cond_t rfl ?_
                    refine g_region ?_
                    refine s_y (y_move rfl) rfl rfl rfl rfl ?_
                    refine s_y (y_assign rfl) rfl rfl rfl rfl ?_
                    refine s_y (y_assign rfl) rfl rfl rfl rfl ?_
                    refine s_nil ?_
                    refine g_then ?_
                    refine g_seq ?_
                    refine g_region ?_
                    refine s_y (y_move rfl) rfl rfl rfl rfl ?_
                    refine s_y (y_move rfl) rfl rfl rfl rfl ?_
                    refine s_y (y_eql rfl rfl) rfl rfl rfl rfl ?_
                    refine s_nil ?_
                    refine g_then ?_
                    refine g_cond rfl (fun hq44 => ?_) (fun hq44 => ?_)
                    · (try simp at hq44)
                      refine g_region ?_
                      refine s_y (y_move rfl) rfl rfl rfl rfl ?_
                      refine s_y (y_move rfl) rfl rfl rfl rfl ?_
                      refine s_y (y_move rfl) rfl rfl rfl rfl ?_
                      refine s_y (y_idxb1 rfl rfl Try.underlying66 size_46 (by omega) (by omega)) rfl rfl rfl rfl ?_
                      refine s_y (y_ld1 4 rfl rfl agg_46 hrs2) rfl rfl rfl rfl ?_
                      refine s_y (y_move rfl) rfl rfl rfl rfl ?_
                      refine s_y (y_idxb1 rfl rfl Try.underlying46 size_3 (by omega) (by omega)) rfl rfl rfl rfl ?_
                      refine s_y (y_ldM hB2 rfl agg_3 hc2) rfl rfl rfl rfl ?_
                      refine s_y (y_add rfl rfl (by omega) (by omega)) rfl rfl rfl rfl ?_
                      refine s_y (y_assign rfl) rfl rfl rfl rfl ?_
                      refine s_nil ?_
                      refine g_inb ?_
                      refine g_then ?_
                      refine g_region ?_
                      refine s_y (y_add rfl rfl (by omega) (by omega)) rfl rfl rfl rfl ?_
                      refine s_y (y_move rfl) rfl rfl rfl rfl ?_
                      refine s_nil ?_
                      refine g_then ?_
                      have hcg := cand_range hp (by omega) (by omega) hcand
                      have e := costSt_lt hcand (by omega)
                      refine fun act W ha hw => ⟨0 + 1, by omega, by omega, ?_, _, hw⟩
                      rw [e]
                      exact ha.weak (sub_get ⟨rfl, rfl, rfl, rfl, rfl, rfl, rfl, rfl, rfl, rfl, rfl, rfl, rfl, rfl, trivial⟩)
                    · (try simp at hq44)
                      all_goals (exfalso; omega)
                  · (try simp at hq43)
                    refine s_y (y_move rfl) rfl rfl rfl rfl ?_
                    refine s_y (y_move rfl) rfl rfl rfl rfl ?_
                    refine s_y (y_lss rfl rfl) rfl rfl rfl rfl ?_
                    refine s_y (y_pick_f rfl rfl) rfl rfl rfl rfl ?_
                    refine s_nil ?_
                    refine g_then ?_
                    refine g_cond rfl (fun hq45 => ?_) (fun hq45 => ?_)
                    · (try simp at hq45)
                      refine g_region ?_
                      refine s_y (y_move rfl) rfl rfl rfl rfl ?_
                      refine s_y (y_assign rfl) rfl rfl rfl rfl ?_
                      refine s_y (y_assign rfl) rfl rfl rfl rfl ?_
                      refine s_nil ?_
                      refine g_then ?_
                      refine g_seq ?_
                      refine g_region ?_
                      refine s_y (y_move rfl) rfl rfl rfl rfl ?_
                      refine s_y (y_move rfl) rfl rfl rfl rfl ?_
                      refine s_y (y_eql rfl rfl) rfl rfl rfl rfl ?_
                      refine s_nil ?_
                      refine g_then ?_
                      refine g_cond rfl (fun hq46 => ?_) (fun hq46 => ?_)
                      · (try simp at hq46)
                        refine g_region ?_
                        refine s_y (y_move rfl) rfl rfl rfl rfl ?_
                        refine s_y (y_move rfl) rfl rfl rfl rfl ?_
                        refine s_y (y_move rfl) rfl rfl rfl rfl ?_
                        refine s_y (y_idxb1 rfl rfl Try.underlying66 size_46 (by omega) (by omega)) rfl rfl rfl rfl ?_
                        refine s_y (y_ld1 4 rfl rfl agg_46 hrs2) rfl rfl rfl rfl ?_
                        refine s_y (y_move rfl) rfl rfl rfl rfl ?_
                        refine s_y (y_idxb1 rfl rfl Try.underlying46 size_3 (by omega) (by omega)) rfl rfl rfl rfl ?_
                        refine s_y (y_ldM hB2 rfl agg_3 hc2) rfl rfl rfl rfl ?_
                        refine s_y (y_add rfl rfl (by omega) (by omega)) rfl rfl rfl rfl ?_
                        refine s_y (y_assign rfl) rfl rfl rfl rfl ?_
                        refine s_nil ?_
                        refine g_inb ?_
                        refine g_then ?_
                        refine g_region ?_
                        refine s_y (y_add rfl rfl (by omega) (by omega)) rfl rfl rfl rfl ?_
                        refine s_y (y_move rfl) rfl rfl rfl rfl ?_
                        refine s_nil ?_
                        refine g_then ?_
                        have hcg := cand_range hp (by omega) (by omega) hcand
                        have e := costSt_lt hcand (by omega)
                        refine fun act W ha hw => ⟨0 + 1, by omega, by omega, ?_, _, hw⟩
                        rw [e]
                        exact ha.weak (sub_get ⟨rfl, rfl, rfl, rfl, rfl, rfl, rfl, rfl, rfl, rfl, rfl, rfl, rfl, rfl, trivial⟩)
                      · (try simp at hq46)
                        all_goals (exfalso; omega)
                    · (try simp at hq45)
                      refine g_skip ?_
                      refine g_then ?_
                      refine g_seq ?_
                      refine g_region ?_
                      refine s_y (y_move rfl) rfl rfl rfl rfl ?_
                      refine s_y (y_move rfl) rfl rfl rfl rfl ?_
                      refine s_y (y_eql rfl rfl) rfl rfl rfl rfl ?_
                      refine s_nil ?_
                      refine g_then ?_
                      refine g_cond rfl (fun hq47 => ?_) (fun hq47 => ?_)
                      · (try simp at hq47)
                        refine g_region ?_
                        refine s_y (y_move rfl) rfl rfl rfl rfl ?_
                        refine s_y (y_move rfl) rfl rfl rfl rfl ?_
                        refine s_y (y_move rfl) rfl rfl rfl rfl ?_
                        refine s_y (y_idxb1 rfl rfl Try.underlying66 size_46 (by omega) (by omega)) rfl rfl rfl rfl ?_
                        refine s_y (y_ld1 4 rfl rfl agg_46 hrs2) rfl rfl rfl rfl ?_
                        refine s_y (y_move rfl) rfl rfl rfl rfl ?_
                        refine s_y (y_idxb1 rfl rfl Try.underlying46 size_3 (by omega) (by omega)) rfl rfl rfl rfl ?_
                        refine s_y (y_ldM hB2 rfl agg_3 hc2) rfl rfl rfl rfl ?_
                        refine s_y (y_add rfl rfl (by omega) (by omega)) rfl rfl rfl rfl ?_
                        refine s_y (y_assign rfl) rfl rfl rfl rfl ?_
                        refine s_nil ?_
                        refine g_inb ?_
                        refine g_then ?_
                        refine g_region ?_
                        refine s_y (y_add rfl rfl (by omega) (by omega)) rfl rfl rfl rfl ?_
                        refine s_y (y_move rfl) rfl rfl rfl rfl ?_
                        refine s_nil ?_
                        refine g_then ?_
                        have hcg := cand_range hp (by omega) (by omega) hcand
                        have e := costSt_eq hcand (by omega) (by omega)
                        refine fun act W ha hw => ⟨0 + 1, by omega, by omega, ?_, _, hw⟩
                        rw [e]
                        exact ha.weak (sub_get ⟨rfl, rfl, rfl, rfl, rfl, rfl, rfl, rfl, rfl, rfl, rfl, rfl, rfl, rfl, trivial⟩)
                      · (try simp at hq47)
                        refine g_skip ?_
                        refine g_inb ?_
                        refine g_then ?_
                        refine g_region ?_
                        refine s_y (y_add rfl rfl (by omega) (by omega)) rfl rfl rfl rfl ?_
                        refine s_y (y_move rfl) rfl rfl rfl rfl ?_
                        refine s_nil ?_
                        refine g_then ?_
                        have hcg := cand_range hp (by omega) (by omega) hcand
                        have e := costSt_gt hcand (by omega) (by omega)
                        refine fun act W ha hw => ⟨0 + 1, by omega, by omega, ?_, _, hw⟩
                        rw [e]
                        exact ha.weak (sub_get ⟨rfl, rfl, rfl, rfl, rfl, rfl, rfl, rfl, rfl, rfl, rfl, rfl, rfl, rfl, trivial⟩)
          · (try simp at hq39)
            refine g_seq ?_
            refine g_region ?_
            refine s_y (y_eql rfl rfl) rfl rfl rfl rfl ?_
            refine s_y (y_assign rfl) rfl rfl rfl rfl ?_
            refine s_nil ?_
            refine g_then ?_
            refine g_cond rfl (fun hq48 => ?_) (fun hq48 => ?_)
            · (try simp at hq48)
              refine g_draw 5 (by kernel_rfl) ?_
              refine j_p (i := 0) rfl (y_move rfl) (by kernel_rfl) (by kernel_rfl) (by kernel_rfl) rfl rfl rfl rfl rfl (.inr (fun _ h => h)) ?_
              refine j_p (i := 1) rfl (y_fld rfl (fun w => fld_23_0 _ _ w)) (by kernel_rfl) (by kernel_rfl) (by kernel_rfl) rfl rfl rfl rfl rfl (.inr (fun _ h => h)) ?_
              refine j_l (i := 2) rfl (y_ld1 2 rfl rfl agg_3 rfl) (by kernel_rfl) (by kernel_rfl) (by kernel_rfl) (by kernel_rfl) rfl rfl rfl rfl rfl (.inr (fun _ h => h)) ?_
              refine j_p (i := 3) rfl (y_assign rfl) (by kernel_rfl) (by kernel_rfl) (by kernel_rfl) rfl rfl rfl rfl rfl (.inr (fun _ h => h)) ?_
              refine j_p (i := 4) rfl (y_assign rfl) (by kernel_rfl) (by kernel_rfl) (by kernel_rfl) rfl rfl rfl rfl rfl (.inr (fun _ h => h)) ?_
              refine j_nil (by kernel_rfl) ?_
              refine g_inb ?_
              refine g_then ?_
              refine g_seq ?_
              refine g_seq ?_
              refine g_region ?_
              refine s_y (y_move rfl) rfl rfl rfl rfl ?_
              refine s_y (y_lss rfl rfl) rfl rfl rfl rfl ?_
              refine s_y (y_move rfl) rfl rfl rfl rfl ?_
              refine g_bool 77 rfl (fun hq49 => ?_) (fun hq49 => ?_)
              · (try simp at hq49)
                all_goals (exfalso; omega)
              · (try simp at hq49)
                refine s_y (y_move rfl) rfl rfl rfl rfl ?_
                refine s_y (y_lss rfl rfl) rfl rfl rfl rfl ?_
                refine s_y (y_pick_f rfl rfl) rfl rfl rfl rfl ?_
                refine s_nil ?_
                refine g_then ?_
                refine g_cond rfl (fun hq50 => ?_) (fun hq50 => ?_)
                · (try simp at hq50)
                  refine g_exit ?_
                  refine g_thenx ?_
                  refine g_inbx ?_
                  refine g_then ?_
                  refine g_region ?_
                  refine s_y (y_add rfl rfl (by omega) (by omega)) rfl rfl rfl rfl ?_
                  refine s_y (y_move rfl) rfl rfl rfl rfl ?_
                  refine s_nil ?_
                  refine g_then ?_
                  have hcand : candC a b pi po ps i j k = none := by
                    have hk' : k = 0 ∨ k = 1 ∨ k = 2 := by omega
                    rcases hk' with rfl | rfl | rfl
                    all_goals (unfold candC; simp only [show ((0 : Nat) = 0) = True from by simp, show ((1 : Nat) = 0) = False from by simp, show ((2 : Nat) = 0) = False from by simp, show ((1 : Nat) = 1) = True from by simp, show ((2 : Nat) = 1) = False from by simp, if_true, if_false]; exact if_neg (by omega))
                  have e := costSt_none hcand
                  refine fun act W ha hw => ⟨k + 1, by omega, by omega, ?_, _, hw⟩
                  rw [e]
                  exact ha.weak (sub_get ⟨rfl, rfl, rfl, rfl, rfl, rfl, rfl, rfl, rfl, rfl, rfl, rfl, rfl, rfl, trivial⟩)
                · (try simp at hq50)
                  refine g_skip ?_
                  refine g_then ?_
                  refine g_seq ?_
                  refine g_seq ?_
                  have hk0 : k = 1 := by omega
                  subst hk0
                  obtain ⟨B, B2, cs, cs2, hrs, hB, hc, hrs2, hB2, hc2⟩ := look (i : Int) ((j : Int) - 1) i (j - 1) (by omega) (by omega) (by omega)
                  have hDr := D_range (a := a) (b := b) hp.1 hp.2.1 hp.2.2 i (j - 1)
                  have hUr := U_range a b pi po ps (i := i) (j := (j - 1)) (by omega)
                  have hcand : candC a b pi po ps i j 1 = some (D a b pi po ps i (j - 1) + pi, U a b pi po ps i (j - 1)) := by unfold candC; rw [if_neg (by decide), if_pos rfl]; exact if_pos (by omega)
                  refine g_draw 11 (by kernel_rfl) ?_
                  refine j_p (i := 0) rfl (y_move rfl) (by kernel_rfl) (by kernel_rfl) (by kernel_rfl) rfl rfl rfl rfl rfl (.inr (fun _ h => h)) ?_
                  refine j_p (i := 1) rfl (y_eql rfl rfl) (by kernel_rfl) (by kernel_rfl) (by kernel_rfl) rfl rfl rfl rfl rfl (.inr (fun _ h => h)) ?_
                  refine j_p (i := 2) rfl (y_move rfl) (by kernel_rfl) (by kernel_rfl) (by kernel_rfl) rfl rfl rfl rfl rfl (.inr (fun _ h => h)) ?_
                  refine g_bool 83 rfl (fun hq51 => ?_) (fun hq51 => ?_)
                  · (try simp at hq51)
                    all_goals (exfalso; omega)
                  · (try simp at hq51)
                    refine j_no (i := 3) rfl (by kernel_rfl) (by kernel_rfl) (by kernel_rfl) rfl rfl rfl rfl rfl (.inr (fun _ h => h)) ?_
                    refine j_no (i := 4) rfl (by kernel_rfl) (by kernel_rfl) (by kernel_rfl) rfl rfl rfl rfl rfl (.inr (fun _ h => h)) ?_
                    refine j_no (i := 5) rfl (by kernel_rfl) (by kernel_rfl) (by kernel_rfl) rfl rfl rfl rfl rfl (.inr (fun _ h => h)) ?_
                    refine j_no (i := 6) rfl (by kernel_rfl) (by kernel_rfl) (by kernel_rfl) rfl rfl rfl rfl rfl (.inr (fun _ h => h)) ?_
                    refine j_no (i := 7) rfl (by kernel_rfl) (by kernel_rfl) (by kernel_rfl) rfl rfl rfl rfl rfl (.inr (fun _ h => h)) ?_
                    refine j_no (i := 8) rfl (by kernel_rfl) (by kernel_rfl) (by kernel_rfl) rfl rfl rfl rfl rfl (.inr (fun _ h => h)) ?_
                    refine j_no (i := 9) rfl (by kernel_rfl) (by kernel_rfl) (by kernel_rfl) rfl rfl rfl rfl rfl (.inr (fun _ h => h)) ?_
                    refine j_p (i := 10) rfl (y_pick_f rfl rfl) (by kernel_rfl) (by kernel_rfl) (by kernel_rfl) rfl rfl rfl rfl rfl (.inr (fun _ h => h)) ?_
                    refine j_nil (by kernel_rfl) ?_
                    refine g_then ?_
                    refine g_cond_f rfl ?_
                    refine g_skip ?_
                    refine g_then ?_
                    refine g_seq ?_
                    refine g_region ?_
                    refine s_y (y_move rfl) rfl rfl rfl rfl ?_
                    refine s_y (y_move rfl) rfl rfl rfl rfl ?_
                    refine s_y (y_idxb1 rfl rfl Try.underlying66 size_46 (by omega) (by omega)) rfl rfl rfl rfl ?_
                    refine s_y (y_ld1 3 rfl rfl agg_46 hrs) rfl rfl rfl rfl ?_
                    refine s_y (y_move rfl) rfl rfl rfl rfl ?_
                    refine s_y (y_idxb1 rfl rfl Try.underlying46 size_3 (by omega) (by omega)) rfl rfl rfl rfl ?_
                    refine s_y (y_ldM hB rfl agg_3 hc) rfl rfl rfl rfl ?_
                    refine s_y (y_move rfl) rfl rfl rfl rfl ?_
                    refine s_y (y_add rfl rfl (by omega) (by omega)) rfl rfl rfl rfl ?_
                    refine s_y (y_assign rfl) rfl rfl rfl rfl ?_
                    refine s_nil ?_
                    refine g_then ?_
                    refine g_seq ?_
                    refine g_seq ?_
                    refine g_region ?_
                    refine s_y (y_move rfl) rfl rfl rfl rfl ?_
                    refine s_y (y_lss rfl rfl) rfl rfl rfl rfl ?_
                    refine s_y (y_move rfl) rfl rfl rfl rfl ?_
                    refine g_bool 103 rfl (fun hq52 => ?_) (fun hq52 => ?_)
                    · (try simp at hq52)
                      refine s_no rfl rfl rfl ?_
                      refine s_no rfl rfl rfl ?_
                      refine s_no rfl rfl rfl ?_
                      refine s_y (y_pick_t rfl rfl) rfl rfl rfl rfl ?_
                      refine s_nil ?_
                      refine g_then ?_
                      refine g_cond_t rfl ?_
                      refine g_region ?_
                      refine s_y (y_move rfl) rfl rfl rfl rfl ?_
                      refine s_y (y_assign rfl) rfl rfl rfl rfl ?_
                      refine s_y (y_assign rfl) rfl rfl rfl rfl ?_
                      refine s_nil ?_
                      refine g_then ?_
                      refine g_seq ?_
                      refine g_region ?_
                      refine s_y (y_move rfl) rfl rfl rfl rfl ?_
                      refine s_y (y_move rfl) rfl rfl rfl rfl ?_
                      refine s_y (y_eql rfl rfl) rfl rfl rfl rfl ?_
                      refine s_nil ?_
                      refine g_then ?_
                      refine g_cond rfl (fun hq53 => ?_) (fun hq53 => ?_)
                      · (try simp at hq53)
                        refine g_region ?_
                        refine s_y (y_move rfl) rfl rfl rfl rfl ?_
                        refine s_y (y_move rfl) rfl rfl rfl rfl ?_
                        refine s_y (y_move rfl) rfl rfl rfl rfl ?_
                        refine s_y (y_idxb1 rfl rfl Try.underlying66 size_46 (by omega) (by omega)) rfl rfl rfl rfl ?_
                        refine s_y (y_ld1 4 rfl rfl agg_46 hrs2) rfl rfl rfl rfl ?_
                        refine s_y (y_move rfl) rfl rfl rfl rfl ?_
                        refine s_y (y_idxb1 rfl rfl Try.underlying46 size_3 (by omega) (by omega)) rfl rfl rfl rfl ?_
                        refine s_y (y_ldM hB2 rfl agg_3 hc2) rfl rfl rfl rfl ?_
                        refine s_y (y_add rfl rfl (by omega) (by omega)) rfl rfl rfl rfl ?_
                        refine s_y (y_assign rfl) rfl rfl rfl rfl ?_
                        refine s_nil ?_
                        refine g_inb ?_
                        refine g_then ?_
                        refine g_region ?_
                        refine s_y (y_add rfl rfl (by omega) (by omega)) rfl rfl rfl rfl ?_
                        refine s_y (y_move rfl) rfl rfl rfl rfl ?_
                        refine s_nil ?_
                        refine g_then ?_
                        have hcg := cand_range hp (by omega) (by omega) hcand
                        have e := costSt_lt hcand (by omega)
                        refine fun act W ha hw => ⟨1 + 1, by omega, by omega, ?_, _, hw⟩
                        rw [e]
                        exact ha.weak (sub_get ⟨rfl, rfl, rfl, rfl, rfl, rfl, rfl, rfl, rfl, rfl, rfl, rfl, rfl, rfl, trivial⟩)
                      · (try simp at hq53)
                        all_goals (exfalso; omega)
                    · (try simp at hq52)
                      refine s_y (y_move rfl) rfl rfl rfl rfl ?_
                      refine s_y (y_move rfl) rfl rfl rfl rfl ?_
                      refine s_y (y_lss rfl rfl) rfl rfl rfl rfl ?_
                      refine s_y (y_pick_f rfl rfl) rfl rfl rfl rfl ?_
                      refine s_nil ?_
                      refine g_then ?_
                      refine g_cond rfl (fun hq54 => ?_) (fun hq54 => ?_)
                      · (try simp at hq54)
                        refine g_region ?_
                        refine s_y (y_move rfl) rfl rfl rfl rfl ?_
                        refine s_y (y_assign rfl) rfl rfl rfl rfl ?_
                        refine s_y (y_assign rfl) rfl rfl rfl rfl ?_
                        refine s_nil ?_
                        refine g_then ?_
                        refine g_seq ?_
                        refine g_region ?_
                        refine s_y (y_move rfl) rfl rfl rfl rfl ?_
                        refine s_y (y_move rfl) rfl rfl rfl rfl ?_
                        refine s_y (y_eql rfl rfl) rfl rfl rfl rfl ?_
                        refine s_nil ?_
                        refine g_then ?_
                        refine g_cond rfl (fun hq55 => ?_) (fun hq55 => ?_)
                        · (try simp at hq55)
                          refine g_region ?_
                          refine s_y (y_move rfl) rfl rfl rfl rfl ?_
                          refine s_y (y_move rfl) rfl rfl rfl rfl ?_
                          refine s_y (y_move rfl) rfl rfl rfl rfl ?_
                          refine s_y (y_idxb1 rfl rfl Try.underlying66 size_46 (by omega) (by omega)) rfl rfl rfl rfl ?_
                          refine s_y (y_ld1 4 rfl rfl agg_46 hrs2) rfl rfl rfl rfl ?_
                          refine s_y (y_move rfl) rfl rfl rfl rfl ?_
                          refine s_y (y_idxb1 rfl rfl Try.underlying46 size_3 (by omega) (by omega)) rfl rfl rfl rfl ?_
                          refine s_y (y_ldM hB2 rfl agg_3 hc2) rfl rfl rfl rfl ?_
                          refine s_y (y_add rfl rfl (by omega) (by omega)) rfl rfl rfl rfl ?_
                          refine s_y (y_assign rfl) rfl rfl rfl rfl ?_
                          refine s_nil ?_
                          refine g_inb ?_
                          refine g_then ?_
                          refine g_region ?_
                          refine s_y (y_add rfl rfl (by omega) (by omega)) rfl rfl rfl rfl ?_
                          refine s_y (y_move rfl) rfl rfl rfl rfl ?_
                          refine s_nil ?_
                          refine g_then ?_
                          have hcg := cand_range hp (by omega) (by omega) hcand
                          have e := costSt_lt hcand (by omega)
                          refine fun act W ha hw => ⟨1 + 1, by omega, by omega, ?_, _, hw⟩
                          rw [e]
                          exact ha.weak (sub_get ⟨rfl, rfl, rfl, rfl, rfl, rfl, rfl, rfl, rfl, rfl, rfl, rfl, rfl, rfl, trivial⟩)
                        · (try simp at hq55)
                          all_goals (exfalso; omega)
                      · (try simp at hq54)
                        refine g_skip ?_
                        refine g_then ?_
                        refine g_seq ?_
                        refine g_region ?_
                        refine s_y (y_move rfl) rfl rfl rfl rfl ?_
                        refine s_y (y_move rfl) rfl rfl rfl rfl ?_
                        refine s_y (y_eql rfl rfl) rfl rfl rfl rfl ?_
                        refine s_nil ?_
                        refine g_then ?_
                        refine g_cond rfl (fun hq56 => ?_) (fun hq56 => ?_)
                        · (try simp at hq56)
                          refine g_region ?_
                          refine s_y (y_move rfl) rfl rfl rfl rfl ?_
                          refine s_y (y_move rfl) rfl rfl rfl rfl ?_
                          refine s_y (y_move rfl) rfl rfl rfl rfl ?_
                          refine s_y (y_idxb1 rfl rfl Try.underlying66 size_46 (by omega) (by omega)) rfl rfl rfl rfl ?_
                          refine s_y (y_ld1 4 rfl rfl agg_46 hrs2) rfl rfl rfl rfl ?_
                          refine s_y (y_move rfl) rfl rfl rfl rfl ?_
                          refine s_y (y_idxb1 rfl rfl Try.underlying46 size_3 (by omega) (by omega)) rfl rfl rfl rfl ?_
                          refine s_y (y_ldM hB2 rfl agg_3 hc2) rfl rfl rfl rfl ?_
                          refine s_y (y_add rfl rfl (by omega) (by omega)) rfl rfl rfl rfl ?_
                          refine s_y (y_assign rfl) rfl rfl rfl rfl ?_
                          refine s_nil ?_
                          refine g_inb ?_
                          refine g_then ?_
                          refine g_region ?_
                          refine s_y (y_add rfl rfl (by omega) (by omega)) rfl rfl rfl rfl ?_
                          refine s_y (y_move rfl) rfl rfl rfl rfl ?_
                          refine s_nil ?_
                          refine g_then ?_
                          have hcg := cand_range hp (by omega) (by omega) hcand
                          have e := costSt_eq hcand (by omega) (by omega)
                          refine fun act W ha hw => ⟨1 + 1, by omega, by omega, ?_, _, hw⟩
                          rw [e]
                          exact ha.weak (sub_get ⟨rfl, rfl, rfl, rfl, rfl, rfl, rfl, rfl, rfl, rfl, rfl, rfl, rfl, rfl, trivial⟩)
                        · (try simp at hq56)
                          refine g_skip ?_
                          refine g_inb ?_
                          refine g_then ?_
                          refine g_region ?_
                          refine s_y (y_add rfl rfl (by omega) (by omega)) rfl rfl rfl rfl ?_
                          refine s_y (y_move rfl) rfl rfl rfl rfl ?_
                          refine s_nil ?_
                          refine g_then ?_
                          have hcg := cand_range hp (by omega) (by omega) hcand
                          have e := costSt_gt hcand (by omega) (by omega)
                          refine fun act W ha hw => ⟨1 + 1, by omega, by omega, ?_, _, hw⟩
                          rw [e]
                          exact ha.weak (sub_get ⟨rfl, rfl, rfl, rfl, rfl, rfl, rfl, rfl, rfl, rfl, rfl, rfl, rfl, rfl, trivial⟩)
            · (try simp at hq48)
              refine g_skip ?_
              refine g_inb ?_
              refine g_then ?_
              refine g_seq ?_
              refine g_seq ?_
              refine g_region ?_
              refine s_y (y_move rfl) rfl rfl rfl rfl ?_
              refine s_y (y_lss rfl rfl) rfl rfl rfl rfl ?_
              refine s_y (y_move rfl) rfl rfl rfl rfl ?_
              refine g_bool 77 rfl (fun hq57 => ?_) (fun hq57 => ?_)
              · (try simp at hq57)
                refine s_no rfl rfl rfl ?_
                refine s_no rfl rfl rfl ?_
                refine s_y (y_pick_t rfl rfl) rfl rfl rfl rfl ?_
                refine s_nil ?_
                refine g_then ?_
                refine g_cond_t rfl ?_
                refine g_exit ?_
                refine g_thenx ?_
                refine g_inbx ?_
                refine g_then ?_
                refine g_region ?_
                refine s_y (y_add rfl rfl (by omega) (by omega)) rfl rfl rfl rfl ?_
                refine s_y (y_move rfl) rfl rfl rfl rfl ?_
                refine s_nil ?_
                refine g_then ?_
                have hcand : candC a b pi po ps i j k = none := by
                  have hk' : k = 0 ∨ k = 1 ∨ k = 2 := by omega
                  rcases hk' with rfl | rfl | rfl
                  all_goals (unfold candC; simp only [show ((0 : Nat) = 0) = True from by simp, show ((1 : Nat) = 0) = False from by simp, show ((2 : Nat) = 0) = False from by simp, show ((1 : Nat) = 1) = True from by simp, show ((2 : Nat) = 1) = False from by simp, if_true, if_false]; exact if_neg (by omega))
                have e := costSt_none hcand
                refine fun act W ha hw => ⟨k + 1, by omega, by omega, ?_, _, hw⟩
                rw [e]
                exact ha.weak (sub_get ⟨rfl, rfl, rfl, rfl, rfl, rfl, rfl, rfl, rfl, rfl, rfl, rfl, rfl, rfl, trivial⟩)
              · (try simp at hq57)
                refine s_y (y_move rfl) rfl rfl rfl rfl ?_
                refine s_y (y_lss rfl rfl) rfl rfl rfl rfl ?_
                refine s_y (y_pick_f rfl rfl) rfl rfl rfl rfl ?_
                refine s_nil ?_
                refine g_then ?_
                refine g_cond rfl (fun hq58 => ?_) (fun hq58 => ?_)
                · (try simp at hq58)
                  refine g_exit ?_
                  refine g_thenx ?_
                  refine g_inbx ?_
                  refine g_then ?_
                  refine g_region ?_
                  refine s_y (y_add rfl rfl (by omega) (by omega)) rfl rfl rfl rfl ?_
                  refine s_y (y_move rfl) rfl rfl rfl rfl ?_
                  refine s_nil ?_
                  refine g_then ?_
                  have hcand : candC a b pi po ps i j k = none := by
                    have hk' : k = 0 ∨ k = 1 ∨ k = 2 := by omega
                    rcases hk' with rfl | rfl | rfl
                    all_goals (unfold candC; simp only [show ((0 : Nat) = 0) = True from by simp, show ((1 : Nat) = 0) = False from by simp, show ((2 : Nat) = 0) = False from by simp, show ((1 : Nat) = 1) = True from by simp, show ((2 : Nat) = 1) = False from by simp, if_true, if_false]; exact if_neg (by omega))
                  have e := costSt_none hcand
                  refine fun act W ha hw => ⟨k + 1, by omega, by omega, ?_, _, hw⟩
                  rw [e]
                  exact ha.weak (sub_get ⟨rfl, rfl, rfl, rfl, rfl, rfl, rfl, rfl, rfl, rfl, rfl, rfl, rfl, rfl, trivial⟩)
                · (try simp at hq58)
                  refine g_skip ?_
                  refine g_then ?_
                  refine g_seq ?_
                  refine g_seq ?_
                  have hk0 : k = 2 := by omega
                  subst hk0
                  obtain ⟨B, B2, cs, cs2, hrs, hB, hc, hrs2, hB2, hc2⟩ := look ((i : Int) - 1) ((j : Int) - 1) (i - 1) (j - 1) (by omega) (by omega) (by omega)
                  have hDr := D_range (a := a) (b := b) hp.1 hp.2.1 hp.2.2 (i - 1) (j - 1)
                  have hUr := U_range a b pi po ps (i := (i - 1)) (j := (j - 1)) (by omega)
                  refine g_draw 11 (by kernel_rfl) ?_
                  refine j_p (i := 0) rfl (y_move rfl) (by kernel_rfl) (by kernel_rfl) (by kernel_rfl) rfl rfl rfl rfl rfl (.inr (fun _ h => h)) ?_
                  refine j_p (i := 1) rfl (y_eql rfl rfl) (by kernel_rfl) (by kernel_rfl) (by kernel_rfl) rfl rfl rfl rfl rfl (.inr (fun _ h => h)) ?_
                  refine j_p (i := 2) rfl (y_move rfl) (by kernel_rfl) (by kernel_rfl) (by kernel_rfl) rfl rfl rfl rfl rfl (.inr (fun _ h => h)) ?_
                  refine g_bool 83 rfl (fun hq59 => ?_) (fun hq59 => ?_)
                  · (try simp at hq59)
                    refine j_p (i := 3) rfl (y_move rfl) (by kernel_rfl) (by kernel_rfl) (by kernel_rfl) rfl rfl rfl rfl rfl (.inr (fun _ h => h)) ?_
                    refine j_p (i := 4) rfl (y_move rfl) (by kernel_rfl) (by kernel_rfl) (by kernel_rfl) rfl rfl rfl rfl rfl (.inr (fun _ h => h)) ?_
                    refine j_p (i := 5) rfl (y_idxs rfl rfl Try.underlying9 (by omega) (by omega)) (by kernel_rfl) (by kernel_rfl) (by kernel_rfl) rfl rfl rfl rfl rfl (.inr (fun _ h => h)) ?_
                    refine j_p (i := 6) rfl (y_move rfl) (by kernel_rfl) (by kernel_rfl) (by kernel_rfl) rfl rfl rfl rfl rfl (.inr (fun _ h => h)) ?_
                    refine j_p (i := 7) rfl (y_move rfl) (by kernel_rfl) (by kernel_rfl) (by kernel_rfl) rfl rfl rfl rfl rfl (.inr (fun _ h => h)) ?_
                    refine j_p (i := 8) rfl (y_idxs rfl rfl Try.underlying9 (by omega) (by omega)) (by kernel_rfl) (by kernel_rfl) (by kernel_rfl) rfl rfl rfl rfl rfl (.inr (fun _ h => h)) ?_
                    refine j_p (i := 9) rfl (y_eql rfl rfl) (by kernel_rfl) (by kernel_rfl) (by kernel_rfl) rfl rfl rfl rfl rfl (.inr (fun _ h => h)) ?_
                    refine j_p (i := 10) rfl (y_pick_t rfl rfl) (by kernel_rfl) (by kernel_rfl) (by kernel_rfl) rfl rfl rfl rfl rfl (.inr (fun _ h => h)) ?_
                    refine j_nil (by kernel_rfl) ?_
                    refine g_then ?_
                    refine g_cond rfl (fun hq60 => ?_) (fun hq60 => ?_)
                    · (try simp at hq60)
                      refine g_region ?_
                      refine s_y (y_assign rfl) rfl rfl rfl rfl ?_
                      refine s_nil ?_
                      refine g_then ?_
                      refine g_seq ?_
                      have hcand : candC a b pi po ps i j 2 = some (D a b pi po ps (i - 1) (j - 1) + 0, U a b pi po ps (i - 1) (j - 1)) := by
                        first | (exfalso; omega) | (have e1 : ((i - 1 : Nat) : Int) = (i : Int) - 1 := (by omega); have e2 : ((j - 1 : Nat) : Int) = (j : Int) - 1 := (by omega); unfold candC; rw [if_neg (by decide), if_neg (by decide), if_pos (by omega), e1, e2, if_pos (by assumption)])
                      refine g_region ?_
                      refine s_y (y_move rfl) rfl rfl rfl rfl ?_
                      refine s_y (y_move rfl) rfl rfl rfl rfl ?_
                      refine s_y (y_idxb1 rfl rfl Try.underlying66 size_46 (by omega) (by omega)) rfl rfl rfl rfl ?_
                      refine s_y (y_ld1 3 rfl rfl agg_46 hrs) rfl rfl rfl rfl ?_
                      refine s_y (y_move rfl) rfl rfl rfl rfl ?_
                      refine s_y (y_idxb1 rfl rfl Try.underlying46 size_3 (by omega) (by omega)) rfl rfl rfl rfl ?_
                      refine s_y (y_ldM hB rfl agg_3 hc) rfl rfl rfl rfl ?_
                      refine s_y (y_move rfl) rfl rfl rfl rfl ?_
                      refine s_y (y_add rfl rfl (by omega) (by omega)) rfl rfl rfl rfl ?_
                      refine s_y (y_assign rfl) rfl rfl rfl rfl ?_
                      refine s_nil ?_
                      refine g_then ?_
                      refine g_seq ?_
                      refine g_seq ?_
                      refine g_region ?_
                      refine s_y (y_move rfl) rfl rfl rfl rfl ?_
                      refine s_y (y_lss rfl rfl) rfl rfl rfl rfl ?_
                      refine s_y (y_move rfl) rfl rfl rfl rfl ?_
                      refine g_bool 103 rfl (fun hq61 => ?_) (fun hq61 => ?_)
                      · (try simp at hq61)
                        refine s_no rfl rfl rfl ?_
                        refine s_no rfl rfl rfl ?_
                        refine s_no rfl rfl rfl ?_
                        refine s_y (y_pick_t rfl rfl) rfl rfl rfl rfl ?_
                        refine s_nil ?_
                        refine g_then ?_
                        refine g_cond_t rfl ?_
                        refine g_region ?_
                        refine s_y (y_move rfl) rfl rfl rfl rfl ?_
                        refine s_y (y_assign rfl) rfl rfl rfl rfl ?_
                        refine s_y (y_assign rfl) rfl rfl rfl rfl ?_
                        refine s_nil ?_
                        refine g_then ?_
                        refine g_seq ?_
                        refine g_region ?_
                        refine s_y (y_move rfl) rfl rfl rfl rfl ?_
                        refine s_y (y_move rfl) rfl rfl rfl rfl ?_
                        refine s_y (y_eql rfl rfl) rfl rfl rfl rfl ?_
                        refine s_nil ?_
                        refine g_then ?_
                        refine g_cond rfl (fun hq62 => ?_) (fun hq62 => ?_)
                        · (try simp at hq62)
                          refine g_region ?_
                          refine s_y (y_move rfl) rfl rfl rfl rfl ?_
                          refine s_y (y_move rfl) rfl rfl rfl rfl ?_
                          refine s_y (y_move rfl) rfl rfl rfl rfl ?_
                          refine s_y (y_idxb1 rfl rfl Try.underlying66 size_46 (by omega) (by omega)) rfl rfl rfl rfl ?_
                          refine s_y (y_ld1 4 rfl rfl agg_46 hrs2) rfl rfl rfl rfl ?_
                          refine s_y (y_move rfl) rfl rfl rfl rfl ?_
                          refine s_y (y_idxb1 rfl rfl Try.underlying46 size_3 (by omega) (by omega)) rfl rfl rfl rfl ?_
                          refine s_y (y_ldM hB2 rfl agg_3 hc2) rfl rfl rfl rfl ?_
                          refine s_y (y_add rfl rfl (by omega) (by omega)) rfl rfl rfl rfl ?_
                          refine s_y (y_assign rfl) rfl rfl rfl rfl ?_
                          refine s_nil ?_
                          refine g_inb ?_
                          refine g_then ?_
                          refine g_region ?_
                          refine s_y (y_add rfl rfl (by omega) (by omega)) rfl rfl rfl rfl ?_
                          refine s_y (y_move rfl) rfl rfl rfl rfl ?_
                          refine s_nil ?_
                          refine g_then ?_
                          have hcg := cand_range hp (by omega) (by omega) hcand
                          have e := costSt_lt hcand (by omega)
                          refine fun act W ha hw => ⟨2 + 1, by omega, by omega, ?_, _, hw⟩
                          rw [e]
                          exact ha.weak (sub_get ⟨rfl, rfl, rfl, rfl, rfl, rfl, rfl, rfl, rfl, rfl, rfl, rfl, rfl, rfl, trivial⟩)
                        · (try simp at hq62)
                          all_goals (exfalso; omega)
                      · (try simp at hq61)
                        refine s_y (y_move rfl) rfl rfl rfl rfl ?_
                        refine s_y (y_move rfl) rfl rfl rfl rfl ?_
                        refine s_y (y_lss rfl rfl) rfl rfl rfl rfl ?_
                        refine s_y (y_pick_f rfl rfl) rfl rfl rfl rfl ?_
                        refine s_nil ?_
                        refine g_then ?_
                        refine g_cond rfl (fun hq63 => ?_) (fun hq63 => ?_)
                        · (try simp at hq63)
                          refine g_region ?_
                          refine s_y (y_move rfl) rfl rfl rfl rfl ?_
                          refine s_y (y_assign rfl) rfl rfl rfl rfl ?_
                          refine s_y (y_assign rfl) rfl rfl rfl rfl ?_
                          refine s_nil ?_
                          refine g_then ?_
                          refine g_seq ?_
                          refine g_region ?_
                          refine s_y (y_move rfl) rfl rfl rfl rfl ?_
                          refine s_y (y_move rfl) rfl rfl rfl rfl ?_
                          refine s_y (y_eql rfl rfl) rfl rfl rfl rfl ?_
                          refine s_nil ?_
                          refine g_then ?_
                          refine g_cond rfl (fun hq64 => ?_) (fun hq64 => ?_)
                          · (try simp at hq64)
                            refine g_region ?_
                            refine s_y (y_move rfl) rfl rfl rfl rfl ?_
                            refine s_y (y_move rfl) rfl rfl rfl rfl ?_
                            refine s_y (y_move rfl) rfl rfl rfl rfl ?_
                            refine s_y (y_idxb1 rfl rfl Try.underlying66 size_46 (by omega) (by omega)) rfl rfl rfl rfl ?_
                            refine s_y (y_ld1 4 rfl rfl agg_46 hrs2) rfl rfl rfl rfl ?_
                            refine s_y (y_move rfl) rfl rfl rfl rfl ?_
                            refine s_y (y_idxb1 rfl rfl Try.underlying46 size_3 (by omega) (by omega)) rfl rfl rfl rfl ?_
                            refine s_y (y_ldM hB2 rfl agg_3 hc2) rfl rfl rfl rfl ?_
                            refine s_y (y_add rfl rfl (by omega) (by omega)) rfl rfl rfl rfl ?_
                            refine s_y (y_assign rfl) rfl rfl rfl rfl ?_
                            refine s_nil ?_
                            refine g_inb ?_
                            refine g_then ?_
                            refine g_region ?_
                            refine s_y (y_add rfl rfl (by omega) (by omega)) rfl rfl rfl rfl ?_
                            refine s_y (y_move rfl) rfl rfl rfl rfl ?_
                            refine s_nil ?_
                            refine g_then ?_
                            have hcg := cand_range hp (by omega) (by omega) hcand
                            have e := costSt_lt hcand (by omega)
                            refine fun act W ha hw => ⟨2 + 1, by omega, by omega, ?_, _, hw⟩
                            rw [e]
                            exact ha.weak (sub_get ⟨rfl, rfl, rfl, rfl, rfl, rfl, rfl, rfl, rfl, rfl, rfl, rfl, rfl, rfl, trivial⟩)
                          · (try simp at hq64)
                            all_goals (exfalso; omega)
                        · (try simp at hq63)
                          refine g_skip ?_
                          refine g_then ?_
                          refine g_seq ?_
                          refine g_region ?_
                          refine s_y (y_move rfl) rfl rfl rfl rfl ?_
                          refine s_y (y_move rfl) rfl rfl rfl rfl ?_
                          refine s_y (y_eql rfl rfl) rfl rfl rfl rfl ?_
                          refine s_nil ?_
                          refine g_then ?_
                          refine g_cond rfl (fun hq65 => ?_) (fun hq65 => ?_)
                          · (try simp at hq65)
                            refine g_region ?_
                            refine s_y (y_move rfl) rfl rfl rfl rfl ?_
                            refine s_y (y_move rfl) rfl rfl rfl rfl ?_
                            refine s_y (y_move rfl) rfl rfl rfl rfl ?_
                            refine s_y (y_idxb1 rfl rfl Try.underlying66 size_46 (by omega) (by omega)) rfl rfl rfl rfl ?_
                            refine s_y (y_ld1 4 rfl rfl agg_46 hrs2) rfl rfl rfl rfl ?_
                            refine s_y (y_move rfl) rfl rfl rfl rfl ?_
                            refine s_y (y_idxb1 rfl rfl Try.underlying46 size_3 (by omega) (by omega)) rfl rfl rfl rfl ?_
                            refine s_y (y_ldM hB2 rfl agg_3 hc2) rfl rfl rfl rfl ?_
                            refine s_y (y_add rfl rfl (by omega) (by omega)) rfl rfl rfl rfl ?_
                            refine s_y (y_assign rfl) rfl rfl rfl rfl ?_
                            refine s_nil ?_
                            refine g_inb ?_
                            refine g_then ?_
                            refine g_region ?_
                            refine s_y (y_add rfl rfl (by omega) (by omega)) rfl rfl rfl rfl ?_
                            refine s_y (y_move rfl) rfl rfl rfl rfl ?_
                            refine s_nil ?_
                            refine g_then ?_
                            have hcg := cand_range hp (by omega) (by omega) hcand
                            have e := costSt_eq hcand (by omega) (by omega)
                            refine fun act W ha hw => ⟨2 + 1, by omega, by omega, ?_, _, hw⟩
                            rw [e]
                            exact ha.weak (sub_get ⟨rfl, rfl, rfl, rfl, rfl, rfl, rfl, rfl, rfl, rfl, rfl, rfl, rfl, rfl, trivial⟩)
                          · (try simp at hq65)
                            refine g_skip ?_
                            refine g_inb ?_
                            refine g_then ?_
                            refine g_region ?_
                            refine s_y (y_add rfl rfl (by omega) (by omega)) rfl rfl rfl rfl ?_
                            refine s_y (y_move rfl) rfl rfl rfl rfl ?_
                            refine s_nil ?_
                            refine g_then ?_
                            have hcg := cand_range hp (by omega) (by omega) hcand
                            have e := costSt_gt hcand (by omega) (by omega)
                            refine fun act W ha hw => ⟨2 + 1, by omega, by omega, ?_, _, hw⟩
                            rw [e]
                            exact ha.weak (sub_get ⟨rfl, rfl, rfl, rfl, rfl, rfl, rfl, rfl, rfl, rfl, rfl, rfl, rfl, rfl, trivial⟩)
                    · (try simp at hq60)
                      refine g_skip ?_
                      refine g_then ?_
                      refine g_seq ?_
                      have hcand : candC a b pi po ps i j 2 = some (D a b pi po ps (i - 1) (j - 1) + ps, U a b pi po ps (i - 1) (j - 1)) := by
                        first | (exfalso; omega) | (have e1 : ((i - 1 : Nat) : Int) = (i : Int) - 1 := (by omega); have e2 : ((j - 1 : Nat) : Int) = (j : Int) - 1 := (by omega); unfold candC; rw [if_neg (by decide), if_neg (by decide), if_pos (by omega), e1, e2, if_neg (by assumption)])
                      refine g_region ?_
                      refine s_y (y_move rfl) rfl rfl rfl rfl ?_
                      refine s_y (y_move rfl) rfl rfl rfl rfl ?_
                      refine s_y (y_idxb1 rfl rfl Try.underlying66 size_46 (by omega) (by omega)) rfl rfl rfl rfl ?_
                      refine s_y (y_ld1 3 rfl rfl agg_46 hrs) rfl rfl rfl rfl ?_
                      refine s_y (y_move rfl) rfl rfl rfl rfl ?_
                      refine s_y (y_idxb1 rfl rfl Try.underlying46 size_3 (by omega) (by omega)) rfl rfl rfl rfl ?_
                      refine s_y (y_ldM hB rfl agg_3 hc) rfl rfl rfl rfl ?_
                      refine s_y (y_move rfl) rfl rfl rfl rfl ?_
                      refine s_y (y_add rfl rfl (by omega) (by omega)) rfl rfl rfl rfl ?_
                      refine s_y (y_assign rfl) rfl rfl rfl rfl ?_
                      refine s_nil ?_
                      refine g_then ?_
                      refine g_seq ?_
                      refine g_seq ?_
                      refine g_region ?_
                      refine s_y (y_move rfl) rfl rfl rfl rfl ?_
                      refine s_y (y_lss rfl rfl) rfl rfl rfl rfl ?_
                      refine s_y (y_move rfl) rfl rfl rfl rfl ?_
                      refine g_bool 103 rfl (fun hq66 => ?_) (fun hq66 => ?_)
                      · (try simp at hq66)
                        refine s_no rfl rfl rfl ?_
                        refine s_no rfl rfl rfl ?_
                        refine s_no rfl rfl rfl ?_
                        refine s_y (y_pick_t rfl rfl) rfl rfl rfl rfl ?_
                        refine s_nil ?_
                        refine g_then ?_
                        refine g_cond_t rfl ?_
                        refine g_region ?_
                        refine s_y (y_move rfl) rfl rfl rfl rfl ?_
                        refine s_y (y_assign rfl) rfl rfl rfl rfl ?_
                        refine s_y (y_assign rfl) rfl rfl rfl rfl ?_
                        refine s_nil ?_
                        refine g_then ?_
                        refine g_seq ?_
                        refine g_region ?_
                        refine s_y (y_move rfl) rfl rfl rfl rfl ?_
                        refine s_y (y_move rfl) rfl rfl rfl rfl ?_
                        refine s_y (y_eql rfl rfl) rfl rfl rfl rfl ?_
                        refine s_nil ?_
                        refine g_then ?_
                        refine g_cond rfl (fun hq67 => ?_) (fun hq67 => ?_)
                        · (try simp at hq67)
                          refine g_region ?_
                          refine s_y (y_move rfl) rfl rfl rfl rfl ?_
                          refine s_y (y_move rfl) rfl rfl rfl rfl ?_
                          refine s_y (y_move rfl) rfl rfl rfl rfl ?_
                          refine s_y (y_idxb1 rfl rfl Try.underlying66 size_46 (by omega) (by omega)) rfl rfl rfl rfl ?_
                          refine s_y (y_ld1 4 rfl rfl agg_46 hrs2) rfl rfl rfl rfl ?_
                          refine s_y (y_move rfl) rfl rfl rfl rfl ?_
                          refine s_y (y_idxb1 rfl rfl Try.underlying46 size_3 (by omega) (by omega)) rfl rfl rfl rfl ?_
                          refine s_y (y_ldM hB2 rfl agg_3 hc2) rfl rfl rfl rfl ?_
                          refine s_y (y_add rfl rfl (by omega) (by omega)) rfl rfl rfl rfl ?_
                          refine s_y (y_assign rfl) rfl rfl rfl rfl ?_
                          refine s_nil ?_
                          refine g_inb ?_
                          refine g_then ?_
                          refine g_region ?_
                          refine s_y (y_add rfl rfl (by omega) (by omega)) rfl rfl rfl rfl ?_
                          refine s_y (y_move rfl) rfl rfl rfl rfl ?_
                          refine s_nil ?_
                          refine g_then ?_
                          have hcg := cand_range hp (by omega) (by omega) hcand
                          have e := costSt_lt hcand (by omega)
                          refine fun act W ha hw => ⟨2 + 1, by omega, by omega, ?_, _, hw⟩
                          rw [e]
                          exact ha.weak (sub_get ⟨rfl, rfl, rfl, rfl, rfl, rfl, rfl, rfl, rfl, rfl, rfl, rfl, rfl, rfl, trivial⟩)
                        · (try simp at hq67)
                          all_goals (exfalso; omega)
                      · (try simp at hq66)
                        refine s_y (y_move rfl) rfl rfl rfl rfl ?_
                        refine s_y (y_move rfl) rfl rfl rfl rfl ?_
                        refine s_y (y_lss rfl rfl) rfl rfl rfl rfl ?_
                        refine s_y (y_pick_f rfl rfl) rfl rfl rfl rfl ?_
                        refine s_nil ?_
                        refine g_then ?_
                        refine g_cond rfl (fun hq68 => ?_) (fun hq68 => ?_)
                        · (try simp at hq68)
                          refine g_region ?_
                          refine s_y (y_move rfl) rfl rfl rfl rfl ?_
                          refine s_y (y_assign rfl) rfl rfl rfl rfl ?_
                          refine s_y (y_assign rfl) rfl rfl rfl rfl ?_
                          refine s_nil ?_
                          refine g_then ?_
                          refine g_seq ?_
                          refine g_region ?_
                          refine s_y (y_move rfl) rfl rfl rfl rfl ?_
                          refine s_y (y_move rfl) rfl rfl rfl rfl ?_
                          refine s_y (y_eql rfl rfl) rfl rfl rfl rfl ?_
                          refine s_nil ?_
                          refine g_then ?_
                          refine g_cond rfl (fun hq69 => ?_) (fun hq69 => ?_)
                          · (try simp at hq69)
                            refine g_region ?_
                            refine s_y (y_move rfl) rfl rfl rfl rfl ?_
                            refine s_y (y_move rfl) rfl rfl rfl rfl ?_
                            refine s_y (y_move rfl) rfl rfl rfl rfl ?_
                            refine s_y (y_idxb1 rfl rfl Try.underlying66 size_46 (by omega) (by omega)) rfl rfl rfl rfl ?_
                            refine s_y (y_ld1 4 rfl rfl agg_46 hrs2) rfl rfl rfl rfl ?_
                            refine s_y (y_move rfl) rfl rfl rfl rfl ?_
                            refine s_y (y_idxb1 rfl rfl Try.underlying46 size_3 (by omega) (by omega)) rfl rfl rfl rfl ?_
                            refine s_y (y_ldM hB2 rfl agg_3 hc2) rfl rfl rfl rfl ?_
                            refine s_y (y_add rfl rfl (by omega) (by omega)) rfl rfl rfl rfl ?_
                            refine s_y (y_assign rfl) rfl rfl rfl rfl ?_
                            refine s_nil ?_
                            refine g_inb ?_
                            refine g_then ?_
                            refine g_region ?_
                            refine s_y (y_add rfl rfl (by omega) (by omega)) rfl rfl rfl rfl ?_
                            refine s_y (y_move rfl) rfl rfl rfl rfl ?_
                            refine s_nil ?_
                            refine g_then ?_
                            have hcg := cand_range hp (by omega) (by omega) hcand
                            have e := costSt_lt hcand (by omega)
                            refine fun act W ha hw => ⟨2 + 1, by omega, by omega, ?_, _, hw⟩
                            rw [e]
                            exact ha.weak (sub_get ⟨rfl, rfl, rfl, rfl, rfl, rfl, rfl, rfl, rfl, rfl, rfl, rfl, rfl, rfl, trivial⟩)
                          · (try simp at hq69)
                            all_goals (exfalso; omega)
                        · (try simp at hq68)
                          refine g_skip ?_
                          refine g_then ?_
                          refine g_seq ?_
                          refine g_region ?_
                          refine s_y (y_move rfl) rfl rfl rfl rfl ?_
                          refine s_y (y_move rfl) rfl rfl rfl rfl ?_
                          refine s_y (y_eql rfl rfl) rfl rfl rfl rfl ?_
                          refine s_nil ?_
                          refine g_then ?_
                          refine g_cond rfl (fun hq70 => ?_) (fun hq70 => ?_)
                          · (try simp at hq70)
                            refine g_region ?_
                            refine s_y (y_move rfl) rfl rfl rfl rfl ?_
                            refine s_y (y_move rfl) rfl rfl rfl rfl ?_
                            refine s_y (y_move rfl) rfl rfl rfl rfl ?_
                            refine s_y (y_idxb1 rfl rfl Try.underlying66 size_46 (by omega) (by omega)) rfl rfl rfl rfl ?_
                            refine s_y (y_ld1 4 rfl rfl agg_46 hrs2) rfl rfl rfl rfl ?_
                            refine s_y (y_move rfl) rfl rfl rfl rfl ?_
                            refine s_y (y_idxb1 rfl rfl Try.underlying46 size_3 (by omega) (by omega)) rfl rfl rfl rfl ?_
                            refine s_y (y_ldM hB2 rfl agg_3 hc2) rfl rfl rfl rfl ?_
                            refine s_y (y_add rfl rfl (by omega) (by omega)) rfl rfl rfl rfl ?_
                            refine s_y (y_assign rfl) rfl rfl rfl rfl ?_
                            refine s_nil ?_
                            refine g_inb ?_
                            refine g_then ?_
                            refine g_region ?_
                            refine s_y (y_add rfl rfl (by omega) (by omega)) rfl rfl rfl rfl ?_
                            refine s_y (y_move rfl) rfl rfl rfl rfl ?_
                            refine s_nil ?_
                            refine g_then ?_
                            have hcg := cand_range hp (by omega) (by omega) hcand
                            have e := costSt_eq hcand (by omega) (by omega)
                            refine fun act W ha hw => ⟨2 + 1, by omega, by omega, ?_, _, hw⟩
                            rw [e]
                            exact ha.weak (sub_get ⟨rfl, rfl, rfl, rfl, rfl, rfl, rfl, rfl, rfl, rfl, rfl, rfl, rfl, rfl, trivial⟩)
                          · (try simp at hq70)
                            refine g_skip ?_
                            refine g_inb ?_
                            refine g_then ?_
                            refine g_region ?_
                            refine s_y (y_add rfl rfl (by omega) (by omega)) rfl rfl rfl rfl ?_
                            refine s_y (y_move rfl) rfl rfl rfl rfl ?_
                            refine s_nil ?_
                            refine g_then ?_
                            have hcg := cand_range hp (by omega) (by omega) hcand
                            have e := costSt_gt hcand (by omega) (by omega)
                            refine fun act W ha hw => ⟨2 + 1, by omega, by omega, ?_, _, hw⟩
                            rw [e]
                            exact ha.weak (sub_get ⟨rfl, rfl, rfl, rfl, rfl, rfl, rfl, rfl, rfl, rfl, rfl, rfl, rfl, rfl, trivial⟩)
                  · (try simp at hq59)
                    all_goals (exfalso; omega)
        · (try simp at hq38)
          refine g_exit ?_
          refine g_thenx ?_
          refine g_thenx ?_
          refine g_inbx ?_
          refine g_then ?_
          refine g_drawC 15 (fun W => W.heap[bb1]? = some (.cells ((Bs.map (rowV (b.size + 1)) ++ [rowV (b.size + 1) bR]) ++ jk1).toArray 46 (0, 0)) ∧ W.heap[bb2]? = some (.cells ((Cs.map (rowV (b.size + 1)) ++ [rowV (b.size + 1) cR]) ++ jk2).toArray 46 (0, 0))) (by kernel_rfl) ?_
          refine j_p (i := 0) rfl (y_move rfl) (by kernel_rfl) (by kernel_rfl) (by kernel_rfl) rfl rfl rfl rfl rfl (.inr (fun _ h => ⟨h.at_ _ (List.mem_of_getElem? (i := 3) rfl), h.at_ _ (List.mem_of_getElem? (i := 4) rfl)⟩)) ?_
          refine j_p (i := 1) rfl (y_move rfl) (by kernel_rfl) (by kernel_rfl) (by kernel_rfl) rfl rfl rfl rfl rfl (.inr (fun _ h => ⟨h.at_ _ (List.mem_of_getElem? (i := 3) rfl), h.at_ _ (List.mem_of_getElem? (i := 4) rfl)⟩)) ?_
          refine j_p (i := 2) rfl (y_idxb1 rfl rfl Try.underlying66 size_46 (by omega) (by omega)) (by kernel_rfl) (by kernel_rfl) (by kernel_rfl) rfl rfl rfl rfl rfl (.inr (fun _ h => ⟨h.at_ _ (List.mem_of_getElem? (i := 3) rfl), h.at_ _ (List.mem_of_getElem? (i := 4) rfl)⟩)) ?_
          refine j_l (i := 3) rfl (y_ldC (fun w h => h.1) rfl agg_46 cr1) (by kernel_rfl) (by kernel_rfl) (by kernel_rfl) (by kernel_rfl) rfl rfl rfl rfl rfl (.inr (fun _ h => ⟨h.at_ _ (List.mem_of_getElem? (i := 3) rfl), h.at_ _ (List.mem_of_getElem? (i := 4) rfl)⟩)) ?_
          refine j_p (i := 4) rfl (y_move rfl) (by kernel_rfl) (by kernel_rfl) (by kernel_rfl) rfl rfl rfl rfl rfl (.inr (fun _ h => ⟨h.at_ _ (List.mem_of_getElem? (i := 3) rfl), h.at_ _ (List.mem_of_getElem? (i := 4) rfl)⟩)) ?_
          refine j_p (i := 5) rfl (y_move rfl) (by kernel_rfl) (by kernel_rfl) (by kernel_rfl) rfl rfl rfl rfl rfl (.inr (fun _ h => ⟨h.at_ _ (List.mem_of_getElem? (i := 3) rfl), h.at_ _ (List.mem_of_getElem? (i := 4) rfl)⟩)) ?_
          refine j_p (i := 6) rfl (y_move rfl) (by kernel_rfl) (by kernel_rfl) (by kernel_rfl) rfl rfl rfl rfl rfl (.inr (fun _ h => ⟨h.at_ _ (List.mem_of_getElem? (i := 3) rfl), h.at_ _ (List.mem_of_getElem? (i := 4) rfl)⟩)) ?_
          refine j_p (i := 7) rfl (y_idxb1 rfl rfl Try.underlying66 size_46 (by omega) (by omega)) (by kernel_rfl) (by kernel_rfl) (by kernel_rfl) rfl rfl rfl rfl rfl (.inr (fun _ h => ⟨h.at_ _ (List.mem_of_getElem? (i := 3) rfl), h.at_ _ (List.mem_of_getElem? (i := 4) rfl)⟩)) ?_
          refine j_l (i := 8) rfl (y_ldC (fun w h => h.2) rfl agg_46 cr2) (by kernel_rfl) (by kernel_rfl) (by kernel_rfl) (by kernel_rfl) rfl rfl rfl rfl rfl (.inr (fun _ h => ⟨h.at_ _ (List.mem_of_getElem? (i := 3) rfl), h.at_ _ (List.mem_of_getElem? (i := 4) rfl)⟩)) ?_
          refine j_p (i := 9) rfl (y_move rfl) (by kernel_rfl) (by kernel_rfl) (by kernel_rfl) rfl rfl rfl rfl rfl (.inr (fun _ h => ⟨h.at_ _ (List.mem_of_getElem? (i := 3) rfl), h.at_ _ (List.mem_of_getElem? (i := 4) rfl)⟩)) ?_
          refine j_p (i := 10) rfl (y_move rfl) (by kernel_rfl) (by kernel_rfl) (by kernel_rfl) rfl rfl rfl rfl rfl (.inr (fun _ h => ⟨h.at_ _ (List.mem_of_getElem? (i := 3) rfl), h.at_ _ (List.mem_of_getElem? (i := 4) rfl)⟩)) ?_
          refine j_p (i := 11) rfl (y_move rfl) (by kernel_rfl) (by kernel_rfl) (by kernel_rfl) rfl rfl rfl rfl rfl (.inr (fun _ h => ⟨h.at_ _ (List.mem_of_getElem? (i := 3) rfl), h.at_ _ (List.mem_of_getElem? (i := 4) rfl)⟩)) ?_
          refine j_p (i := 12) rfl (y_idxb1 rfl rfl Try.underlying46 size_3 (by omega) (by omega)) (by kernel_rfl) (by kernel_rfl) (by kernel_rfl) rfl rfl rfl rfl rfl (.inr (fun _ h => ⟨h.at_ _ (List.mem_of_getElem? (i := 3) rfl), h.at_ _ (List.mem_of_getElem? (i := 4) rfl)⟩)) ?_
          refine j_tr0 (i := 13) rfl (t_store 0 rfl rfl rfl rfl size_3 (hbl (by omega) _ _) rfl) (by kernel_rfl) rfl rfl rfl (.inr (fun x w hb h => ⟨h.at_ _ (List.mem_of_getElem? (i := 3) rfl), h.at_ _ (List.mem_of_getElem? (i := 4) rfl)⟩)) (fun _ _ => ?_)
          refine j_p (i := 14) rfl (y_idxb1 rfl rfl Try.underlying46 size_3 (by omega) (by omega)) (by kernel_rfl) (by kernel_rfl) (by kernel_rfl) rfl rfl rfl rfl rfl (.inr (fun _ h => ⟨h.at_ _ (List.mem_of_getElem? (i := 3) rfl), h.at_ _ (List.mem_of_getElem? (i := 4) rfl)⟩)) ?_
          refine j_tr0 (i := 15) rfl (t_store 1 rfl rfl rfl rfl size_3 (hbl (by omega) _ _) rfl) (by kernel_rfl) rfl rfl rfl (.inl rfl) (fun _ _ => ?_)
          refine j_nil (by kernel_rfl) ?_
          refine g_inb ?_
          refine g_then ?_
          refine g_region ?_
          refine s_y (y_add rfl rfl (by omega) (by omega)) rfl rfl rfl rfl ?_
          refine s_y (y_move rfl) rfl rfl rfl rfl ?_
          refine s_nil ?_
          refine g_then ?_
          refine fun act W ha hw => ⟨j + 1, by omega, by omega, ha.weak (sub_get ⟨rfl, rfl, rfl, rfl, rfl, rfl, rfl, rfl, rfl, rfl, trivial⟩), W, ?_⟩
          have hne : i + j ≠ 0 := by omega
          have hk3 : k = 3 := by omega
          subst hk3
          have he := costSt_end (a := a) (b := b) hp hne
          have he1 : (costSt a b pi po ps i j 3).1 = D a b pi po ps i j := congrArg Prod.fst he
          have he2 : (costSt a b pi po ps i j 3).2 = U a b pi po ps i j := congrArg Prod.snd he
          rw [show rowO (curRow (D a b pi po ps) (b.size + 1) i (j + 1)) = .cells (setCs ((curRow (D a b pi po ps) (b.size + 1) i j).map (Value.int .i64)) ((j : Nat) : Int).toNat [.int .i64 _]).toArray 3 (0, 0) from by rw [row_store (D a b pi po ps) _ _ _ _ (by omega) he1]; try rfl]
          rw [show rowO (curRow (U a b pi po ps) (b.size + 1) i (j + 1)) = .cells (setCs ((curRow (U a b pi po ps) (b.size + 1) i j).map (Value.int .i64)) ((j : Nat) : Int).toNat [.int .i64 _]).toArray 3 (0, 0) from by rw [row_store (U a b pi po ps) _ _ _ _ (by omega) he2]; try rfl]
          exact hw.look'
    · (try simp at hq2)
      refine g_exit ?_
      refine g_thenx ?_
      refine g_thenx ?_
      refine g_inbx ?_
      refine g_inb ?_
      refine g_then ?_
      refine g_region ?_
      refine s_y (y_add rfl rfl (by omega) (by omega)) rfl rfl rfl rfl ?_
      refine s_y (y_move rfl) rfl rfl rfl rfl ?_
      refine s_nil ?_
      refine g_then ?_
      refine fun act W ha hw => ⟨i + 1, by omega, by omega, W, .own bb1 cap1 jk1, .own bb2 cap2 jk2, Bs ++ [bR], Cs ++ [cR], by simp [hBs], by simp [hCs], by rw [List.map_append]; exact hok3, by rw [List.map_append]; exact hok4, ha.weak (sub_get ⟨rfl, rfl, rfl, rfl, rfl, rfl, rfl, trivial⟩), ?_⟩
      have hj : j = b.size + 1 := by omega
      subst hj
      rw [rowsM_snoc, rowsM_snoc, List.map_append, List.map_append, hBs, hCs, ← curRow_full, ← curRow_full]
      refine (Hp.perm hw ?_).look'
      refine (perm_two _ _ _ _ _ _ _).trans ?_
      exact List.Perm.refl _
  · (try simp at hq1)
    refine g_exit ?_
    refine g_thenx ?_
    refine g_thenx ?_
    refine g_inbx ?_
    refine g_then ?_
    refine g_seq ?_
    refine g_region ?_
    refine s_y (y_move rfl) rfl rfl rfl rfl ?_
    refine s_y (y_move rfl) rfl rfl rfl rfl ?_
    refine s_y (y_assign rfl) rfl rfl rfl rfl ?_
    refine s_y (y_assign rfl) rfl rfl rfl rfl ?_
    refine s_nil ?_
    refine g_then ?_
    refine g_ret ?_
    refine g_end trivial (fun a w ha _ => res2 ha rfl rfl rfl w) (fun w h => ?_)
    have hin : i = a.size + 1 := by omega
    subst hin
    cases sv1 with
    | nil => exact absurd hok1.1 (by omega)
    | own bb1 cap1 jk1 =>
      cases sv2 with
      | nil => exact absurd hok2.1 (by omega)
      | own bb2 cap2 jk2 => exact ⟨((bb1, cap1, jk1, Bs), (bb2, cap2, jk2, Cs)), ⟨hBs, hCs⟩, rfl, h.base.tail (Nat.le_trans (Nat.le_refl _) hb5.1)⟩

end Go.Proofs.Ytnnpdgegejklpaa
