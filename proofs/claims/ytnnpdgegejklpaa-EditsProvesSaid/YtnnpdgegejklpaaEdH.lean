/- edits: what Ways hands back. -/
import Derived.Test.YtnnpdgegejklpaaEdD
import Derived.Test.YtnnpdgegejklpaaEdWaysP
namespace Go.Proofs.Ytnnpdgegejklpaa
open Go.RowKit Go.Sx
set_option linter.unusedVariables false
set_option linter.unusedSimpArgs false
set_option maxRecDepth 100000
set_option maxHeartbeats 4000000

private theorem pm : PairMap Try.prog 93 79 3 := ⟨Try.underlying93, deep_law_gate (by kernel_rfl) (of_decide_eq_true (by kernel_rfl)) (of_decide_eq_true (by kernel_rfl)) (by kernel_rfl) (by kernel_rfl), fun hi hj => key_pair Try.underlying79 Try.underlying3 (by kernel_rfl) (by kernel_rfl) (by kernel_rfl) (by kernel_rfl) (fun _ _ => by kernel_rfl) hi hj, fun u => by kernel_rfl⟩
private theorem agg_28 : isAggB Try.prog 28 = some true := by kernel_rfl
private theorem size_28 : (Try.prog.info? 28).map (·.size) = some 3 := by kernel_rfl
private theorem ent_62 : Enters Try.prog 62 := enters_of Try.func62 (by kernel_rfl) rfl
private theorem zero_89 : (Try.prog.info? 89).bind (·.zero) = some (.pointer none) := by kernel_rfl
private theorem size_89 : (Try.prog.info? 89).map (·.size) = some 1 := by kernel_rfl
private theorem agg_93 : isAggB Try.prog 93 = some false := by kernel_rfl
private theorem agg_3 : isAggB Try.prog 3 = some false := by kernel_rfl
private theorem bld_79_0_1 (x0 : Int) (x1 : Int) (w : World) : (Instr.build 79 #[(0, (.int .i64 x0)), (1, (.int .i64 x1))]).run Try.prog w = .ok (.agg #[(.int .i64 x0), (.int .i64 x1)]) w := by kernel_rfl
private theorem zero_93 : (Try.prog.info? 93).bind (·.zero) = some (.map none) := by kernel_rfl
private theorem size_93 : (Try.prog.info? 93).map (·.size) = some 1 := by kernel_rfl
private theorem zero_3 : (Try.prog.info? 3).bind (·.zero) = some (.int .i64 0) := by kernel_rfl
private theorem size_3 : (Try.prog.info? 3).map (·.size) = some 1 := by kernel_rfl
private theorem agg_89 : isAggB Try.prog 89 = some false := by kernel_rfl
private theorem ent_64 : Enters Try.prog 64 := enters_of Try.func64 (by kernel_rfl) rfl
private theorem ent_88 : Enters Try.prog 88 := enters_of Try.func88 (by kernel_rfl) rfl
private theorem zero_97 : (Try.prog.info? 97).bind (·.zero) = some (.agg #[(.pointer none), (.int .i64 0), (.int .i64 0), (.int .i64 0), (.int .i64 0)]) := by kernel_rfl
private theorem size_97 : (Try.prog.info? 97).map (·.size) = some 5 := by kernel_rfl
private theorem agg_97 : isAggB Try.prog 97 = some true := by kernel_rfl
private theorem fld_99_3 (b off : Nat) (w : World) : (Instr.fieldAt 99 (.pointer (some ⟨b, off, none⟩)) 3).run Try.prog w = .ok (.pointer (some ⟨b, off + 5, none⟩)) w := by kernel_rfl
private theorem agg_66 : isAggB Try.prog 66 = some false := by kernel_rfl
private theorem size_46 : (Try.prog.info? 46).map (·.size) = some 1 := by kernel_rfl
private theorem agg_46 : isAggB Try.prog 46 = some false := by kernel_rfl
private theorem ent_65 : Enters Try.prog 65 := enters_of Try.func65 (by kernel_rfl) rfl
private theorem fld_97_1 (b off : Nat) (w : World) : (Instr.fieldAt 97 (.pointer (some ⟨b, off, none⟩)) 1).run Try.prog w = .ok (.pointer (some ⟨b, off + 1, none⟩)) w := by kernel_rfl
private theorem fld_97_2 (b off : Nat) (w : World) : (Instr.fieldAt 97 (.pointer (some ⟨b, off, none⟩)) 2).run Try.prog w = .ok (.pointer (some ⟨b, off + 2, none⟩)) w := by kernel_rfl

theorem Ways_bad (w : World) (a b : ByteArray) (pi po ps : Int) (h : ¬ (a.size ≤ 12 ∧ b.size ≤ 12 ∧ okP pi po ps)) :
    Calls Try.prog 25 [.string a, .string b, .agg #[.int .i64 pi, .int .i64 po, .int .i64 ps]].toArray w fun e w' => e = .returned (.tuple #[.int .i64 0, .int .i64 2]) ∧ Below w.heap.size w w' := by
  refine enter (N := 80) Try.func25 rfl rfl rfl ?_
  refine g_seq ?_
  refine g_region ?_
  refine s_tr (t_box rfl rfl) rfl rfl rfl rfl (fun b1 hb1 => ?_)
  refine s_y (y_assign rfl) rfl rfl rfl rfl ?_
  refine s_y (y_assign rfl) rfl rfl rfl rfl ?_
  refine s_nil ?_
  refine g_then ?_
  refine g_seq ?_
  refine g_region ?_
  refine s_y (y_move rfl) rfl rfl rfl rfl ?_
  refine s_y (y_move rfl) rfl rfl rfl rfl ?_
  refine s_y (y_ldn 0 rfl rfl agg_28 size_28 rfl rfl) rfl rfl rfl rfl ?_
  refine s_tr (t_callm (A := fun _ => True) (vf := fun g : Nat => .tuple #[.pointer (some ⟨g, 0, none⟩), .bool false]) (mm := fun _ => []) rfl rfl ent_62 (fun w hw => (read_bad w a b pi po ps h).mono fun e w' ⟨g, h1, h2⟩ => ⟨g, trivial, h1, Hq.of_below h2⟩)) rfl rfl rfl rfl (fun g _ => ?_)
  refine s_y (y_move rfl) rfl rfl rfl rfl ?_
  refine s_y (y_extract rfl rfl) rfl rfl rfl rfl ?_
  refine s_y (y_extract rfl rfl) rfl rfl rfl rfl ?_
  refine s_tr (t_alloc zero_89 rfl) rfl rfl rfl rfl (fun b8 hb8 => ?_)
  refine s_tr0 (t_store 0 rfl rfl rfl rfl size_89 rfl rfl) rfl rfl rfl (fun _ _ => ?_)
  refine s_y (y_assign rfl) rfl rfl rfl rfl ?_
  refine s_nil ?_
  refine g_then ?_
  refine g_seq ?_
  refine g_seq ?_
  refine g_region ?_
  refine s_y (y_move rfl) rfl rfl rfl rfl ?_
  refine s_y (y_not_f rfl) rfl rfl rfl rfl ?_
  refine s_nil ?_
  refine g_then ?_
  refine g_cond_t rfl ?_
  refine g_seq ?_
  refine g_region ?_
  refine s_y (y_assign rfl) rfl rfl rfl rfl ?_
  refine s_y (y_assign rfl) rfl rfl rfl rfl ?_
  refine s_nil ?_
  refine g_then ?_
  refine g_ret ?_
  refine g_thenr ?_
  exact g_end trivial (fun a w ha _ => res2 ha rfl rfl rfl w) (fun w h => ⟨rfl, h.below⟩)

theorem Ways_ok (w : World) (a b : ByteArray) (pi po ps : Int) (ha12 : a.size ≤ 12) (hb12 : b.size ≤ 12) (hp : okP pi po ps) :
    Calls Try.prog 25 [.string a, .string b, .agg #[.int .i64 pi, .int .i64 po, .int .i64 ps]].toArray w fun e w' => e = .returned (.tuple #[.int .i64 (U a b pi po ps a.size b.size), .int .i64 0]) ∧ Below w.heap.size w w' := by
  refine enter (N := 80) Try.func25 rfl rfl rfl ?_
  refine g_seq ?_
  refine g_region ?_
  refine s_tr (t_box rfl rfl) rfl rfl rfl rfl (fun b1 hb1 => ?_)
  refine s_y (y_assign rfl) rfl rfl rfl rfl ?_
  refine s_y (y_assign rfl) rfl rfl rfl rfl ?_
  refine s_nil ?_
  refine g_then ?_
  refine g_seq ?_
  refine g_region ?_
  refine s_y (y_move rfl) rfl rfl rfl rfl ?_
  refine s_y (y_move rfl) rfl rfl rfl rfl ?_
  refine s_y (y_ldn 0 rfl rfl agg_28 size_28 rfl rfl) rfl rfl rfl rfl ?_
  refine s_tr (t_callm (A := fun x : Nat × Nat × Nat × List Value × List Nat => x.2.2.2.2.length = a.size + 1) (vf := fun x => .tuple #[.pointer (some ⟨x.1, 0, none⟩), .bool true]) rfl rfl ent_62 (fun w hw => (read_ok w a b pi po ps ha12 hb12 hp).mono fun e w' ⟨x, h1, h2, h3⟩ => ⟨x, h1, h2, h3⟩)) rfl rfl rfl rfl (fun x hx => ?_)
  obtain ⟨g, bb, cap, jk, Bs⟩ := x
  have hl : Bs.length = a.size + 1 := hx
  refine s_y (y_move rfl) rfl rfl rfl rfl ?_
  refine s_y (y_extract rfl rfl) rfl rfl rfl rfl ?_
  refine s_y (y_extract rfl rfl) rfl rfl rfl rfl ?_
  refine s_tr (t_alloc zero_89 rfl) rfl rfl rfl rfl (fun b8 hb8 => ?_)
  refine s_tr0 (t_store 0 rfl rfl rfl rfl size_89 rfl rfl) rfl rfl rfl (fun _ _ => ?_)
  refine s_y (y_assign rfl) rfl rfl rfl rfl ?_
  refine s_nil ?_
  refine g_then ?_
  refine g_seq ?_
  refine g_seq ?_
  refine g_region ?_
  refine s_y (y_move rfl) rfl rfl rfl rfl ?_
  refine s_y (y_not_t rfl) rfl rfl rfl rfl ?_
  refine s_nil ?_
  refine g_then ?_
  refine g_cond_f rfl ?_
  refine g_skip ?_
  refine g_then ?_
  refine g_seq ?_
  refine g_region ?_
  refine s_tr t_makeMap rfl rfl rfl rfl (fun mb hmb => ?_)
  refine s_y (y_build (vs := [(0, _), (1, _)]) rfl rfl (fun w => bld_79_0_1 _ _ w)) rfl rfl rfl rfl ?_
  refine s_tr0 (t_insert (i := 0) (j := 0) 0 pm rfl rfl rfl rfl (wf_small (by omega) (by omega)) (wf_small (by omega) (by omega))) rfl rfl rfl (fun _ _ => ?_)
  refine s_y (y_move rfl) rfl rfl rfl rfl ?_
  refine s_tr (t_alloc zero_93 rfl) rfl rfl rfl rfl (fun b10 hb10 => ?_)
  refine s_tr0 (t_store 0 rfl rfl rfl rfl size_93 rfl rfl) rfl rfl rfl (fun _ _ => ?_)
  refine s_nil ?_
  refine g_then ?_
  refine g_seq ?_
  refine g_seq ?_
  refine g_region ?_
  refine s_y (y_move rfl) rfl rfl rfl rfl ?_
  refine s_y (y_lens rfl Try.underlying9) rfl rfl rfl rfl ?_
  refine s_y (y_add rfl rfl (by omega) (by omega)) rfl rfl rfl rfl ?_
  refine s_y (y_move rfl) rfl rfl rfl rfl ?_
  refine s_nil ?_
  refine g_then ?_
  refine g_block ?_
  refine g_loop (fun (i : Nat) act W => i ≤ a.size + 1 ∧ ∃ (ds : List Deferred) (w1 : World) (es : Array MapEntry) (clock : Nat) (F : Int → Int → Option Int), Marks w w1 ds ∧ (MapIs es clock F ∧ (es.toList.map (·.key)).Nodup ∧ (∀ i' j' : Nat, i' ≤ a.size → j' ≤ b.size → (F i' j').getD 0 = Wst a b pi po ps i 0 0 i' j')) ∧ Has 80 ds [(29, .int .i64 i), (28, .int .i64 ((a.size : Int) + 1)), (10, .pointer (some ⟨b10, 0, none⟩)), (8, .pointer (some ⟨b8, 0, none⟩)), (1, .string b), (0, .string a)] act ∧ Hp w w1 ((b10, .cells [.map (some mb)].toArray 93 (0, 0)) :: (mb, .map es clock) :: (b8, .cells [.pointer (some ⟨g, 0, none⟩)].toArray 89 (0, 0)) :: (g, gridO a b pi po ps (.slice (some ⟨bb, 0, none⟩) (a.size + 1) cap)) :: (bb, .cells (Bs.map (rowV (b.size + 1)) ++ jk).toArray 46 (0, 0)) :: rowsM (D a b pi po ps) (b.size + 1) Bs) W) (fun i => a.size + 1 - i) 0 (fun act W ha hw => ⟨Nat.zero_le _, [], W, _, _, _, trivial, ⟨MapIs.one (wf_small (by omega) (by omega)) (wf_small (by omega) (by omega)), by simp, fun i' j' _ _ => Wst_first a b pi po ps i' j'⟩, ha.weak (sub_get ⟨rfl, rfl, rfl, rfl, rfl, rfl, trivial⟩), hw.toHq.lookSub (List.Sublist.cons_cons _ (List.Sublist.cons_cons _ (List.Sublist.cons_cons _ (List.Sublist.cons_cons _ (List.Sublist.cons_cons _ (List.sublist_append_left _ _))))))⟩) ?_
  intro i act W ⟨hi, ds, w1, es, clock, F, hM, ⟨hMI, hnd, hF⟩, ha, hw⟩
  refine g_go ha hw ?_
  clear ha hw act W
  refine g_seq ?_
  refine g_region ?_
  refine s_y (y_lss rfl rfl) rfl rfl rfl rfl ?_
  refine s_nil ?_
  refine g_then ?_
  refine g_seq ?_
  refine g_cond rfl (fun hq2 => ?_) (fun hq2 => ?_)
  · (try simp at hq2)
    refine g_skip ?_
    refine g_then ?_
    refine g_seq ?_
    refine g_block ?_
    refine g_seq ?_
    refine g_region ?_
    refine s_y (y_move rfl) rfl rfl rfl rfl ?_
    refine s_tr (t_alloc zero_3 rfl) rfl rfl rfl rfl (fun b11 hb11 => ?_)
    refine s_tr0 (t_store 0 rfl rfl rfl rfl size_3 rfl rfl) rfl rfl rfl (fun _ _ => ?_)
    refine s_nil ?_
    refine g_then ?_
    refine g_seq ?_
    refine g_region ?_
    refine s_y (y_move rfl) rfl rfl rfl rfl ?_
    refine s_y (y_lens rfl Try.underlying9) rfl rfl rfl rfl ?_
    refine s_y (y_add rfl rfl (by omega) (by omega)) rfl rfl rfl rfl ?_
    refine s_y (y_move rfl) rfl rfl rfl rfl ?_
    refine s_nil ?_
    refine g_then ?_
    refine g_block ?_
    refine g_loop (fun (j : Nat) act W => j ≤ b.size + 1 ∧ ∃ (ds : List Deferred) (w1 : World) (es : Array MapEntry) (clock : Nat) (F : Int → Int → Option Int), Marks w w1 ds ∧ (MapIs es clock F ∧ (es.toList.map (·.key)).Nodup ∧ (∀ i' j' : Nat, i' ≤ a.size → j' ≤ b.size → (F i' j').getD 0 = Wst a b pi po ps i j 0 i' j')) ∧ Has 80 ds [(35, .int .i64 j), (34, .int .i64 ((b.size : Int) + 1)), (11, .pointer (some ⟨b11, 0, none⟩)), (29, .int .i64 i), (28, .int .i64 ((a.size : Int) + 1)), (10, .pointer (some ⟨b10, 0, none⟩)), (8, .pointer (some ⟨b8, 0, none⟩)), (1, .string b), (0, .string a)] act ∧ Hp w w1 ((b11, .cells [.int .i64 (i : Int)].toArray 3 (0, 0)) :: (b10, .cells [.map (some mb)].toArray 93 (0, 0)) :: (mb, .map es clock) :: (b8, .cells [.pointer (some ⟨g, 0, none⟩)].toArray 89 (0, 0)) :: (g, gridO a b pi po ps (.slice (some ⟨bb, 0, none⟩) (a.size + 1) cap)) :: (bb, .cells (Bs.map (rowV (b.size + 1)) ++ jk).toArray 46 (0, 0)) :: rowsM (D a b pi po ps) (b.size + 1) Bs) W) (fun j => b.size + 1 - j) 0 (fun act W ha hw => ⟨Nat.zero_le _, ds, _, es, clock, F, hM, ⟨hMI, hnd, hF⟩, ha.weak (sub_get ⟨rfl, rfl, rfl, rfl, rfl, rfl, rfl, rfl, rfl, trivial⟩), hw⟩) ?_
    clear hMI hnd hF hM
    intro j act W ⟨hj, ds, w1, es, clock, F, hM, ⟨hMI, hnd, hF⟩, ha, hw⟩
    refine g_go ha hw ?_
    clear ha hw act W
    refine g_seq ?_
    refine g_region ?_
    refine s_y (y_lss rfl rfl) rfl rfl rfl rfl ?_
    refine s_nil ?_
    refine g_then ?_
    refine g_seq ?_
    refine g_cond rfl (fun hq3 => ?_) (fun hq3 => ?_)
    · (try simp at hq3)
      refine g_skip ?_
      refine g_then ?_
      refine g_seq ?_
      refine g_block ?_
      refine g_seq ?_
      refine g_region ?_
      refine s_y (y_move rfl) rfl rfl rfl rfl ?_
      refine s_tr (t_alloc zero_3 rfl) rfl rfl rfl rfl (fun b12 hb12 => ?_)
      refine s_tr0 (t_store 0 rfl rfl rfl rfl size_3 rfl rfl) rfl rfl rfl (fun _ _ => ?_)
      refine s_nil ?_
      refine g_then ?_
      refine g_seq ?_
      refine g_region ?_
      refine s_y (y_ld1 4 rfl rfl agg_89 rfl) rfl rfl rfl rfl ?_
      refine s_y (y_ld1 1 rfl rfl agg_3 rfl) rfl rfl rfl rfl ?_
      refine s_y (y_ld1 0 rfl rfl agg_3 rfl) rfl rfl rfl rfl ?_
      refine s_tr (t_callm (A := fun _ => True) rfl rfl ent_64 (fun w h => (into_any w _ _ _).mono fun e w' ⟨x, h1, h2⟩ => ⟨x, trivial, h1, h2⟩)) rfl rfl rfl rfl (fun x _ => ?_)
      obtain ⟨bi, bj, bg⟩ := x
      refine s_nil ?_
      refine g_then ?_
      refine g_block ?_
      refine g_range (gf := 88) (lb := [.pointer (some ⟨bi, 0, none⟩), .pointer (some ⟨bj, 0, none⟩), .pointer (some ⟨bg, 0, none⟩)]) (encs := edgeV g) (xs := (edges a b i j)) rfl ent_88 (fun _ => rfl) (by decide) (fun _ W => GridS g bg bi bj a b i j W)
        (fun k m' => ∃ (es : Array MapEntry) (clock : Nat) (F : Int → Int → Option Int), (MapIs es clock F ∧ (es.toList.map (·.key)).Nodup ∧ (∀ i' j' : Nat, i' ≤ a.size → j' ≤ b.size → (F i' j').getD 0 = Wst a b pi po ps i j k i' j')) ∧ m' = ((bj, .cells [.int .i64 (j : Int)].toArray 3 (0, 0)) :: (bi, .cells [.int .i64 (i : Int)].toArray 3 (0, 0)) :: (bg, .cells [.pointer (some ⟨g, 0, none⟩)].toArray 89 (0, 0)) :: (b12, .cells [.int .i64 (j : Int)].toArray 3 (0, 0)) :: (b11, .cells [.int .i64 (i : Int)].toArray 3 (0, 0)) :: (b10, .cells [.map (some mb)].toArray 93 (0, 0)) :: (mb, .map es clock) :: (b8, .cells [.pointer (some ⟨g, 0, none⟩)].toArray 89 (0, 0)) :: (g, gridO a b pi po ps (.slice (some ⟨bb, 0, none⟩) (a.size + 1) cap)) :: (bb, .cells (Bs.map (rowV (b.size + 1)) ++ jk).toArray 46 (0, 0)) :: rowsM (D a b pi po ps) (b.size + 1) Bs)) (fun _ _ _ => False)
        (fun we _ => into_iter g bg bi bj a b i j (by omega) (by omega) (by omega) (by omega) (by omega) (by omega))
        (by rintro we k _ W _ ⟨es, clock, F, _, rfl⟩ h; exact ⟨h.at_ _ (List.mem_of_getElem? (i := 1) rfl), h.at_ _ (List.mem_of_getElem? (i := 0) rfl), h.at_ _ (List.mem_of_getElem? (i := 2) rfl), _, _, _, _, h.at_ _ (List.mem_of_getElem? (i := 8) rfl)⟩) ⟨es, clock, F, ⟨hMI, hnd, hF⟩, rfl⟩ ?hr ?hd (fun _ _ _ _ _ _ _ h => h.elim)
      case hr =>
        clear hMI hnd hF
        rintro we W1 hwe lp k x _ hx ⟨es, clock, F, ⟨hMI, hnd, hF⟩, rfl⟩ hq K hK
        have hxm : x ∈ (edges a b i j) := List.mem_of_getElem? hx
        obtain ⟨q1, q2, q3, q4, q5⟩ := edges_mem hxm (by omega) (by omega)
        obtain ⟨B, hB0⟩ : ∃ B, Bs[i]? = some B := ⟨_, List.getElem?_eq_getElem (by omega)⟩
        have hrs : (Bs.map (rowV (b.size + 1)) ++ jk)[((i : Nat) : Int).toNat]? = some (rowV (b.size + 1) B) := by rw [Int.toNat_natCast, List.getElem?_append_left (by rw [List.length_map]; omega), List.getElem?_map, hB0]; rfl
        have hc : ((tabRow (D a b pi po ps) (b.size + 1) i).map (Value.int .i64))[((j : Nat) : Int).toNat]? = some (.int .i64 (D a b pi po ps i j)) := by rw [Int.toNat_natCast, List.getElem?_map, tabRow_at _ _ _ _ (by omega)]; rfl
        have hFij := hF i j (by omega) (by omega)
        have hFx : (F x.1 x.2.1).getD 0 = U a b pi po ps x.1.toNat x.2.1.toNat := by have := (hF x.1.toNat x.2.1.toNat (by omega) (by omega)).trans (Wst_edge hxm); rwa [Int.toNat_of_nonneg q1, Int.toNat_of_nonneg q2] at this
        have hr1 := Wst_range (a := a) (b := b) (pi := pi) (po := po) (ps := ps) (i := i) (j := j) (k := k) (by omega) (by omega)
        have hr2 := U_range a b pi po ps (i := x.1.toNat) (j := x.2.1.toNat) (by omega)
        rw [← hFij] at hr1; rw [← hFx] at hr2
        refine g_region ?_
        refine s_tr (t_alloc zero_97 rfl) rfl rfl rfl rfl (fun eb heb => ?_)
        refine s_tr0 (t_store 0 rfl rfl rfl rfl size_97 rfl rfl) rfl rfl rfl (fun _ _ => ?_)
        refine s_nil ?_
        refine g_then ?_
        refine hK _ _ (fun W2 hW2 => ?_)
        refine g_block ?_
        refine g_seq ?_
        refine g_draw 13 (by kernel_rfl) ?_
        refine j_l (i := 0) rfl (y_ldn 0 rfl rfl agg_97 size_97 rfl rfl) (by kernel_rfl) (by kernel_rfl) (by kernel_rfl) (by kernel_rfl) rfl rfl rfl rfl rfl (.inr (fun _ h => h)) ?_
        refine j_l (i := 2) rfl (y_ld1 8 rfl rfl agg_89 rfl) (by kernel_rfl) (by kernel_rfl) (by kernel_rfl) (by kernel_rfl) rfl rfl rfl rfl rfl (.inr (fun _ h => h)) ?_
        refine j_p (i := 3) rfl (y_nil rfl) (by kernel_rfl) (by kernel_rfl) (by kernel_rfl) rfl rfl rfl rfl rfl (.inr (fun _ h => h)) ?_
        refine j_p (i := 4) rfl (y_fld rfl (fun w => fld_99_3 _ _ w)) (by kernel_rfl) (by kernel_rfl) (by kernel_rfl) rfl rfl rfl rfl rfl (.inr (fun _ h => h)) ?_
        refine j_l (i := 5) rfl (y_ld1 9 rfl rfl agg_66 rfl) (by kernel_rfl) (by kernel_rfl) (by kernel_rfl) (by kernel_rfl) rfl rfl rfl rfl rfl (.inr (fun _ h => h)) ?_
        refine j_l (i := 6) rfl (y_ld1 5 rfl rfl agg_3 rfl) (by kernel_rfl) (by kernel_rfl) (by kernel_rfl) (by kernel_rfl) rfl rfl rfl rfl rfl (.inr (fun _ h => h)) ?_
        refine j_p (i := 7) rfl (y_idxb1 rfl rfl Try.underlying66 size_46 (by omega) (by omega)) (by kernel_rfl) (by kernel_rfl) (by kernel_rfl) rfl rfl rfl rfl rfl (.inr (fun _ h => h)) ?_
        refine j_l (i := 8) rfl (y_ld1 10 rfl rfl agg_46 hrs) (by kernel_rfl) (by kernel_rfl) (by kernel_rfl) (by kernel_rfl) rfl rfl rfl rfl rfl (.inr (fun _ h => h)) ?_
        refine j_l (i := 9) rfl (y_ld1 4 rfl rfl agg_3 rfl) (by kernel_rfl) (by kernel_rfl) (by kernel_rfl) (by kernel_rfl) rfl rfl rfl rfl rfl (.inr (fun _ h => h)) ?_
        refine j_p (i := 10) rfl (y_idxb1 rfl rfl Try.underlying46 size_3 (by omega) (by omega)) (by kernel_rfl) (by kernel_rfl) (by kernel_rfl) rfl rfl rfl rfl rfl (.inr (fun _ h => h)) ?_
        refine j_l (i := 11) rfl (y_ldM (List.mem_append_right [_, _, _, _, _, _, _, _, _, _, _] (rowsM_mem (D a b pi po ps) (b.size + 1) Bs i B hB0)) rfl agg_3 hc) (by kernel_rfl) (by kernel_rfl) (by kernel_rfl) (by kernel_rfl) rfl rfl rfl rfl rfl (.inr (fun _ h => h)) ?_
        refine j_tr (i := 1) rfl (t_call rfl rfl ent_65 (fun w h => cost_full (gridAt_full hl (h.at_ _ (List.mem_of_getElem? (i := 9) rfl)) (h.at_ _ (List.mem_of_getElem? (i := 10) rfl)) (fun p hp => h.at_ p (List.mem_append_right [_, _, _, _, _, _, _, _, _, _, _] hp))) hp (by omega) (by omega) (by omega) (by omega) hxm)) (by kernel_rfl) rfl rfl rfl rfl (.inr (fun x w hb h => h)) (fun _ _ => ?_)
        refine j_p (i := 12) rfl (y_eql rfl rfl) (by kernel_rfl) (by kernel_rfl) (by kernel_rfl) rfl rfl rfl rfl rfl (.inr (fun _ h => h)) ?_
        refine j_nil (by kernel_rfl) ?_
        refine g_then ?_
        refine g_cond rfl (fun hq4 => ?_) (fun hq4 => ?_)
        · (try simp at hq4)
          refine g_drawC 15 (fun W => W.heap[b10]? = some (Obj.cells [Value.map (some mb)].toArray 93 (0, 0)) ∧ W.heap[b11]? = some (Obj.cells [Value.int .i64 (i : Int)].toArray 3 (0, 0)) ∧ W.heap[b12]? = some (Obj.cells [Value.int .i64 (j : Int)].toArray 3 (0, 0)) ∧ W.heap[eb]? = some (Obj.cells [Value.pointer (some ⟨g, 0, none⟩), .int .i64 x.1, .int .i64 x.2.1, .int .i64 x.2.2.1, .int .i64 x.2.2.2].toArray 97 (0, 0))) (by kernel_rfl) ?_
          refine j_l (i := 0) rfl (y_ldC (fun w h => h.1) rfl agg_93 rfl) (by kernel_rfl) (by kernel_rfl) (by kernel_rfl) (by kernel_rfl) rfl rfl rfl rfl rfl (.inr (fun _ h => ⟨h.at_ _ (List.mem_of_getElem? (i := 6) rfl), h.at_ _ (List.mem_of_getElem? (i := 5) rfl), h.at_ _ (List.mem_of_getElem? (i := 4) rfl), h.at_ _ (List.mem_of_getElem? (i := 0) rfl)⟩)) ?_
          refine j_l (i := 1) rfl (y_ldC (fun w h => h.2.1) rfl agg_3 rfl) (by kernel_rfl) (by kernel_rfl) (by kernel_rfl) (by kernel_rfl) rfl rfl rfl rfl rfl (.inr (fun _ h => ⟨h.at_ _ (List.mem_of_getElem? (i := 6) rfl), h.at_ _ (List.mem_of_getElem? (i := 5) rfl), h.at_ _ (List.mem_of_getElem? (i := 4) rfl), h.at_ _ (List.mem_of_getElem? (i := 0) rfl)⟩)) ?_
          refine j_l (i := 2) rfl (y_ldC (fun w h => h.2.2.1) rfl agg_3 rfl) (by kernel_rfl) (by kernel_rfl) (by kernel_rfl) (by kernel_rfl) rfl rfl rfl rfl rfl (.inr (fun _ h => ⟨h.at_ _ (List.mem_of_getElem? (i := 6) rfl), h.at_ _ (List.mem_of_getElem? (i := 5) rfl), h.at_ _ (List.mem_of_getElem? (i := 4) rfl), h.at_ _ (List.mem_of_getElem? (i := 0) rfl)⟩)) ?_
          refine j_p (i := 3) rfl (y_build (vs := [(0, _), (1, _)]) rfl rfl (fun w => bld_79_0_1 _ _ w)) (by kernel_rfl) (by kernel_rfl) (by kernel_rfl) rfl rfl rfl rfl rfl (.inr (fun _ h => ⟨h.at_ _ (List.mem_of_getElem? (i := 6) rfl), h.at_ _ (List.mem_of_getElem? (i := 5) rfl), h.at_ _ (List.mem_of_getElem? (i := 4) rfl), h.at_ _ (List.mem_of_getElem? (i := 0) rfl)⟩)) ?_
          refine j_l (i := 5) rfl (y_ldC (fun w h => h.1) rfl agg_93 rfl) (by kernel_rfl) (by kernel_rfl) (by kernel_rfl) (by kernel_rfl) rfl rfl rfl rfl rfl (.inr (fun _ h => ⟨h.at_ _ (List.mem_of_getElem? (i := 6) rfl), h.at_ _ (List.mem_of_getElem? (i := 5) rfl), h.at_ _ (List.mem_of_getElem? (i := 4) rfl), h.at_ _ (List.mem_of_getElem? (i := 0) rfl)⟩)) ?_
          refine j_p (i := 6) rfl (y_fld rfl (fun w => fld_97_1 _ _ w)) (by kernel_rfl) (by kernel_rfl) (by kernel_rfl) rfl rfl rfl rfl rfl (.inr (fun _ h => ⟨h.at_ _ (List.mem_of_getElem? (i := 6) rfl), h.at_ _ (List.mem_of_getElem? (i := 5) rfl), h.at_ _ (List.mem_of_getElem? (i := 4) rfl), h.at_ _ (List.mem_of_getElem? (i := 0) rfl)⟩)) ?_
          refine j_l (i := 7) rfl (y_ldC (fun w h => h.2.2.2) rfl agg_3 rfl) (by kernel_rfl) (by kernel_rfl) (by kernel_rfl) (by kernel_rfl) rfl rfl rfl rfl rfl (.inr (fun _ h => ⟨h.at_ _ (List.mem_of_getElem? (i := 6) rfl), h.at_ _ (List.mem_of_getElem? (i := 5) rfl), h.at_ _ (List.mem_of_getElem? (i := 4) rfl), h.at_ _ (List.mem_of_getElem? (i := 0) rfl)⟩)) ?_
          refine j_p (i := 8) rfl (y_fld rfl (fun w => fld_97_2 _ _ w)) (by kernel_rfl) (by kernel_rfl) (by kernel_rfl) rfl rfl rfl rfl rfl (.inr (fun _ h => ⟨h.at_ _ (List.mem_of_getElem? (i := 6) rfl), h.at_ _ (List.mem_of_getElem? (i := 5) rfl), h.at_ _ (List.mem_of_getElem? (i := 4) rfl), h.at_ _ (List.mem_of_getElem? (i := 0) rfl)⟩)) ?_
          refine j_l (i := 9) rfl (y_ldC (fun w h => h.2.2.2) rfl agg_3 rfl) (by kernel_rfl) (by kernel_rfl) (by kernel_rfl) (by kernel_rfl) rfl rfl rfl rfl rfl (.inr (fun _ h => ⟨h.at_ _ (List.mem_of_getElem? (i := 6) rfl), h.at_ _ (List.mem_of_getElem? (i := 5) rfl), h.at_ _ (List.mem_of_getElem? (i := 4) rfl), h.at_ _ (List.mem_of_getElem? (i := 0) rfl)⟩)) ?_
          refine j_p (i := 10) rfl (y_build (vs := [(0, _), (1, _)]) rfl rfl (fun w => bld_79_0_1 _ _ w)) (by kernel_rfl) (by kernel_rfl) (by kernel_rfl) rfl rfl rfl rfl rfl (.inr (fun _ h => ⟨h.at_ _ (List.mem_of_getElem? (i := 6) rfl), h.at_ _ (List.mem_of_getElem? (i := 5) rfl), h.at_ _ (List.mem_of_getElem? (i := 4) rfl), h.at_ _ (List.mem_of_getElem? (i := 0) rfl)⟩)) ?_
          refine j_two 4 11 (by kernel_rfl) ?_ ?_
          · skip
            refine i_tr (i := 4) rfl (t_look 7 pm hMI rfl rfl rfl (wf_small (by omega) (by omega)) (wf_small (by omega) (by omega)) rfl) rfl rfl rfl rfl (.inr (fun x w hb h => ⟨h.at_ _ (List.mem_of_getElem? (i := 6) rfl), h.at_ _ (List.mem_of_getElem? (i := 5) rfl), h.at_ _ (List.mem_of_getElem? (i := 4) rfl), h.at_ _ (List.mem_of_getElem? (i := 0) rfl)⟩)) (fun _ _ => ?_)
            refine j_tr (i := 11) rfl (t_look 7 pm hMI rfl rfl rfl (wf_small (by omega) (by omega)) (wf_small (by omega) (by omega)) rfl) (by kernel_rfl) rfl rfl rfl rfl (.inr (fun x w hb h => ⟨h.at_ _ (List.mem_of_getElem? (i := 6) rfl), h.at_ _ (List.mem_of_getElem? (i := 5) rfl), h.at_ _ (List.mem_of_getElem? (i := 4) rfl), h.at_ _ (List.mem_of_getElem? (i := 0) rfl)⟩)) (fun _ _ => ?_)
            refine j_p (i := 12) rfl (y_add rfl rfl (by omega) (by omega)) (by kernel_rfl) (by kernel_rfl) (by kernel_rfl) rfl rfl rfl rfl rfl (.inr (fun _ h => ⟨h.at_ _ (List.mem_of_getElem? (i := 6) rfl), h.at_ _ (List.mem_of_getElem? (i := 5) rfl), h.at_ _ (List.mem_of_getElem? (i := 4) rfl), h.at_ _ (List.mem_of_getElem? (i := 0) rfl)⟩)) ?_
            refine j_tr (i := 13) rfl (t_entry 7 pm hMI hnd rfl rfl rfl (wf_small (by omega) (by omega)) (wf_small (by omega) (by omega))) (by kernel_rfl) rfl rfl rfl rfl (.inr (fun x w hb h => ⟨h.at_ _ (List.mem_of_getElem? (i := 6) rfl), h.at_ _ (List.mem_of_getElem? (i := 5) rfl), h.at_ _ (List.mem_of_getElem? (i := 4) rfl), h.at_ _ (List.mem_of_getElem? (i := 0) rfl)⟩)) (fun y hy => ?_)
            obtain ⟨st, es1, clock1⟩ := y
            obtain ⟨hM1, hn1, hSt⟩ := hy
            refine j_p (i := 14) rfl (y_extract rfl rfl) (by kernel_rfl) (by kernel_rfl) (by kernel_rfl) rfl rfl rfl rfl rfl (.inr (fun _ h => ⟨h.at_ _ (List.mem_of_getElem? (i := 6) rfl), h.at_ _ (List.mem_of_getElem? (i := 5) rfl), h.at_ _ (List.mem_of_getElem? (i := 4) rfl), h.at_ _ (List.mem_of_getElem? (i := 0) rfl)⟩)) ?_
            refine j_tr0 (i := 15) rfl (t_entrySet 7 hM1 hn1 hSt (wf_small (by omega) (by omega)) (wf_small (by omega) (by omega)) rfl rfl rfl rfl) (by kernel_rfl) rfl rfl rfl (.inl rfl) (fun es2 hy2 => ?_)
            obtain ⟨hM2, hn2⟩ := hy2
            refine j_nil (by kernel_rfl) ?_
            refine g_inb ?_
            refine fun act W _ hW => ⟨fun k o h ho => hW.marks k o h ho, _, ⟨es2, clock1, _, ⟨hM2, hn2, fun i' j' h1 h2 => ?_⟩, rfl⟩, (hq.round hW2 hW (fun x hx => List.mem_cons_of_mem _ hx) (fun x hx => hx)).tail (Nat.le_trans hq.size heb.2)⟩
            rw [Wst_take hx (by assumption)]
            unfold putF
            by_cases hc9 : i' = i ∧ j' = j
            · rw [if_pos (by omega), if_pos hc9, ← hFij, ← hFx]; rfl
            · rw [if_neg (by omega), if_neg (by omega), if_neg hc9]; exact hF i' j' h1 h2
          · skip
            refine i_tr (i := 11) rfl (t_look 7 pm hMI rfl rfl rfl (wf_small (by omega) (by omega)) (wf_small (by omega) (by omega)) rfl) rfl rfl rfl rfl (.inr (fun x w hb h => ⟨h.at_ _ (List.mem_of_getElem? (i := 6) rfl), h.at_ _ (List.mem_of_getElem? (i := 5) rfl), h.at_ _ (List.mem_of_getElem? (i := 4) rfl), h.at_ _ (List.mem_of_getElem? (i := 0) rfl)⟩)) (fun _ _ => ?_)
            refine j_two 4 13 (by kernel_rfl) ?_ ?_
            · skip
              refine i_tr (i := 4) rfl (t_look 7 pm hMI rfl rfl rfl (wf_small (by omega) (by omega)) (wf_small (by omega) (by omega)) rfl) rfl rfl rfl rfl (.inr (fun x w hb h => ⟨h.at_ _ (List.mem_of_getElem? (i := 6) rfl), h.at_ _ (List.mem_of_getElem? (i := 5) rfl), h.at_ _ (List.mem_of_getElem? (i := 4) rfl), h.at_ _ (List.mem_of_getElem? (i := 0) rfl)⟩)) (fun _ _ => ?_)
              refine j_p (i := 12) rfl (y_add rfl rfl (by omega) (by omega)) (by kernel_rfl) (by kernel_rfl) (by kernel_rfl) rfl rfl rfl rfl rfl (.inr (fun _ h => ⟨h.at_ _ (List.mem_of_getElem? (i := 6) rfl), h.at_ _ (List.mem_of_getElem? (i := 5) rfl), h.at_ _ (List.mem_of_getElem? (i := 4) rfl), h.at_ _ (List.mem_of_getElem? (i := 0) rfl)⟩)) ?_
              refine j_tr (i := 13) rfl (t_entry 7 pm hMI hnd rfl rfl rfl (wf_small (by omega) (by omega)) (wf_small (by omega) (by omega))) (by kernel_rfl) rfl rfl rfl rfl (.inr (fun x w hb h => ⟨h.at_ _ (List.mem_of_getElem? (i := 6) rfl), h.at_ _ (List.mem_of_getElem? (i := 5) rfl), h.at_ _ (List.mem_of_getElem? (i := 4) rfl), h.at_ _ (List.mem_of_getElem? (i := 0) rfl)⟩)) (fun y hy => ?_)
              obtain ⟨st, es1, clock1⟩ := y
              obtain ⟨hM1, hn1, hSt⟩ := hy
              refine j_p (i := 14) rfl (y_extract rfl rfl) (by kernel_rfl) (by kernel_rfl) (by kernel_rfl) rfl rfl rfl rfl rfl (.inr (fun _ h => ⟨h.at_ _ (List.mem_of_getElem? (i := 6) rfl), h.at_ _ (List.mem_of_getElem? (i := 5) rfl), h.at_ _ (List.mem_of_getElem? (i := 4) rfl), h.at_ _ (List.mem_of_getElem? (i := 0) rfl)⟩)) ?_
              refine j_tr0 (i := 15) rfl (t_entrySet 7 hM1 hn1 hSt (wf_small (by omega) (by omega)) (wf_small (by omega) (by omega)) rfl rfl rfl rfl) (by kernel_rfl) rfl rfl rfl (.inl rfl) (fun es2 hy2 => ?_)
              obtain ⟨hM2, hn2⟩ := hy2
              refine j_nil (by kernel_rfl) ?_
              refine g_inb ?_
              refine fun act W _ hW => ⟨fun k o h ho => hW.marks k o h ho, _, ⟨es2, clock1, _, ⟨hM2, hn2, fun i' j' h1 h2 => ?_⟩, rfl⟩, (hq.round hW2 hW (fun x hx => List.mem_cons_of_mem _ hx) (fun x hx => hx)).tail (Nat.le_trans hq.size heb.2)⟩
              rw [Wst_take hx (by assumption)]
              unfold putF
              by_cases hc9 : i' = i ∧ j' = j
              · rw [if_pos (by omega), if_pos hc9, ← hFij, ← hFx]; rfl
              · rw [if_neg (by omega), if_neg (by omega), if_neg hc9]; exact hF i' j' h1 h2
            · skip
              refine i_tr (i := 13) rfl (t_entry 7 pm hMI hnd rfl rfl rfl (wf_small (by omega) (by omega)) (wf_small (by omega) (by omega))) rfl rfl rfl rfl (.inr (fun x w hb h => ⟨h.at_ _ (List.mem_of_getElem? (i := 6) rfl), h.at_ _ (List.mem_of_getElem? (i := 5) rfl), h.at_ _ (List.mem_of_getElem? (i := 4) rfl), h.at_ _ (List.mem_of_getElem? (i := 0) rfl)⟩)) (fun y hy => ?_)
              obtain ⟨st, es1, clock1⟩ := y
              obtain ⟨hM1, hn1, hSt⟩ := hy
              refine j_p (i := 14) rfl (y_extract rfl rfl) (by kernel_rfl) (by kernel_rfl) (by kernel_rfl) rfl rfl rfl rfl rfl (.inr (fun _ h => ⟨h.at_ _ (List.mem_of_getElem? (i := 6) rfl), h.at_ _ (List.mem_of_getElem? (i := 5) rfl), h.at_ _ (List.mem_of_getElem? (i := 4) rfl), h.at_ _ (List.mem_of_getElem? (i := 0) rfl)⟩)) ?_
              refine j_tr (i := 4) rfl (t_look 7 pm hM1 rfl rfl rfl (wf_small (by omega) (by omega)) (wf_small (by omega) (by omega)) (putF_same _ _ _ _ _)) (by kernel_rfl) rfl rfl rfl rfl (.inr (fun x w hb h => ⟨h.at_ _ (List.mem_of_getElem? (i := 6) rfl), h.at_ _ (List.mem_of_getElem? (i := 5) rfl), h.at_ _ (List.mem_of_getElem? (i := 4) rfl), h.at_ _ (List.mem_of_getElem? (i := 0) rfl)⟩)) (fun _ _ => ?_)
              refine j_p (i := 12) rfl (y_add rfl rfl (by omega) (by omega)) (by kernel_rfl) (by kernel_rfl) (by kernel_rfl) rfl rfl rfl rfl rfl (.inr (fun _ h => ⟨h.at_ _ (List.mem_of_getElem? (i := 6) rfl), h.at_ _ (List.mem_of_getElem? (i := 5) rfl), h.at_ _ (List.mem_of_getElem? (i := 4) rfl), h.at_ _ (List.mem_of_getElem? (i := 0) rfl)⟩)) ?_
              refine j_tr0 (i := 15) rfl (t_entrySet 7 hM1 hn1 hSt (wf_small (by omega) (by omega)) (wf_small (by omega) (by omega)) rfl rfl rfl rfl) (by kernel_rfl) rfl rfl rfl (.inl rfl) (fun es2 hy2 => ?_)
              obtain ⟨hM2, hn2⟩ := hy2
              refine j_nil (by kernel_rfl) ?_
              refine g_inb ?_
              refine fun act W _ hW => ⟨fun k o h ho => hW.marks k o h ho, _, ⟨es2, clock1, _, ⟨hM2, hn2, fun i' j' h1 h2 => ?_⟩, rfl⟩, (hq.round hW2 hW (fun x hx => List.mem_cons_of_mem _ hx) (fun x hx => hx)).tail (Nat.le_trans hq.size heb.2)⟩
              rw [Wst_take hx (by assumption)]
              unfold putF
              by_cases hc9 : i' = i ∧ j' = j
              · rw [if_pos (by omega), if_pos hc9, ← hFij, ← hFx]; rfl
              · rw [if_neg (by omega), if_neg (by omega), if_neg hc9]; exact hF i' j' h1 h2
        · (try simp at hq4)
          refine g_skip ?_
          refine g_inb ?_
          exact fun act W _ hW => ⟨fun k o h ho => hW.marks k o h ho, _, ⟨es, clock, F, ⟨hMI, hnd, fun i' j' h1 h2 => (hF i' j' h1 h2).trans (Wst_skip hx (by assumption) i' j').symm⟩, rfl⟩, (hq.round hW2 hW (fun x hx => List.mem_cons_of_mem _ hx) (fun x hx => hx)).tail (Nat.le_trans hq.size heb.2)⟩
      clear hMI hnd hF
      rintro we W Dm _ hwe ⟨es, clock, F, ⟨hMI, hnd, hF⟩, rfl⟩ hq hD hW hbk
      have hM2 := hM.next hwe hbk hD hW
      refine g_inb ?_
      refine g_inb ?_
      refine g_then ?_
      refine g_region ?_
      refine s_y (y_add rfl rfl (by omega) (by omega)) rfl rfl rfl rfl ?_
      refine s_y (y_move rfl) rfl rfl rfl rfl ?_
      refine s_nil ?_
      refine g_then ?_
      exact fun act W ha hw => ⟨j + 1, by omega, by omega, _, W, es, clock, F, hM2.look hw.marks, ⟨hMI, hnd, fun i' j' h1 h2 => (hF i' j' h1 h2).trans (Wst_done a b pi po ps i j i' j')⟩, ha.weak (sub_get ⟨rfl, rfl, rfl, rfl, rfl, rfl, rfl, rfl, rfl, trivial⟩), hw.toHq.lookSub (List.Sublist.cons _ (List.Sublist.cons _ (List.Sublist.cons _ (List.Sublist.cons _ (List.Sublist.refl _)))))⟩
    · (try simp at hq3)
      refine g_exit ?_
      refine g_thenx ?_
      refine g_thenx ?_
      refine g_inbx ?_
      refine g_inb ?_
      refine g_then ?_
      refine g_region ?_
      refine s_y (y_add rfl rfl (by omega) (by omega)) rfl rfl rfl rfl ?_
      refine s_y (y_move rfl) rfl rfl rfl rfl ?_
      refine s_nil ?_
      refine g_then ?_
      have hj' : j = b.size + 1 := by omega
      exact fun act W ha hw => ⟨i + 1, by omega, by omega, ds, W, es, clock, F, hM.look hw.marks, ⟨hMI, hnd, fun i' j' h1 h2 => (hF i' j' h1 h2).trans (by rw [hj']; exact Wst_row a b pi po ps i (b.size + 1) i' j' (by omega))⟩, ha.weak (sub_get ⟨rfl, rfl, rfl, rfl, rfl, rfl, trivial⟩), hw.toHq.lookSub (List.Sublist.cons _ (List.Sublist.refl _))⟩
  · (try simp at hq2)
    refine g_exit ?_
    refine g_thenx ?_
    refine g_thenx ?_
    refine g_inbx ?_
    refine g_then ?_
    refine g_seq ?_
    refine g_region ?_
    refine s_y (y_ld1 0 rfl rfl agg_93 rfl) rfl rfl rfl rfl ?_
    refine s_y (y_move rfl) rfl rfl rfl rfl ?_
    refine s_y (y_lens rfl Try.underlying9) rfl rfl rfl rfl ?_
    refine s_y (y_move rfl) rfl rfl rfl rfl ?_
    refine s_y (y_lens rfl Try.underlying9) rfl rfl rfl rfl ?_
    refine s_y (y_build (vs := [(0, _), (1, _)]) rfl rfl (fun w => bld_79_0_1 _ _ w)) rfl rfl rfl rfl ?_
    refine s_y (y_look pm hMI (fun w h => h.at_ _ (List.mem_of_getElem? (i := 1) rfl)) rfl rfl (wf_small (by omega) (by omega)) (wf_small (by omega) (by omega))) rfl rfl rfl rfl ?_
    refine s_y (y_assign rfl) rfl rfl rfl rfl ?_
    refine s_y (y_assign rfl) rfl rfl rfl rfl ?_
    refine s_nil ?_
    refine g_then ?_
    refine g_ret ?_
    refine g_end hM (fun a w ha _ => res2 ha rfl rfl rfl w) (fun w h => ⟨?_, h.below⟩)
    have hin : i = a.size + 1 := by omega
    have hfin : (F ((a.size : Nat) : Int) ((b.size : Nat) : Int)).getD 0 = U a b pi po ps a.size b.size := (hF a.size b.size (Nat.le_refl _) (Nat.le_refl _)).trans (by rw [hin]; unfold Wst; rw [if_neg (by omega), if_pos (by omega)])
    rw [hfin]

/-- What Ways hands back. -/
def waysR (a b : ByteArray) (pi po ps : Int) : Int × Int := if a.size ≤ 12 ∧ b.size ≤ 12 ∧ okP pi po ps then (U a b pi po ps a.size b.size, 0) else (0, 2)
theorem Ways_any (w : World) (a b : ByteArray) (pi po ps : Int) : Calls Try.prog 25 [.string a, .string b, .agg #[.int .i64 pi, .int .i64 po, .int .i64 ps]].toArray w fun e w' => e = .returned (.tuple #[.int .i64 (waysR a b pi po ps).1, .int .i64 (waysR a b pi po ps).2]) ∧ Below w.heap.size w w' := by
  unfold waysR
  split
  · rename_i h; exact Ways_ok w a b pi po ps h.1 h.2.1 h.2.2
  · rename_i h; exact Ways_bad w a b pi po ps h
end Go.Proofs.Ytnnpdgegejklpaa
