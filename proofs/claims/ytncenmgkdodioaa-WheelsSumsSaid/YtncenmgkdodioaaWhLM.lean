/- The law WheelsSums, walked. -/
import Derived.Test.YtncenmgkdodioaaWhU2
import Derived.Test.YtncenmgkdodioaaWhG
import Derived.Test.YtncenmgkdodioaaWhLS
namespace Go.Proofs.Ytncenmgkdodioaa
open Go.RowKit Go.Sx Go.Wh Go.Dft
set_option linter.unusedVariables false
set_option linter.unusedSimpArgs false
set_option maxRecDepth 100000
set_option maxHeartbeats 4000000

private theorem ent_27 : Enters Try.prog 27 := enters_of Try.func27 (by kernel_rfl) rfl
private theorem ent_44 : Enters Try.prog 44 := enters_of Try.func44 (by kernel_rfl) rfl
private theorem ent_24 : Enters Try.prog 24 := enters_of Try.func24 (by kernel_rfl) rfl
private theorem ent_45 : Enters Try.prog 45 := enters_of Try.func45 (by kernel_rfl) rfl
private theorem ent_56 : Enters Try.prog 56 := enters_of Try.func56 (by kernel_rfl) rfl
private theorem ent_20 : Enters Try.prog 20 := enters_of Try.func20 (by kernel_rfl) rfl
private theorem inf_3 : ∃ ie, Try.prog.info? 3 = some ie ∧ ie.zero = some (.int .i64 0) ∧ ie.size = 1 ∧ ie.bytes = 8 := info_of (by kernel_rfl) (by kernel_rfl)
private theorem sle_32 : Try.prog.underlying 32 = some (.slice (Try.prog.elem 32)) := by kernel_rfl
private theorem size_3 : (Try.prog.info? 3).map (·.size) = some 1 := by kernel_rfl
private theorem agg_3 : isAggB Try.prog 3 = some false := by kernel_rfl
private theorem ent_39 : Enters Try.prog 39 := enters_of Try.func39 (by kernel_rfl) rfl
private theorem ent_30 : Enters Try.prog 30 := enters_of Try.func30 (by kernel_rfl) rfl
private theorem ent_52 : Enters Try.prog 52 := enters_of Try.func52 (by kernel_rfl) rfl

theorem s_noU {N : Nat} {ds : List Deferred} {l : List (Nat × Value)} {w0 w1 : World} {m : List (Nat × Obj)} {P : Program} {ro : Option Nat} {ops : Array Oper} {Q : Exit → Act → World → Prop} {rest : List Oper} {d j t : Nat} {want : Bool} {o : Oper} (hgd : o.guard = some (j, want)) (hj : (ops[j]?).bind (·.dst) = some t) (hv : Sx.get t l = some undef) (hd : o.dst = some d) (hdN : Nat.blt d N = true)
    (k : G N ds ((d, undef) :: l) w0 w1 m (wpListIn (Wd ro) 0 P ops Q rest)) : G N ds l w0 w1 m (wpListIn (Wd ro) 0 P ops Q (o :: rest)) := fun a w ha hw => by
  have hdN' : d < N := by simpa [Nat.blt_eq] using hdN
  have h0 := ha.at_ t _ hv
  have : Region.wanted o (yielded ops a.tmps) = false := by
    unfold Region.wanted
    simp only [hgd, yielded, hj, Option.bind_some, h0]
    cases want <;> rfl
  simp only [wpListIn, this]
  refine ⟨fun _ _ => trivial, ?_⟩
  rw [hd]
  exact k _ _ (ha.put hdN' _) hw
theorem g_perm {N : Nat} {l : List (Nat × Value)} {w0 w1 : World} {m m' : List (Nat × Obj)} {X : Act → World → Prop} (hp : m'.Perm m) (h : ∀ w1, G N [] l w0 w1 m' X) : G N [] l w0 w1 m X := fun a w ha hw => h w a w ha (hw.toHq.pick hp (List.Sublist.refl _))
theorem total_append (ls : List Int) (x : Nat) : ∀ r s : List Int, total ls x (r ++ s) = total ls x r + total ls x s
  | [], s => by simp [total]
  | j :: r, s => by simp only [List.cons_append, total]; rw [total_append ls x r s]; omega
theorem total_take {ls r : List Int} {x i : Nat} (h : i < r.length) (h0 : 0 ≤ rdI ls (rdI r (i : Int))) : total ls x (r.take (i + 1)) = total ls x (r.take i) + bitI (rdI ls (rdI r (i : Int))) x := by
  rw [List.take_add_one, total_append, List.getElem?_eq_getElem h, rdI_getElem h]
  rw [rdI_getElem h] at h0
  show _ + (bitI ((rdI ls r[i]).toNat : Int) x + 0) = _
  rw [show ((rdI ls r[i]).toNat : Int) = rdI ls r[i] by omega, Int.add_zero]
theorem ixI_nn {ls : List Int} {x : Int} (h : ¬ ixI ls x < 0) : ∃ j : Nat, ixI ls x = j ∧ j < ls.length ∧ rdI ls (j : Int) = x := by
  unfold ixI at h ⊢
  cases hf : ls.findIdx? (fun y => decide (x = y)) with
  | none => rw [hf] at h; exact absurd (by decide) h
  | some j =>
    obtain ⟨hj, hp, _⟩ := List.findIdx?_eq_some_iff_getElem.1 hf
    exact ⟨j, rfl, hj, by rw [rdI_getElem hj]; exact (of_decide_eq_true hp).symm⟩
theorem rise_rd {xs : List Int} (h : xs.Pairwise (· < ·)) (j : Nat) (hj : j + 1 < xs.length) : rdI xs (j : Int) < rdI xs ((j + 1 : Nat) : Int) := by
  have := List.pairwise_iff_getElem.1 h j (j + 1) (by omega) hj (by omega)
  rw [rdI_getElem (by omega), rdI_getElem hj]; exact this

theorem WheelsSums_none (w : World) (n : Nat) (hn : 2 ≤ n) (hn2 : n ≤ 16) (tg : Nat) (lv : Value) (ls : List Int) (hl : RdV (Value.int .i64) w lv ls) (hcs : ∀ s ∈ [(tg : Int)] ++ ls, 0 ≤ s ∧ s < 2 ^ n) (hll : ls.length ≤ 10) (h0 : tg ≠ 0) (hs : sch ls ls.length 0 tg = none) :
    Calls Try.prog 16 [.int .i64 (n : Int), .int .i64 (tg : Int), lv].toArray w fun e w' => e = .returned (.bool true) ∧ Below w.heap.size w w' := by
  have hp16 := pow_le hn2
  have hls : ∀ s ∈ ls, 0 ≤ s ∧ s < 65536 := fun s hs => by have h1 := hcs s (by simp [hs]); omega
  have hct := hcs (tg : Int) (by simp)
  have hoc : ∀ s ∈ ls, okC n s := fun s hs => ⟨⟨by omega, by omega⟩, hcs s (by simp [hs])⟩
  have hnin : (tg : Int) ∉ ls := fun hm => by
    obtain ⟨j, hj, he⟩ := List.mem_iff_getElem.1 hm
    obtain ⟨a, r, h1, _⟩ := sch_first ls ls.length 0 tg j h0 (by omega) (by omega) (by rw [rdI_getElem hj, he]; omega)
    rw [hs] at h1; cases h1
  refine enter (N := 168) Try.func16 rfl rfl rfl ?_
  refine g_seq ?_
  refine g_region ?_
  refine s_y (y_assign rfl) rfl rfl rfl rfl ?_
  refine s_nil ?_
  refine g_then ?_
  refine g_seq ?_
  refine g_region ?_
  refine s_y (y_move rfl) rfl rfl rfl rfl ?_
  refine s_y (y_move rfl) rfl rfl rfl rfl ?_
  refine s_y (y_move rfl) rfl rfl rfl rfl ?_
  refine s_tr (t_callm rfl rfl ent_27 (fun w h => list_le w _ ls (hl.below h.below) (by omega))) rfl rfl rfl rfl (fun x2 hx3 => ?_)
  obtain ⟨vo1, mo1⟩ := x2
  obtain ⟨hOo1, hEo1⟩ := hx3
  refine s_tr (t_call rfl rfl ent_44 (fun w h => Solve_none w n hn hn2 tg _ ls (hOo1.rd fun p hp => h.at_ p (mem_al mo1 hp)) hcs hll hs)) rfl rfl rfl rfl (fun _ _ => ?_)
  refine s_y (y_move rfl) rfl rfl rfl rfl ?_
  refine s_y (y_extract rfl rfl) rfl rfl rfl rfl ?_
  refine s_y (y_extract rfl rfl) rfl rfl rfl rfl ?_
  refine s_y (y_assign rfl) rfl rfl rfl rfl ?_
  refine s_y (y_assign rfl) rfl rfl rfl rfl ?_
  refine s_nil ?_
  refine g_then ?_
  refine g_seq ?_
  refine g_seq ?_
  refine g_region ?_
  refine s_y (y_move rfl) rfl rfl rfl rfl ?_
  refine s_y (y_move rfl) rfl rfl rfl rfl ?_
  refine s_tr (t_call rfl rfl ent_24 (fun w h => Valid_tI w n tg ⟨⟨by omega, by omega⟩, hct⟩)) rfl rfl rfl rfl (fun _ _ => ?_)
  refine s_y (y_not_t rfl) rfl rfl rfl rfl ?_
  refine s_y (y_move rfl) rfl rfl rfl rfl ?_
  refine s_y (y_move rfl) rfl rfl rfl rfl ?_
  refine s_y (y_move rfl) rfl rfl rfl rfl ?_
  refine s_tr (t_call rfl rfl ent_45 (fun w h => RList_t w n _ ls (hl.below h.below) hoc hll)) rfl rfl rfl rfl (fun _ _ => ?_)
  refine s_y (y_not_t rfl) rfl rfl rfl rfl ?_
  refine s_y (y_pick_f rfl rfl) rfl rfl rfl rfl ?_
  refine s_nil ?_
  refine g_then ?_
  refine g_cond_f rfl ?_
  refine g_skip ?_
  refine g_then ?_
  refine g_seq ?_
  refine g_seq ?_
  refine g_region ?_
  refine s_y (y_move rfl) rfl rfl rfl rfl ?_
  refine s_y (y_neq_t rfl rfl (by decide)) rfl rfl rfl rfl ?_
  refine s_nil ?_
  refine g_then ?_
  refine g_cond_t rfl ?_
  refine g_seq ?_
  refine g_region ?_
  refine s_y (y_move rfl) rfl rfl rfl rfl ?_
  refine s_y (y_eql_t rfl rfl (by decide)) rfl rfl rfl rfl ?_
  refine s_y (y_move rfl) rfl rfl rfl rfl ?_
  refine s_y (y_move rfl) rfl rfl rfl rfl ?_
  refine s_y (y_neq_t rfl rfl (by omega)) rfl rfl rfl rfl ?_
  refine s_y (y_pick_t rfl rfl) rfl rfl rfl rfl ?_
  refine s_y (y_move rfl) rfl rfl rfl rfl ?_
  refine s_y (y_move rfl) rfl rfl rfl rfl ?_
  refine s_y (y_move rfl) rfl rfl rfl rfl ?_
  refine s_tr (t_call rfl rfl ent_56 (fun w h => Contains_f w _ ls tg (hl.below h.below) (by omega) hnin)) rfl rfl rfl rfl (fun _ _ => ?_)
  refine s_y (y_not_f rfl) rfl rfl rfl rfl ?_
  refine s_y (y_pick_t rfl rfl) rfl rfl rfl rfl ?_
  refine s_y (y_move rfl) rfl rfl rfl rfl ?_
  refine s_tr (t_call rfl rfl ent_20 (fun w h => awake_t w)) rfl rfl rfl rfl (fun _ _ => ?_)
  refine s_y (y_pick_t rfl rfl) rfl rfl rfl rfl ?_
  refine s_y (y_assign rfl) rfl rfl rfl rfl ?_
  refine s_nil ?_
  refine g_then ?_
  refine g_ret ?_
  refine g_thenr ?_
  exact g_end trivial (fun a w ha hq_ => res1 ha rfl rfl  w) (fun w h => ⟨rfl, h.below⟩)

theorem WheelsSums_some (w : World) (n : Nat) (hn : 2 ≤ n) (hn2 : n ≤ 16) (tg : Nat) (lv : Value) (ls : List Int) (hl : RdV (Value.int .i64) w lv ls) (hcs : ∀ s ∈ [(tg : Int)] ++ ls, 0 ≤ s ∧ s < 2 ^ n) (hll : ls.length ≤ 10) (r : List Int) (h0 : tg ≠ 0) (hs : sch ls ls.length 0 tg = some r) :
    Calls Try.prog 16 [.int .i64 (n : Int), .int .i64 (tg : Int), lv].toArray w fun e w' => e = .returned (.bool true) ∧ Below w.heap.size w w' := by
  have hp16 := pow_le hn2
  have hls : ∀ s ∈ ls, 0 ≤ s ∧ s < 65536 := fun s hs => by have h1 := hcs s (by simp [hs]); omega
  have hct := hcs (tg : Int) (by simp)
  have hoc : ∀ s ∈ ls, okC n s := fun s hs => ⟨⟨by omega, by omega⟩, hcs s (by simp [hs])⟩
  obtain ⟨hok1, hok2, hok3⟩ := sch_ok ls ls.length 0 tg r hs
  have hrlen := sch_len ls ls.length 0 tg r hs
  obtain ⟨ie3, hi3⟩ := inf_3
  refine enter (N := 168) Try.func16 rfl rfl rfl ?_
  refine g_seq ?_
  refine g_region ?_
  refine s_y (y_assign rfl) rfl rfl rfl rfl ?_
  refine s_nil ?_
  refine g_then ?_
  refine g_seq ?_
  refine g_region ?_
  refine s_y (y_move rfl) rfl rfl rfl rfl ?_
  refine s_y (y_move rfl) rfl rfl rfl rfl ?_
  refine s_y (y_move rfl) rfl rfl rfl rfl ?_
  refine s_tr (t_callm rfl rfl ent_27 (fun w h => list_le w _ ls (hl.below h.below) (by omega))) rfl rfl rfl rfl (fun x2 hx3 => ?_)
  obtain ⟨vo1, mo1⟩ := x2
  obtain ⟨hOo1, hEo1⟩ := hx3
  refine s_tr (t_callm rfl rfl ent_44 (fun w h => Solve_some w n hn hn2 tg _ ls (hOo1.rd fun p hp => h.at_ p (mem_al mo1 hp)) hcs hll r h0 hs)) rfl rfl rfl rfl (fun x5 hx6 => ?_)
  obtain ⟨vo4, mo4⟩ := x5
  obtain ⟨hOo4, hEo4⟩ := hx6
  refine s_y (y_move rfl) rfl rfl rfl rfl ?_
  refine s_y (y_extract rfl rfl) rfl rfl rfl rfl ?_
  refine s_y (y_extract rfl rfl) rfl rfl rfl rfl ?_
  refine s_y (y_assign rfl) rfl rfl rfl rfl ?_
  refine s_y (y_assign rfl) rfl rfl rfl rfl ?_
  refine s_nil ?_
  refine g_then ?_
  refine g_seq ?_
  refine g_seq ?_
  refine g_region ?_
  refine s_y (y_move rfl) rfl rfl rfl rfl ?_
  refine s_y (y_move rfl) rfl rfl rfl rfl ?_
  refine s_tr (t_call rfl rfl ent_24 (fun w h => Valid_tI w n tg ⟨⟨by omega, by omega⟩, hct⟩)) rfl rfl rfl rfl (fun _ _ => ?_)
  refine s_y (y_not_t rfl) rfl rfl rfl rfl ?_
  refine s_y (y_move rfl) rfl rfl rfl rfl ?_
  refine s_y (y_move rfl) rfl rfl rfl rfl ?_
  refine s_y (y_move rfl) rfl rfl rfl rfl ?_
  refine s_tr (t_call rfl rfl ent_45 (fun w h => RList_t w n _ ls (hl.below h.below) hoc hll)) rfl rfl rfl rfl (fun _ _ => ?_)
  refine s_y (y_not_t rfl) rfl rfl rfl rfl ?_
  refine s_y (y_pick_f rfl rfl) rfl rfl rfl rfl ?_
  refine s_nil ?_
  refine g_then ?_
  refine g_cond_f rfl ?_
  refine g_skip ?_
  refine g_then ?_
  refine g_seq ?_
  refine g_seq ?_
  refine g_region ?_
  refine s_y (y_move rfl) rfl rfl rfl rfl ?_
  refine s_y (y_neq_f rfl rfl (by decide)) rfl rfl rfl rfl ?_
  refine s_nil ?_
  refine g_then ?_
  refine g_cond_f rfl ?_
  refine g_skip ?_
  refine g_then ?_
  refine g_seq ?_
  refine g_region ?_
  refine s_y (y_move rfl) rfl rfl rfl rfl ?_
  refine s_tr (t_makeL (enc := (Value.int .i64)) (z := (0 : Int)) (n := n) rfl Try.underlying32 hi3.1 hi3.2.1 hi3.2.2.1 rfl (by rw [hi3.2.2.2]; omega) (by omega)) rfl rfl rfl rfl (fun bz hbz => ?_)
  refine s_y (y_assign rfl) rfl rfl rfl rfl ?_
  refine s_nil ?_
  refine g_then ?_
  refine g_seq ?_
  refine g_seq ?_
  refine g_region ?_
  refine s_y (y_move rfl) rfl rfl rfl rfl ?_
  refine s_y (y_lenV (n := r.length) rfl hOo4.1 sle_32) rfl rfl rfl rfl ?_
  refine s_y (y_move rfl) rfl rfl rfl rfl ?_
  refine s_nil ?_
  refine g_then ?_
  refine g_block ?_
  refine g_loop (fun (i : Nat) act W => i ≤ r.length ∧ ∃ (zs : List Int) (w1 : World), (zs.length = n) ∧ (∀ x : Nat, 0 ≤ rdI zs (x : Int) ∧ rdI zs (x : Int) ≤ (i : Int)) ∧ (∀ x : Nat, x < n → rdI zs (x : Int) = total ls x (r.take i)) ∧ Has 168 [] [(0, .int .i64 (n : Int)), (1, .int .i64 (tg : Int)), (2, lv), (7, vo4), (8, .int .i64 0), (9, .slice (some ⟨bz, 0, none⟩) n n), (59, vo4), (60, .int .i64 (r.length : Nat)), (61, .int .i64 (i : Int))] act ∧ Hp w w1 ((bz, .cells (zs.map (Value.int .i64) ++ []).toArray 3 (0, 0)) :: (mo4 ++ ((mo1 ++ ([]))))) W) (fun i => r.length - i) 0 (fun act W ha hw => ⟨by omega, List.replicate n 0, W, (by simp), (by intro x; rw [rdI_replicate]; omega), (by intro x _; exact rdI_replicate), ha.weak (sub_get ⟨rfl, rfl, rfl, rfl, rfl, rfl, rfl, rfl, rfl, trivial⟩), hw.toHq.lookSub (List.Sublist.refl _)⟩) ?_
  intro i act W ⟨hb_i, zs, w1, hzl, hzr, hzs, ha, hw⟩
  refine g_go ha hw ?_
  clear ha hw act W
  refine g_seq ?_
  refine g_region ?_
  refine s_y (y_lss rfl rfl) rfl rfl rfl rfl ?_
  refine s_nil ?_
  refine g_then ?_
  refine g_seq ?_
  refine g_cond rfl (fun cq7 => ?_) (fun cq7 => ?_)
  · (try simp at cq7)
    refine g_skip ?_
    refine g_then ?_
    refine g_seq ?_
    refine g_block ?_
    refine g_seq ?_
    have hri := hok1 _ (rdI_mem (xs := r) (i := (i : Int)) (by omega) (by omega))
    have hci := hcs (rdI ls (rdI r (i : Int))) (List.mem_append_right _ (rdI_mem (by omega) (by omega)))
    refine g_region ?_
    refine s_y (y_move rfl) rfl rfl rfl rfl ?_
    refine s_y (y_idxO (enc := (Value.int .i64)) rfl rfl hOo4 hEo4 Try.underlying32 size_3 (by omega) (by omega)) rfl rfl rfl rfl ?_
    refine s_y (y_ldV (enc := (Value.int .i64)) (xs := r) (fun w h => (hOo4.rd fun p hp => h.at_ p (List.mem_cons_of_mem _ (mem_al mo4 hp))).rdl) rfl agg_3 (rdI_at (by omega) (by omega))) rfl rfl rfl rfl ?_
    refine s_y (y_assign rfl) rfl rfl rfl rfl ?_
    refine s_y (y_assign rfl) rfl rfl rfl rfl ?_
    refine s_nil ?_
    refine g_then ?_
    refine g_seq ?_
    refine g_seq ?_
    refine g_region ?_
    refine s_y (y_move rfl) rfl rfl rfl rfl ?_
    refine s_y (y_lss_f rfl rfl (by omega)) rfl rfl rfl rfl ?_
    refine s_y (y_move rfl) rfl rfl rfl rfl ?_
    refine s_y (y_move rfl) rfl rfl rfl rfl ?_
    refine s_y (y_move rfl) rfl rfl rfl rfl ?_
    refine s_y (y_lenV (n := ls.length) rfl (by obtain ⟨A, c, h1, _⟩ := hl; exact ⟨A, c, h1⟩) sle_32) rfl rfl rfl rfl ?_
    refine s_y (y_geq_f rfl rfl (by omega)) rfl rfl rfl rfl ?_
    refine s_y (y_pick_f rfl rfl) rfl rfl rfl rfl ?_
    refine s_y (y_move rfl) rfl rfl rfl rfl ?_
    refine s_y (y_move rfl) rfl rfl rfl rfl ?_
    refine s_y (y_gtr rfl rfl) rfl rfl rfl rfl ?_
    refine s_y (y_move rfl) rfl rfl rfl rfl ?_
    refine g_bool 77 rfl (fun cq8 => ?_) (fun cq8 => ?_)
    · (try simp at cq8)
      have hlt : rdI r ((i : Int) - 1) < rdI r (i : Int) := by
        obtain ⟨j, hj⟩ : ∃ j, i = j + 1 := ⟨i - 1, by omega⟩
        have h_ := rise_rd hok2 j (by omega)
        rw [hj, show (((j + 1 : Nat) : Int) - 1) = (j : Int) by omega]; exact h_
      refine s_y (y_move rfl) rfl rfl rfl rfl ?_
      refine s_y (y_move rfl) rfl rfl rfl rfl ?_
      refine s_y (y_sub rfl rfl (by omega) (by omega)) rfl rfl rfl rfl ?_
      refine s_y (y_idxO (enc := (Value.int .i64)) rfl rfl hOo4 hEo4 Try.underlying32 size_3 (by omega) (by omega)) rfl rfl rfl rfl ?_
      refine s_y (y_ldV (enc := (Value.int .i64)) (xs := r) (fun w h => (hOo4.rd fun p hp => h.at_ p (List.mem_cons_of_mem _ (mem_al mo4 hp))).rdl) rfl agg_3 (rdI_at (by omega) (by omega))) rfl rfl rfl rfl ?_
      refine s_y (y_move rfl) rfl rfl rfl rfl ?_
      refine s_y (y_geq_f rfl rfl (by omega)) rfl rfl rfl rfl ?_
      refine s_y (y_pick_t rfl rfl) rfl rfl rfl rfl ?_
      refine s_y (y_pick_f rfl rfl) rfl rfl rfl rfl ?_
      refine s_nil ?_
      refine g_then ?_
      refine g_cond_f rfl ?_
      refine g_skip ?_
      refine g_then ?_
      refine g_seq ?_
      refine g_region ?_
      refine s_y (y_move rfl) rfl rfl rfl rfl ?_
      refine s_y (y_move rfl) rfl rfl rfl rfl ?_
      refine s_y (y_move rfl) rfl rfl rfl rfl ?_
      refine s_y (y_idxV (enc := (Value.int .i64)) rfl rfl hl Try.underlying32 size_3 (by omega) (by omega)) rfl rfl rfl rfl ?_
      refine s_y (y_ldV (enc := (Value.int .i64)) (xs := ls) (fun w h => hl.rdl.below h.below) rfl agg_3 (rdI_at (by omega) (by omega))) rfl rfl rfl rfl ?_
      refine s_tr (t_callm rfl rfl ent_39 (fun w h => Chord_ok w n (rdI ls (rdI r (i : Int))) hn hn2 (by omega) (by omega))) rfl rfl rfl rfl (fun x10 hx11 => ?_)
      obtain ⟨vo9, mo9⟩ := x10
      obtain ⟨hOo9, hEo9⟩ := hx11
      refine g_perm (List.perm_middle (l₁ := mo9)).symm (fun w1 => ?_)
      refine s_y (y_move rfl) rfl rfl rfl rfl ?_
      refine s_y (y_extract rfl rfl) rfl rfl rfl rfl ?_
      refine s_y (y_extract rfl rfl) rfl rfl rfl rfl ?_
      refine s_y (y_assign rfl) rfl rfl rfl rfl ?_
      refine s_y (y_assign rfl) rfl rfl rfl rfl ?_
      refine s_nil ?_
      refine g_then ?_
      refine g_seq ?_
      refine g_seq ?_
      refine g_region ?_
      refine s_y (y_move rfl) rfl rfl rfl rfl ?_
      refine s_y (y_neq_f rfl rfl (by decide)) rfl rfl rfl rfl ?_
      refine s_y (y_move rfl) rfl rfl rfl rfl ?_
      refine s_y (y_move rfl) rfl rfl rfl rfl ?_
      refine s_y (y_lenV (n := ((chL n (rdI ls (rdI r (i : Int)))).length)) rfl hOo9.1 sle_32) rfl rfl rfl rfl ?_
      refine s_y (y_move rfl) rfl rfl rfl rfl ?_
      refine s_y (y_neq_f rfl rfl (by rw [chL_len])) rfl rfl rfl rfl ?_
      refine s_y (y_pick_f rfl rfl) rfl rfl rfl rfl ?_
      refine s_nil ?_
      refine g_then ?_
      refine g_cond_f rfl ?_
      refine g_skip ?_
      refine g_then ?_
      refine g_seq ?_
      refine g_region ?_
      refine s_y (y_move rfl) rfl rfl rfl rfl ?_
      refine s_y (y_lenV (n := ((chL n (rdI ls (rdI r (i : Int)))).length)) rfl hOo9.1 sle_32) rfl rfl rfl rfl ?_
      refine s_y (y_move rfl) rfl rfl rfl rfl ?_
      refine s_nil ?_
      refine g_then ?_
      refine g_block ?_
      refine g_loop (fun (j : Nat) act W => j ≤ n ∧ ∃ (zs : List Int) (w1 : World), (zs.length = n) ∧ (∀ x : Nat, 0 ≤ rdI zs (x : Int) ∧ rdI zs (x : Int) ≤ (i : Int) + 1 ∧ (j ≤ x → rdI zs (x : Int) ≤ (i : Int))) ∧ (∀ x : Nat, x < j → rdI zs (x : Int) = total ls x (r.take i) + bitI (rdI ls (rdI r (i : Int))) x) ∧ (∀ x : Nat, j ≤ x → x < n → rdI zs (x : Int) = total ls x (r.take i)) ∧ Has 168 [] [(0, .int .i64 (n : Int)), (1, .int .i64 (tg : Int)), (2, lv), (7, vo4), (8, .int .i64 0), (9, .slice (some ⟨bz, 0, none⟩) n n), (10, .int .i64 (i : Int)), (11, .int .i64 (rdI r (i : Int))), (12, vo9), (13, .int .i64 0), (59, vo4), (60, .int .i64 (r.length : Nat)), (61, .int .i64 (i : Int)), (62, .bool (decide ((i : Int) < (r.length : Nat)))), (63, .int .i64 (i : Int)), (64, .pointer (some (elemA (adrOf vo4) ((i : Int) : Int).toNat))), (65, .int .i64 (rdI r (i : Int))), (66, .int .i64 (rdI r (i : Int))), (67, .bool false), (68, .bool false), (69, .int .i64 (rdI r (i : Int))), (70, lv), (71, .int .i64 (ls.length : Nat)), (72, .bool false), (73, .bool false), (74, .bool false), (75, .int .i64 (i : Int)), (76, .bool (decide ((i : Int) > 0))), (77, .bool true), (78, vo4), (79, .int .i64 (i : Int)), (80, .int .i64 ((i : Int) - 1)), (81, .pointer (some (elemA (adrOf vo4) ((i : Int) - 1 : Int).toNat))), (82, .int .i64 (rdI r ((i : Int) - 1))), (83, .int .i64 (rdI r (i : Int))), (84, .bool false), (85, .bool false), (86, .bool false), (87, .tuple #[vo9, .int .i64 0]), (88, .int .i64 (n : Int)), (89, lv), (90, .int .i64 (rdI r (i : Int))), (91, .pointer (some (elemA (adrOf lv) (rdI r (i : Int) : Int).toNat))), (92, .int .i64 (rdI ls (rdI r (i : Int)))), (93, .tuple #[vo9, .int .i64 0]), (94, vo9), (95, .int .i64 0), (96, .int .i64 0), (97, .bool false), (98, .bool false), (99, vo9), (100, .int .i64 ((chL n (rdI ls (rdI r (i : Int)))).length : Nat)), (101, .int .i64 (n : Int)), (102, .bool false), (103, .bool false), (104, vo9), (105, .int .i64 ((chL n (rdI ls (rdI r (i : Int)))).length : Nat)), (106, .int .i64 (j : Int))] act ∧ Hp w w1 ((bz, .cells (zs.map (Value.int .i64) ++ []).toArray 3 (0, 0)) :: (mo9 ++ ((mo4 ++ ((mo1 ++ ([]))))))) W) (fun j => n - j) 0 (fun act W ha hw => ⟨by omega, zs, W, (by exact hzl), (by intro x; have := hzr x; omega), (by intro x hx; omega), (by intro x _ hx; exact hzs x hx), ha.weak (sub_get ⟨rfl, rfl, rfl, rfl, rfl, rfl, rfl, rfl, rfl, rfl, rfl, rfl, rfl, rfl, rfl, rfl, rfl, rfl, rfl, rfl, rfl, rfl, rfl, rfl, rfl, rfl, rfl, rfl, rfl, rfl, rfl, rfl, rfl, rfl, rfl, rfl, rfl, rfl, rfl, rfl, rfl, rfl, rfl, rfl, rfl, rfl, rfl, rfl, rfl, rfl, rfl, rfl, rfl, rfl, rfl, rfl, rfl, rfl, trivial⟩), hw.toHq.lookSub (List.Sublist.refl _)⟩) ?_
      intro j act W ⟨hb_j, zs, w1, hzl, hzr, hz1, hz2, ha, hw⟩
      refine g_go ha hw ?_
      clear ha hw act W
      refine g_seq ?_
      refine g_region ?_
      refine s_y (y_lss rfl rfl) rfl rfl rfl rfl ?_
      refine s_nil ?_
      refine g_then ?_
      refine g_seq ?_
      refine g_cond rfl (fun cq12 => ?_) (fun cq12 => ?_)
      · (try simp at cq12)
        refine g_skip ?_
        refine g_then ?_
        refine g_seq ?_
        refine g_block ?_
        refine g_seq ?_
        refine g_region ?_
        refine s_y (y_move rfl) rfl rfl rfl rfl ?_
        refine s_y (y_assign rfl) rfl rfl rfl rfl ?_
        refine s_nil ?_
        refine g_then ?_
        have hlc : (chL n (rdI ls (rdI r (i : Int)))).length = n := chL_len
        have hbj : rdI (chL n (rdI ls (rdI r (i : Int)))) (j : Int) = bitI (rdI ls (rdI r (i : Int))) j := fn_ch _ (by omega)
        have hbr := bitI_range (rdI ls (rdI r (i : Int))) j
        rw [← hbj] at hbr
        have hzj := hzr j
        have hall : ∀ x : Nat, x < j + 1 → rdI (zs.set (j : Int).toNat (rdI zs (j : Int) + rdI (chL n (rdI ls (rdI r (i : Int)))) (j : Int))) (x : Int) = total ls x (r.take i) + bitI (rdI ls (rdI r (i : Int))) x := by
          intro x hx
          rw [rdI_set (by omega)]
          split
          · rename_i h; subst h; rw [hz2 j (Nat.le_refl _) (by omega), hbj]
          · exact hz1 x (by omega)
        have hrr : ∀ x : Nat, 0 ≤ rdI (zs.set (j : Int).toNat (rdI zs (j : Int) + rdI (chL n (rdI ls (rdI r (i : Int)))) (j : Int))) (x : Int) ∧ rdI (zs.set (j : Int).toNat (rdI zs (j : Int) + rdI (chL n (rdI ls (rdI r (i : Int)))) (j : Int))) (x : Int) ≤ (i : Int) + 1 ∧ (j + 1 ≤ x → rdI (zs.set (j : Int).toNat (rdI zs (j : Int) + rdI (chL n (rdI ls (rdI r (i : Int)))) (j : Int))) (x : Int) ≤ (i : Int)) := by
          intro x
          have h1_ := hzr x
          rw [rdI_set (by omega)]
          split
          · omega
          · omega
        refine g_draw 10 (by kernel_rfl) ?_
        refine j_p (i := 0) rfl (y_move rfl) (by kernel_rfl) (by kernel_rfl) (by kernel_rfl) rfl rfl rfl rfl rfl (.inr (fun _ h => h)) ?_
        refine j_p (i := 1) rfl (y_move rfl) (by kernel_rfl) (by kernel_rfl) (by kernel_rfl) rfl rfl rfl rfl rfl (.inr (fun _ h => h)) ?_
        refine j_p (i := 2) rfl (y_idxb1 rfl rfl Try.underlying32 size_3 (by omega) (by omega)) (by kernel_rfl) (by kernel_rfl) (by kernel_rfl) rfl rfl rfl rfl rfl (.inr (fun _ h => h)) ?_
        refine j_l (i := 3) rfl (y_ldL (enc := (Value.int .i64)) (xs := zs) (jk := []) 0 rfl rfl agg_3 (rdI_at (by omega) (by omega))) (by kernel_rfl) (by kernel_rfl) (by kernel_rfl) (by kernel_rfl) rfl rfl rfl rfl rfl (.inr (fun _ h => h)) ?_
        refine j_p (i := 4) rfl (y_move rfl) (by kernel_rfl) (by kernel_rfl) (by kernel_rfl) rfl rfl rfl rfl rfl (.inr (fun _ h => h)) ?_
        refine j_p (i := 5) rfl (y_move rfl) (by kernel_rfl) (by kernel_rfl) (by kernel_rfl) rfl rfl rfl rfl rfl (.inr (fun _ h => h)) ?_
        refine j_p (i := 6) rfl (y_idxO (enc := (Value.int .i64)) rfl rfl hOo9 hEo9 Try.underlying32 size_3 (by omega) (by omega)) (by kernel_rfl) (by kernel_rfl) (by kernel_rfl) rfl rfl rfl rfl rfl (.inr (fun _ h => h)) ?_
        refine j_l (i := 7) rfl (y_ldV (enc := (Value.int .i64)) (xs := chL n (rdI ls (rdI r (i : Int)))) (fun w h => (hOo9.rd fun p hp => h.at_ p (List.mem_cons_of_mem _ (mem_al mo9 hp))).rdl) rfl agg_3 (rdI_at (by omega) (by omega))) (by kernel_rfl) (by kernel_rfl) (by kernel_rfl) (by kernel_rfl) rfl rfl rfl rfl rfl (.inr (fun _ h => h)) ?_
        refine j_p (i := 8) rfl (y_add rfl rfl (by omega) (by omega)) (by kernel_rfl) (by kernel_rfl) (by kernel_rfl) rfl rfl rfl rfl rfl (.inr (fun _ h => h)) ?_
        refine j_p (i := 9) rfl (y_idxb1 rfl rfl Try.underlying32 size_3 (by omega) (by omega)) (by kernel_rfl) (by kernel_rfl) (by kernel_rfl) rfl rfl rfl rfl rfl (.inr (fun _ h => h)) ?_
        refine j_tr0 (i := 10) rfl (t_storeL (enc := (Value.int .i64)) (v := (rdI zs (j : Int)) + (rdI (chL n (rdI ls (rdI r (i : Int)))) (j : Int))) (xs := zs) (jk := []) 0 rfl rfl rfl rfl rfl size_3 (by omega)) (by kernel_rfl) rfl rfl rfl (.inl rfl) (fun _ _ => ?_)
        refine j_nil (by kernel_rfl) ?_
        refine g_inb ?_
        refine g_then ?_
        refine g_region ?_
        refine s_y (y_add rfl rfl (by omega) (by omega)) rfl rfl rfl rfl ?_
        refine s_y (y_move rfl) rfl rfl rfl rfl ?_
        refine s_nil ?_
        refine g_then ?_
        exact fun act W ha hw => ⟨j + 1, by omega, by omega, (zs.set (((j : Int) : Int).toNat) ((rdI zs (j : Int)) + (rdI (chL n (rdI ls (rdI r (i : Int)))) (j : Int)))), W, (by simp; exact hzl), (by exact hrr), (by exact hall), (by intro x h1 h2; rw [rdI_set (by omega), if_neg (by omega)]; exact hz2 x (by omega) h2), ha.weak (sub_get ⟨rfl, rfl, rfl, rfl, rfl, rfl, rfl, rfl, rfl, rfl, rfl, rfl, rfl, rfl, rfl, rfl, rfl, rfl, rfl, rfl, rfl, rfl, rfl, rfl, rfl, rfl, rfl, rfl, rfl, rfl, rfl, rfl, rfl, rfl, rfl, rfl, rfl, rfl, rfl, rfl, rfl, rfl, rfl, rfl, rfl, rfl, rfl, rfl, rfl, rfl, rfl, rfl, rfl, rfl, rfl, rfl, rfl, rfl, trivial⟩), hw.toHq.lookSub (List.Sublist.refl _)⟩
      · (try simp at cq12)
        refine g_exit ?_
        refine g_thenx ?_
        refine g_thenx ?_
        refine g_inbx ?_
        refine g_inb ?_
        refine g_then ?_
        refine g_region ?_
        refine s_y (y_add rfl rfl (by omega) (by omega)) rfl rfl rfl rfl ?_
        refine s_y (y_move rfl) rfl rfl rfl rfl ?_
        refine s_nil ?_
        refine g_then ?_
        have hlc : (chL n (rdI ls (rdI r (i : Int)))).length = n := chL_len
        have hnx : ∀ x : Nat, x < n → rdI zs (x : Int) = total ls x (r.take (i + 1)) := by intro x hx; rw [hz1 x (by omega), total_take (by omega) (by omega)]
        exact fun act W ha hw => ⟨i + 1, by omega, by omega, zs, W, (by exact hzl), (by intro x; have := hzr x; omega), (by exact hnx), ha.weak (sub_get ⟨rfl, rfl, rfl, rfl, rfl, rfl, rfl, rfl, rfl, trivial⟩), hw.toHq.lookSub (List.Sublist.cons_cons _ (sub_skip mo9 (List.Sublist.refl _)))⟩
    · (try simp at cq8)
      refine s_no rfl rfl rfl ?_
      refine s_no rfl rfl rfl ?_
      refine s_no rfl rfl rfl ?_
      refine s_no rfl rfl rfl ?_
      refine s_no rfl rfl rfl ?_
      refine s_no rfl rfl rfl ?_
      refine s_no rfl rfl rfl ?_
      refine s_y (y_pick_f rfl rfl) rfl rfl rfl rfl ?_
      refine s_y (y_pick_f rfl rfl) rfl rfl rfl rfl ?_
      refine s_nil ?_
      refine g_then ?_
      refine g_cond_f rfl ?_
      refine g_skip ?_
      refine g_then ?_
      refine g_seq ?_
      refine g_region ?_
      refine s_y (y_move rfl) rfl rfl rfl rfl ?_
      refine s_y (y_move rfl) rfl rfl rfl rfl ?_
      refine s_y (y_move rfl) rfl rfl rfl rfl ?_
      refine s_y (y_idxV (enc := (Value.int .i64)) rfl rfl hl Try.underlying32 size_3 (by omega) (by omega)) rfl rfl rfl rfl ?_
      refine s_y (y_ldV (enc := (Value.int .i64)) (xs := ls) (fun w h => hl.rdl.below h.below) rfl agg_3 (rdI_at (by omega) (by omega))) rfl rfl rfl rfl ?_
      refine s_tr (t_callm rfl rfl ent_39 (fun w h => Chord_ok w n (rdI ls (rdI r (i : Int))) hn hn2 (by omega) (by omega))) rfl rfl rfl rfl (fun x14 hx15 => ?_)
      obtain ⟨vo13, mo13⟩ := x14
      obtain ⟨hOo13, hEo13⟩ := hx15
      refine g_perm (List.perm_middle (l₁ := mo13)).symm (fun w1 => ?_)
      refine s_y (y_move rfl) rfl rfl rfl rfl ?_
      refine s_y (y_extract rfl rfl) rfl rfl rfl rfl ?_
      refine s_y (y_extract rfl rfl) rfl rfl rfl rfl ?_
      refine s_y (y_assign rfl) rfl rfl rfl rfl ?_
      refine s_y (y_assign rfl) rfl rfl rfl rfl ?_
      refine s_nil ?_
      refine g_then ?_
      refine g_seq ?_
      refine g_seq ?_
      refine g_region ?_
      refine s_y (y_move rfl) rfl rfl rfl rfl ?_
      refine s_y (y_neq_f rfl rfl (by decide)) rfl rfl rfl rfl ?_
      refine s_y (y_move rfl) rfl rfl rfl rfl ?_
      refine s_y (y_move rfl) rfl rfl rfl rfl ?_
      refine s_y (y_lenV (n := ((chL n (rdI ls (rdI r (i : Int)))).length)) rfl hOo13.1 sle_32) rfl rfl rfl rfl ?_
      refine s_y (y_move rfl) rfl rfl rfl rfl ?_
      refine s_y (y_neq_f rfl rfl (by rw [chL_len])) rfl rfl rfl rfl ?_
      refine s_y (y_pick_f rfl rfl) rfl rfl rfl rfl ?_
      refine s_nil ?_
      refine g_then ?_
      refine g_cond_f rfl ?_
      refine g_skip ?_
      refine g_then ?_
      refine g_seq ?_
      refine g_region ?_
      refine s_y (y_move rfl) rfl rfl rfl rfl ?_
      refine s_y (y_lenV (n := ((chL n (rdI ls (rdI r (i : Int)))).length)) rfl hOo13.1 sle_32) rfl rfl rfl rfl ?_
      refine s_y (y_move rfl) rfl rfl rfl rfl ?_
      refine s_nil ?_
      refine g_then ?_
      refine g_block ?_
      refine g_loop (fun (j : Nat) act W => j ≤ n ∧ ∃ (zs : List Int) (w1 : World), (zs.length = n) ∧ (∀ x : Nat, 0 ≤ rdI zs (x : Int) ∧ rdI zs (x : Int) ≤ (i : Int) + 1 ∧ (j ≤ x → rdI zs (x : Int) ≤ (i : Int))) ∧ (∀ x : Nat, x < j → rdI zs (x : Int) = total ls x (r.take i) + bitI (rdI ls (rdI r (i : Int))) x) ∧ (∀ x : Nat, j ≤ x → x < n → rdI zs (x : Int) = total ls x (r.take i)) ∧ Has 168 [] [(0, .int .i64 (n : Int)), (1, .int .i64 (tg : Int)), (2, lv), (7, vo4), (8, .int .i64 0), (9, .slice (some ⟨bz, 0, none⟩) n n), (10, .int .i64 (i : Int)), (11, .int .i64 (rdI r (i : Int))), (12, vo13), (13, .int .i64 0), (59, vo4), (60, .int .i64 (r.length : Nat)), (61, .int .i64 (i : Int)), (62, .bool (decide ((i : Int) < (r.length : Nat)))), (63, .int .i64 (i : Int)), (64, .pointer (some (elemA (adrOf vo4) ((i : Int) : Int).toNat))), (65, .int .i64 (rdI r (i : Int))), (66, .int .i64 (rdI r (i : Int))), (67, .bool false), (68, .bool false), (69, .int .i64 (rdI r (i : Int))), (70, lv), (71, .int .i64 (ls.length : Nat)), (72, .bool false), (73, .bool false), (74, .bool false), (75, .int .i64 (i : Int)), (76, .bool (decide ((i : Int) > 0))), (77, .bool false), (85, .bool false), (86, .bool false), (87, .tuple #[vo13, .int .i64 0]), (88, .int .i64 (n : Int)), (89, lv), (90, .int .i64 (rdI r (i : Int))), (91, .pointer (some (elemA (adrOf lv) (rdI r (i : Int) : Int).toNat))), (92, .int .i64 (rdI ls (rdI r (i : Int)))), (93, .tuple #[vo13, .int .i64 0]), (94, vo13), (95, .int .i64 0), (96, .int .i64 0), (97, .bool false), (98, .bool false), (99, vo13), (100, .int .i64 ((chL n (rdI ls (rdI r (i : Int)))).length : Nat)), (101, .int .i64 (n : Int)), (102, .bool false), (103, .bool false), (104, vo13), (105, .int .i64 ((chL n (rdI ls (rdI r (i : Int)))).length : Nat)), (106, .int .i64 (j : Int))] act ∧ Hp w w1 ((bz, .cells (zs.map (Value.int .i64) ++ []).toArray 3 (0, 0)) :: (mo13 ++ ((mo4 ++ ((mo1 ++ ([]))))))) W) (fun j => n - j) 0 (fun act W ha hw => ⟨by omega, zs, W, (by exact hzl), (by intro x; have := hzr x; omega), (by intro x hx; omega), (by intro x _ hx; exact hzs x hx), ha.weak (sub_get ⟨rfl, rfl, rfl, rfl, rfl, rfl, rfl, rfl, rfl, rfl, rfl, rfl, rfl, rfl, rfl, rfl, rfl, rfl, rfl, rfl, rfl, rfl, rfl, rfl, rfl, rfl, rfl, rfl, rfl, rfl, rfl, rfl, rfl, rfl, rfl, rfl, rfl, rfl, rfl, rfl, rfl, rfl, rfl, rfl, rfl, rfl, rfl, rfl, rfl, rfl, rfl, trivial⟩), hw.toHq.lookSub (List.Sublist.refl _)⟩) ?_
      intro j act W ⟨hb_j, zs, w1, hzl, hzr, hz1, hz2, ha, hw⟩
      refine g_go ha hw ?_
      clear ha hw act W
      refine g_seq ?_
      refine g_region ?_
      refine s_y (y_lss rfl rfl) rfl rfl rfl rfl ?_
      refine s_nil ?_
      refine g_then ?_
      refine g_seq ?_
      refine g_cond rfl (fun cq16 => ?_) (fun cq16 => ?_)
      · (try simp at cq16)
        refine g_skip ?_
        refine g_then ?_
        refine g_seq ?_
        refine g_block ?_
        refine g_seq ?_
        refine g_region ?_
        refine s_y (y_move rfl) rfl rfl rfl rfl ?_
        refine s_y (y_assign rfl) rfl rfl rfl rfl ?_
        refine s_nil ?_
        refine g_then ?_
        have hlc : (chL n (rdI ls (rdI r (i : Int)))).length = n := chL_len
        have hbj : rdI (chL n (rdI ls (rdI r (i : Int)))) (j : Int) = bitI (rdI ls (rdI r (i : Int))) j := fn_ch _ (by omega)
        have hbr := bitI_range (rdI ls (rdI r (i : Int))) j
        rw [← hbj] at hbr
        have hzj := hzr j
        have hall : ∀ x : Nat, x < j + 1 → rdI (zs.set (j : Int).toNat (rdI zs (j : Int) + rdI (chL n (rdI ls (rdI r (i : Int)))) (j : Int))) (x : Int) = total ls x (r.take i) + bitI (rdI ls (rdI r (i : Int))) x := by
          intro x hx
          rw [rdI_set (by omega)]
          split
          · rename_i h; subst h; rw [hz2 j (Nat.le_refl _) (by omega), hbj]
          · exact hz1 x (by omega)
        have hrr : ∀ x : Nat, 0 ≤ rdI (zs.set (j : Int).toNat (rdI zs (j : Int) + rdI (chL n (rdI ls (rdI r (i : Int)))) (j : Int))) (x : Int) ∧ rdI (zs.set (j : Int).toNat (rdI zs (j : Int) + rdI (chL n (rdI ls (rdI r (i : Int)))) (j : Int))) (x : Int) ≤ (i : Int) + 1 ∧ (j + 1 ≤ x → rdI (zs.set (j : Int).toNat (rdI zs (j : Int) + rdI (chL n (rdI ls (rdI r (i : Int)))) (j : Int))) (x : Int) ≤ (i : Int)) := by
          intro x
          have h1_ := hzr x
          rw [rdI_set (by omega)]
          split
          · omega
          · omega
        refine g_draw 10 (by kernel_rfl) ?_
        refine j_p (i := 0) rfl (y_move rfl) (by kernel_rfl) (by kernel_rfl) (by kernel_rfl) rfl rfl rfl rfl rfl (.inr (fun _ h => h)) ?_
        refine j_p (i := 1) rfl (y_move rfl) (by kernel_rfl) (by kernel_rfl) (by kernel_rfl) rfl rfl rfl rfl rfl (.inr (fun _ h => h)) ?_
        refine j_p (i := 2) rfl (y_idxb1 rfl rfl Try.underlying32 size_3 (by omega) (by omega)) (by kernel_rfl) (by kernel_rfl) (by kernel_rfl) rfl rfl rfl rfl rfl (.inr (fun _ h => h)) ?_
        refine j_l (i := 3) rfl (y_ldL (enc := (Value.int .i64)) (xs := zs) (jk := []) 0 rfl rfl agg_3 (rdI_at (by omega) (by omega))) (by kernel_rfl) (by kernel_rfl) (by kernel_rfl) (by kernel_rfl) rfl rfl rfl rfl rfl (.inr (fun _ h => h)) ?_
        refine j_p (i := 4) rfl (y_move rfl) (by kernel_rfl) (by kernel_rfl) (by kernel_rfl) rfl rfl rfl rfl rfl (.inr (fun _ h => h)) ?_
        refine j_p (i := 5) rfl (y_move rfl) (by kernel_rfl) (by kernel_rfl) (by kernel_rfl) rfl rfl rfl rfl rfl (.inr (fun _ h => h)) ?_
        refine j_p (i := 6) rfl (y_idxO (enc := (Value.int .i64)) rfl rfl hOo13 hEo13 Try.underlying32 size_3 (by omega) (by omega)) (by kernel_rfl) (by kernel_rfl) (by kernel_rfl) rfl rfl rfl rfl rfl (.inr (fun _ h => h)) ?_
        refine j_l (i := 7) rfl (y_ldV (enc := (Value.int .i64)) (xs := chL n (rdI ls (rdI r (i : Int)))) (fun w h => (hOo13.rd fun p hp => h.at_ p (List.mem_cons_of_mem _ (mem_al mo13 hp))).rdl) rfl agg_3 (rdI_at (by omega) (by omega))) (by kernel_rfl) (by kernel_rfl) (by kernel_rfl) (by kernel_rfl) rfl rfl rfl rfl rfl (.inr (fun _ h => h)) ?_
        refine j_p (i := 8) rfl (y_add rfl rfl (by omega) (by omega)) (by kernel_rfl) (by kernel_rfl) (by kernel_rfl) rfl rfl rfl rfl rfl (.inr (fun _ h => h)) ?_
        refine j_p (i := 9) rfl (y_idxb1 rfl rfl Try.underlying32 size_3 (by omega) (by omega)) (by kernel_rfl) (by kernel_rfl) (by kernel_rfl) rfl rfl rfl rfl rfl (.inr (fun _ h => h)) ?_
        refine j_tr0 (i := 10) rfl (t_storeL (enc := (Value.int .i64)) (v := (rdI zs (j : Int)) + (rdI (chL n (rdI ls (rdI r (i : Int)))) (j : Int))) (xs := zs) (jk := []) 0 rfl rfl rfl rfl rfl size_3 (by omega)) (by kernel_rfl) rfl rfl rfl (.inl rfl) (fun _ _ => ?_)
        refine j_nil (by kernel_rfl) ?_
        refine g_inb ?_
        refine g_then ?_
        refine g_region ?_
        refine s_y (y_add rfl rfl (by omega) (by omega)) rfl rfl rfl rfl ?_
        refine s_y (y_move rfl) rfl rfl rfl rfl ?_
        refine s_nil ?_
        refine g_then ?_
        exact fun act W ha hw => ⟨j + 1, by omega, by omega, (zs.set (((j : Int) : Int).toNat) ((rdI zs (j : Int)) + (rdI (chL n (rdI ls (rdI r (i : Int)))) (j : Int)))), W, (by simp; exact hzl), (by exact hrr), (by exact hall), (by intro x h1 h2; rw [rdI_set (by omega), if_neg (by omega)]; exact hz2 x (by omega) h2), ha.weak (sub_get ⟨rfl, rfl, rfl, rfl, rfl, rfl, rfl, rfl, rfl, rfl, rfl, rfl, rfl, rfl, rfl, rfl, rfl, rfl, rfl, rfl, rfl, rfl, rfl, rfl, rfl, rfl, rfl, rfl, rfl, rfl, rfl, rfl, rfl, rfl, rfl, rfl, rfl, rfl, rfl, rfl, rfl, rfl, rfl, rfl, rfl, rfl, rfl, rfl, rfl, rfl, rfl, trivial⟩), hw.toHq.lookSub (List.Sublist.refl _)⟩
      · (try simp at cq16)
        refine g_exit ?_
        refine g_thenx ?_
        refine g_thenx ?_
        refine g_inbx ?_
        refine g_inb ?_
        refine g_then ?_
        refine g_region ?_
        refine s_y (y_add rfl rfl (by omega) (by omega)) rfl rfl rfl rfl ?_
        refine s_y (y_move rfl) rfl rfl rfl rfl ?_
        refine s_nil ?_
        refine g_then ?_
        have hlc : (chL n (rdI ls (rdI r (i : Int)))).length = n := chL_len
        have hnx : ∀ x : Nat, x < n → rdI zs (x : Int) = total ls x (r.take (i + 1)) := by intro x hx; rw [hz1 x (by omega), total_take (by omega) (by omega)]
        exact fun act W ha hw => ⟨i + 1, by omega, by omega, zs, W, (by exact hzl), (by intro x; have := hzr x; omega), (by exact hnx), ha.weak (sub_get ⟨rfl, rfl, rfl, rfl, rfl, rfl, rfl, rfl, rfl, trivial⟩), hw.toHq.lookSub (List.Sublist.cons_cons _ (sub_skip mo13 (List.Sublist.refl _)))⟩
  · (try simp at cq7)
    refine g_exit ?_
    refine g_thenx ?_
    refine g_thenx ?_
    refine g_inbx ?_
    refine g_then ?_
    refine g_seq ?_
    have hchz : chL n (tg : Int) = zs := rdI_ext (by rw [chL_len, hzl]) fun x hx => by
      rw [chL_len] at hx
      rw [hzs x hx, show i = r.length by omega, List.take_length]
      exact (fn_ch _ hx).trans ((sch_ok ls ls.length 0 tg r hs).2.2 x).symm
    refine g_region ?_
    refine s_y (y_move rfl) rfl rfl rfl rfl ?_
    refine s_y (y_move rfl) rfl rfl rfl rfl ?_
    refine s_tr (t_callm rfl rfl ent_39 (fun w h => Chord_ok w n ((tg : Int)) hn hn2 hct.1 hct.2)) rfl rfl rfl rfl (fun x18 hx19 => ?_)
    obtain ⟨vo17, mo17⟩ := x18
    obtain ⟨hOo17, hEo17⟩ := hx19
    refine s_y (y_move rfl) rfl rfl rfl rfl ?_
    refine s_y (y_extract rfl rfl) rfl rfl rfl rfl ?_
    refine s_y (y_extract rfl rfl) rfl rfl rfl rfl ?_
    refine s_y (y_assign rfl) rfl rfl rfl rfl ?_
    refine s_y (y_assign rfl) rfl rfl rfl rfl ?_
    refine s_nil ?_
    refine g_then ?_
    refine g_seq ?_
    refine g_seq ?_
    refine g_region ?_
    refine s_y (y_move rfl) rfl rfl rfl rfl ?_
    refine s_y (y_neq_f rfl rfl (by decide)) rfl rfl rfl rfl ?_
    refine s_y (y_move rfl) rfl rfl rfl rfl ?_
    refine s_y (y_move rfl) rfl rfl rfl rfl ?_
    refine s_y (y_move rfl) rfl rfl rfl rfl ?_
    refine s_tr (t_call rfl rfl ent_30 (fun w h => Equal_t w _ _ (chL n (tg : Int)) zs (hOo17.rd fun p hp => h.at_ p (mem_al mo17 hp)) (RdV.own (jk := []) (h.at_ _ (mem_ar mo17 (List.mem_cons_self ..))) hzl.symm (Nat.le_refl _)) (by rw [chL_len]; omega) hchz)) rfl rfl rfl rfl (fun _ _ => ?_)
    refine s_y (y_not_t rfl) rfl rfl rfl rfl ?_
    refine s_y (y_pick_f rfl rfl) rfl rfl rfl rfl ?_
    refine s_y (y_move rfl) rfl rfl rfl rfl ?_
    refine s_y (y_move rfl) rfl rfl rfl rfl ?_
    refine s_y (y_eql_f rfl rfl (by omega)) rfl rfl rfl rfl ?_
    refine s_y (y_move rfl) rfl rfl rfl rfl ?_
    refine s_no rfl rfl rfl ?_
    refine s_no rfl rfl rfl ?_
    refine s_no rfl rfl rfl ?_
    refine s_y (y_pick_f rfl rfl) rfl rfl rfl rfl ?_
    refine s_y (y_pick_f rfl rfl) rfl rfl rfl rfl ?_
    refine s_nil ?_
    refine g_then ?_
    refine g_cond_f rfl ?_
    refine g_skip ?_
    refine g_then ?_
    refine g_seq ?_
    refine g_region ?_
    refine s_y (y_move rfl) rfl rfl rfl rfl ?_
    refine s_y (y_move rfl) rfl rfl rfl rfl ?_
    refine s_tr (t_call rfl rfl ent_52 (fun w h => Index_any w _ ls tg (hl.below h.below) (by omega))) rfl rfl rfl rfl (fun _ _ => ?_)
    refine s_y (y_assign rfl) rfl rfl rfl rfl ?_
    refine s_nil ?_
    refine g_then ?_
    refine g_seq ?_
    refine g_region ?_
    refine s_y (y_move rfl) rfl rfl rfl rfl ?_
    refine s_y (y_lss rfl rfl) rfl rfl rfl rfl ?_
    refine s_y (y_move rfl) rfl rfl rfl rfl ?_
    refine g_bool 149 rfl (fun cq20 => ?_) (fun cq20 => ?_)
    · (try simp at cq20)
      refine s_no rfl rfl rfl ?_
      refine s_no rfl rfl rfl ?_
      refine s_y (y_pick_t rfl rfl) rfl rfl rfl rfl ?_
      refine s_y (y_move rfl) rfl rfl rfl rfl ?_
      refine s_no rfl rfl rfl ?_
      refine s_no rfl rfl rfl ?_
      refine s_no rfl rfl rfl ?_
      refine s_no rfl rfl rfl ?_
      refine s_noU rfl rfl rfl rfl rfl ?_
      refine s_noU rfl rfl rfl rfl rfl ?_
      refine s_noU rfl rfl rfl rfl rfl ?_
      refine s_noU rfl rfl rfl rfl rfl ?_
      refine s_noU rfl rfl rfl rfl rfl ?_
      refine s_no rfl rfl rfl ?_
      refine s_y (y_pick_t rfl rfl) rfl rfl rfl rfl ?_
      refine s_y (y_move rfl) rfl rfl rfl rfl ?_
      refine s_tr (t_call rfl rfl ent_20 (fun w h => awake_t w)) rfl rfl rfl rfl (fun _ _ => ?_)
      refine s_y (y_pick_t rfl rfl) rfl rfl rfl rfl ?_
      refine s_y (y_assign rfl) rfl rfl rfl rfl ?_
      refine s_nil ?_
      refine g_then ?_
      refine g_ret ?_
      exact g_end trivial (fun a w ha hq_ => res1 ha rfl rfl  w) (fun w h => ⟨rfl, h.below⟩)
    · (try simp at cq20)
      obtain ⟨j, hj1, hj2, hj3⟩ := ixI_nn (ls := ls) (x := (tg : Int)) (by first | exact cq20 | omega)
      obtain ⟨a_, r_, h1_, h2_⟩ := sch_first ls ls.length 0 tg j h0 (by omega) (by omega) (by rw [hj3]; omega)
      rw [hs] at h1_
      have he_ : r = a_ :: r_ := by cases h1_; rfl
      have hrl0 : 0 < r.length := by rw [he_]; simp
      have hr0 : rdI r 0 = a_ := by rw [he_]; rfl
      refine s_y (y_move rfl) rfl rfl rfl rfl ?_
      refine s_y (y_eql_f rfl rfl (by omega)) rfl rfl rfl rfl ?_
      refine s_y (y_pick_f rfl rfl) rfl rfl rfl rfl ?_
      refine s_y (y_move rfl) rfl rfl rfl rfl ?_
      refine s_y (y_move rfl) rfl rfl rfl rfl ?_
      refine s_y (y_lenV (n := r.length) rfl hOo4.1 sle_32) rfl rfl rfl rfl ?_
      refine s_y (y_gtr_t rfl rfl (by omega)) rfl rfl rfl rfl ?_
      refine s_y (y_move rfl) rfl rfl rfl rfl ?_
      refine s_y (y_move rfl) rfl rfl rfl rfl ?_
      refine s_y (y_idxO (enc := (Value.int .i64)) rfl rfl hOo4 hEo4 Try.underlying32 size_3 (by omega) (by omega)) rfl rfl rfl rfl ?_
      refine s_y (y_ldV (enc := (Value.int .i64)) (xs := r) (fun w h => (hOo4.rd fun p hp => h.at_ p (mem_ar mo17 (List.mem_cons_of_mem _ (mem_al mo4 hp)))).rdl) rfl agg_3 (rdI_at (by omega) (by omega))) rfl rfl rfl rfl ?_
      refine s_y (y_move rfl) rfl rfl rfl rfl ?_
      refine s_y (y_leq_t rfl rfl (by omega)) rfl rfl rfl rfl ?_
      refine s_y (y_pick_t rfl rfl) rfl rfl rfl rfl ?_
      refine s_y (y_pick_f rfl rfl) rfl rfl rfl rfl ?_
      refine s_y (y_move rfl) rfl rfl rfl rfl ?_
      refine s_tr (t_call rfl rfl ent_20 (fun w h => awake_t w)) rfl rfl rfl rfl (fun _ _ => ?_)
      refine s_y (y_pick_t rfl rfl) rfl rfl rfl rfl ?_
      refine s_y (y_assign rfl) rfl rfl rfl rfl ?_
      refine s_nil ?_
      refine g_then ?_
      refine g_ret ?_
      exact g_end trivial (fun a w ha hq_ => res1 ha rfl rfl  w) (fun w h => ⟨rfl, h.below⟩)

theorem WheelsSums_zero (w : World) (n : Nat) (hn : 2 ≤ n) (hn2 : n ≤ 16) (tg : Nat) (lv : Value) (ls : List Int) (hl : RdV (Value.int .i64) w lv ls) (hcs : ∀ s ∈ [(tg : Int)] ++ ls, 0 ≤ s ∧ s < 2 ^ n) (hll : ls.length ≤ 10) (h0 : tg = 0) :
    Calls Try.prog 16 [.int .i64 (n : Int), .int .i64 (tg : Int), lv].toArray w fun e w' => e = .returned (.bool true) ∧ Below w.heap.size w w' := by
  have hp16 := pow_le hn2
  have hls : ∀ s ∈ ls, 0 ≤ s ∧ s < 65536 := fun s hs => by have h1 := hcs s (by simp [hs]); omega
  have hct := hcs (tg : Int) (by simp)
  have hoc : ∀ s ∈ ls, okC n s := fun s hs => ⟨⟨by omega, by omega⟩, hcs s (by simp [hs])⟩
  have hch0 : chL n (tg : Int) = List.replicate n 0 := rdI_ext (by rw [chL_len, List.length_replicate]) fun x hx => by
    rw [chL_len] at hx
    rw [rdI_replicate]
    refine (fn_ch _ hx).trans ?_
    rw [bitI_nat, h0, Nat.zero_testBit]; rfl
  obtain ⟨ie3, hi3⟩ := inf_3
  refine enter (N := 168) Try.func16 rfl rfl rfl ?_
  refine g_seq ?_
  refine g_region ?_
  refine s_y (y_assign rfl) rfl rfl rfl rfl ?_
  refine s_nil ?_
  refine g_then ?_
  refine g_seq ?_
  refine g_region ?_
  refine s_y (y_move rfl) rfl rfl rfl rfl ?_
  refine s_y (y_move rfl) rfl rfl rfl rfl ?_
  refine s_y (y_move rfl) rfl rfl rfl rfl ?_
  refine s_tr (t_callm rfl rfl ent_27 (fun w h => list_le w _ ls (hl.below h.below) (by omega))) rfl rfl rfl rfl (fun x2 hx3 => ?_)
  obtain ⟨vo1, mo1⟩ := x2
  obtain ⟨hOo1, hEo1⟩ := hx3
  refine s_tr (t_call rfl rfl ent_44 (fun w h => Solve_zero w n hn hn2 tg _ ls (hOo1.rd fun p hp => h.at_ p (mem_al mo1 hp)) hcs hll h0)) rfl rfl rfl rfl (fun _ _ => ?_)
  refine s_y (y_move rfl) rfl rfl rfl rfl ?_
  refine s_y (y_extract rfl rfl) rfl rfl rfl rfl ?_
  refine s_y (y_extract rfl rfl) rfl rfl rfl rfl ?_
  refine s_y (y_assign rfl) rfl rfl rfl rfl ?_
  refine s_y (y_assign rfl) rfl rfl rfl rfl ?_
  refine s_nil ?_
  refine g_then ?_
  refine g_seq ?_
  refine g_seq ?_
  refine g_region ?_
  refine s_y (y_move rfl) rfl rfl rfl rfl ?_
  refine s_y (y_move rfl) rfl rfl rfl rfl ?_
  refine s_tr (t_call rfl rfl ent_24 (fun w h => Valid_tI w n tg ⟨⟨by omega, by omega⟩, hct⟩)) rfl rfl rfl rfl (fun _ _ => ?_)
  refine s_y (y_not_t rfl) rfl rfl rfl rfl ?_
  refine s_y (y_move rfl) rfl rfl rfl rfl ?_
  refine s_y (y_move rfl) rfl rfl rfl rfl ?_
  refine s_y (y_move rfl) rfl rfl rfl rfl ?_
  refine s_tr (t_call rfl rfl ent_45 (fun w h => RList_t w n _ ls (hl.below h.below) hoc hll)) rfl rfl rfl rfl (fun _ _ => ?_)
  refine s_y (y_not_t rfl) rfl rfl rfl rfl ?_
  refine s_y (y_pick_f rfl rfl) rfl rfl rfl rfl ?_
  refine s_nil ?_
  refine g_then ?_
  refine g_cond_f rfl ?_
  refine g_skip ?_
  refine g_then ?_
  refine g_seq ?_
  refine g_seq ?_
  refine g_region ?_
  refine s_y (y_move rfl) rfl rfl rfl rfl ?_
  refine s_y (y_neq_f rfl rfl (by decide)) rfl rfl rfl rfl ?_
  refine s_nil ?_
  refine g_then ?_
  refine g_cond_f rfl ?_
  refine g_skip ?_
  refine g_then ?_
  refine g_seq ?_
  refine g_region ?_
  refine s_y (y_move rfl) rfl rfl rfl rfl ?_
  refine s_tr (t_makeL (enc := (Value.int .i64)) (z := (0 : Int)) (n := n) rfl Try.underlying32 hi3.1 hi3.2.1 hi3.2.2.1 rfl (by rw [hi3.2.2.2]; omega) (by omega)) rfl rfl rfl rfl (fun bz hbz => ?_)
  refine s_y (y_assign rfl) rfl rfl rfl rfl ?_
  refine s_nil ?_
  refine g_then ?_
  refine g_seq ?_
  refine g_seq ?_
  refine g_region ?_
  refine s_y (y_move rfl) rfl rfl rfl rfl ?_
  refine s_y (y_lensl rfl sle_32) rfl rfl rfl rfl ?_
  refine s_y (y_move rfl) rfl rfl rfl rfl ?_
  refine s_nil ?_
  refine g_then ?_
  refine g_block ?_
  refine g_loop (fun (i : Nat) act W => i ≤ 0 ∧ ∃ (w1 : World), Has 168 [] [(0, .int .i64 (n : Int)), (1, .int .i64 (tg : Int)), (2, lv), (7, .slice none 0 0), (8, .int .i64 0), (9, .slice (some ⟨bz, 0, none⟩) n n), (59, .slice none 0 0), (60, .int .i64 0), (61, .int .i64 (i : Int))] act ∧ Hp w w1 ((bz, .cells ((List.replicate n (0 : Int)).map (Value.int .i64) ++ []).toArray 3 (0, 0)) :: (mo1 ++ ([]))) W) (fun i => 0 - i) 0 (fun act W ha hw => ⟨by omega, W, ha.weak (sub_get ⟨rfl, rfl, rfl, rfl, rfl, rfl, rfl, rfl, rfl, trivial⟩), hw.toHq.lookSub (List.Sublist.refl _)⟩) ?_
  intro i act W ⟨hb_i, w1, ha, hw⟩
  refine g_go ha hw ?_
  clear ha hw act W
  refine g_seq ?_
  refine g_region ?_
  refine s_y (y_lss rfl rfl) rfl rfl rfl rfl ?_
  refine s_nil ?_
  refine g_then ?_
  refine g_seq ?_
  refine g_cond rfl (fun cq4 => ?_) (fun cq4 => ?_)
  · (try simp at cq4)
    omega
  · (try simp at cq4)
    refine g_exit ?_
    refine g_thenx ?_
    refine g_thenx ?_
    refine g_inbx ?_
    refine g_then ?_
    refine g_seq ?_
    refine g_region ?_
    refine s_y (y_move rfl) rfl rfl rfl rfl ?_
    refine s_y (y_move rfl) rfl rfl rfl rfl ?_
    refine s_tr (t_callm rfl rfl ent_39 (fun w h => Chord_ok w n (tg : Int) hn hn2 hct.1 hct.2)) rfl rfl rfl rfl (fun x6 hx7 => ?_)
    obtain ⟨vo5, mo5⟩ := x6
    obtain ⟨hOo5, hEo5⟩ := hx7
    refine s_y (y_move rfl) rfl rfl rfl rfl ?_
    refine s_y (y_extract rfl rfl) rfl rfl rfl rfl ?_
    refine s_y (y_extract rfl rfl) rfl rfl rfl rfl ?_
    refine s_y (y_assign rfl) rfl rfl rfl rfl ?_
    refine s_y (y_assign rfl) rfl rfl rfl rfl ?_
    refine s_nil ?_
    refine g_then ?_
    refine g_seq ?_
    refine g_seq ?_
    refine g_region ?_
    refine s_y (y_move rfl) rfl rfl rfl rfl ?_
    refine s_y (y_neq_f rfl rfl (by decide)) rfl rfl rfl rfl ?_
    refine s_y (y_move rfl) rfl rfl rfl rfl ?_
    refine s_y (y_move rfl) rfl rfl rfl rfl ?_
    refine s_y (y_move rfl) rfl rfl rfl rfl ?_
    refine s_tr (t_call rfl rfl ent_30 (fun w h => Equal_t w _ _ (chL n (tg : Int)) (List.replicate n 0) (hOo5.rd fun p hp => h.at_ p (mem_al mo5 hp)) (RdV.own (jk := []) (h.at_ _ (mem_ar mo5 (List.mem_cons_self ..))) (by first | rfl | simp | omega) (Nat.le_refl _)) (by rw [chL_len]; omega) hch0)) rfl rfl rfl rfl (fun _ _ => ?_)
    refine s_y (y_not_t rfl) rfl rfl rfl rfl ?_
    refine s_y (y_pick_f rfl rfl) rfl rfl rfl rfl ?_
    refine s_y (y_move rfl) rfl rfl rfl rfl ?_
    refine s_y (y_move rfl) rfl rfl rfl rfl ?_
    refine s_y (y_eql_t rfl rfl (by omega)) rfl rfl rfl rfl ?_
    refine s_y (y_move rfl) rfl rfl rfl rfl ?_
    refine s_y (y_move rfl) rfl rfl rfl rfl ?_
    refine s_y (y_lensl rfl sle_32) rfl rfl rfl rfl ?_
    refine s_y (y_neq_f rfl rfl (by decide)) rfl rfl rfl rfl ?_
    refine s_y (y_pick_t rfl rfl) rfl rfl rfl rfl ?_
    refine s_y (y_pick_f rfl rfl) rfl rfl rfl rfl ?_
    refine s_nil ?_
    refine g_then ?_
    refine g_cond_f rfl ?_
    refine g_skip ?_
    refine g_then ?_
    refine g_seq ?_
    refine g_region ?_
    refine s_y (y_move rfl) rfl rfl rfl rfl ?_
    refine s_y (y_move rfl) rfl rfl rfl rfl ?_
    refine s_tr (t_call rfl rfl ent_52 (fun w h => Index_any w _ ls tg (hl.below h.below) (by omega))) rfl rfl rfl rfl (fun _ _ => ?_)
    refine s_y (y_assign rfl) rfl rfl rfl rfl ?_
    refine s_nil ?_
    refine g_then ?_
    refine g_seq ?_
    refine g_region ?_
    refine s_y (y_move rfl) rfl rfl rfl rfl ?_
    refine s_y (y_lss rfl rfl) rfl rfl rfl rfl ?_
    refine s_y (y_move rfl) rfl rfl rfl rfl ?_
    refine g_bool 149 rfl (fun cq8 => ?_) (fun cq8 => ?_)
    · (try simp at cq8)
      refine s_no rfl rfl rfl ?_
      refine s_no rfl rfl rfl ?_
      refine s_y (y_pick_t rfl rfl) rfl rfl rfl rfl ?_
      refine s_y (y_move rfl) rfl rfl rfl rfl ?_
      refine s_no rfl rfl rfl ?_
      refine s_no rfl rfl rfl ?_
      refine s_no rfl rfl rfl ?_
      refine s_no rfl rfl rfl ?_
      refine s_noU rfl rfl rfl rfl rfl ?_
      refine s_noU rfl rfl rfl rfl rfl ?_
      refine s_noU rfl rfl rfl rfl rfl ?_
      refine s_noU rfl rfl rfl rfl rfl ?_
      refine s_noU rfl rfl rfl rfl rfl ?_
      refine s_no rfl rfl rfl ?_
      refine s_y (y_pick_t rfl rfl) rfl rfl rfl rfl ?_
      refine s_y (y_move rfl) rfl rfl rfl rfl ?_
      refine s_tr (t_call rfl rfl ent_20 (fun w h => awake_t w)) rfl rfl rfl rfl (fun _ _ => ?_)
      refine s_y (y_pick_t rfl rfl) rfl rfl rfl rfl ?_
      refine s_y (y_assign rfl) rfl rfl rfl rfl ?_
      refine s_nil ?_
      refine g_then ?_
      refine g_ret ?_
      exact g_end trivial (fun a w ha hq_ => res1 ha rfl rfl  w) (fun w h => ⟨rfl, h.below⟩)
    · (try simp at cq8)
      refine s_y (y_move rfl) rfl rfl rfl rfl ?_
      refine s_y (y_eql_t rfl rfl (by omega)) rfl rfl rfl rfl ?_
      refine s_y (y_pick_f rfl rfl) rfl rfl rfl rfl ?_
      refine s_y (y_move rfl) rfl rfl rfl rfl ?_
      refine s_no rfl rfl rfl ?_
      refine s_no rfl rfl rfl ?_
      refine s_no rfl rfl rfl ?_
      refine s_no rfl rfl rfl ?_
      refine s_noU rfl rfl rfl rfl rfl ?_
      refine s_noU rfl rfl rfl rfl rfl ?_
      refine s_noU rfl rfl rfl rfl rfl ?_
      refine s_noU rfl rfl rfl rfl rfl ?_
      refine s_noU rfl rfl rfl rfl rfl ?_
      refine s_no rfl rfl rfl ?_
      refine s_y (y_pick_t rfl rfl) rfl rfl rfl rfl ?_
      refine s_y (y_move rfl) rfl rfl rfl rfl ?_
      refine s_tr (t_call rfl rfl ent_20 (fun w h => awake_t w)) rfl rfl rfl rfl (fun _ _ => ?_)
      refine s_y (y_pick_t rfl rfl) rfl rfl rfl rfl ?_
      refine s_y (y_assign rfl) rfl rfl rfl rfl ?_
      refine s_nil ?_
      refine g_then ?_
      refine g_ret ?_
      exact g_end trivial (fun a w ha hq_ => res1 ha rfl rfl  w) (fun w h => ⟨rfl, h.below⟩)

theorem WheelsSums_no1 (w : World) (n c : Int) (lv : Value) (ls : List Int) (hl : RdV (Value.int .i64) w lv ls) (hm : ls.length ≤ 9223372036854775807) (hno : ¬ (okC n c ∧ (∀ s ∈ ls, okC n s) ∧ ls.length ≤ 10)) (hv1 : ¬ okC n c) :
    Calls Try.prog 16 [.int .i64 n, .int .i64 c, lv].toArray w fun e w' => e = .returned (.bool true) ∧ Below w.heap.size w w' := by
  refine enter (N := 168) Try.func16 rfl rfl rfl ?_
  refine g_seq ?_
  refine g_region ?_
  refine s_y (y_assign rfl) rfl rfl rfl rfl ?_
  refine s_nil ?_
  refine g_then ?_
  refine g_seq ?_
  refine g_region ?_
  refine s_y (y_move rfl) rfl rfl rfl rfl ?_
  refine s_y (y_move rfl) rfl rfl rfl rfl ?_
  refine s_y (y_move rfl) rfl rfl rfl rfl ?_
  refine s_tr (t_callm rfl rfl ent_27 (fun w h => list_any w _ ls (hl.below h.below))) rfl rfl rfl rfl (fun x2 hx3 => ?_)
  obtain ⟨vo1, mo1⟩ := x2
  obtain ⟨hOo1, hEo1⟩ := hx3
  refine s_tr (t_call rfl rfl ent_44 (fun w h => Solve_no w n c _ ls (hOo1.rd fun p hp => h.at_ p (mem_al mo1 hp)) hno)) rfl rfl rfl rfl (fun _ _ => ?_)
  refine s_y (y_move rfl) rfl rfl rfl rfl ?_
  refine s_y (y_extract rfl rfl) rfl rfl rfl rfl ?_
  refine s_y (y_extract rfl rfl) rfl rfl rfl rfl ?_
  refine s_y (y_assign rfl) rfl rfl rfl rfl ?_
  refine s_y (y_assign rfl) rfl rfl rfl rfl ?_
  refine s_nil ?_
  refine g_then ?_
  refine g_seq ?_
  refine g_seq ?_
  refine g_region ?_
  refine s_y (y_move rfl) rfl rfl rfl rfl ?_
  refine s_y (y_move rfl) rfl rfl rfl rfl ?_
  refine s_tr (t_call rfl rfl ent_24 (fun w h => Valid_f w n c hv1)) rfl rfl rfl rfl (fun _ _ => ?_)
  refine s_y (y_not_f rfl) rfl rfl rfl rfl ?_
  refine s_y (y_move rfl) rfl rfl rfl rfl ?_
  refine s_no rfl rfl rfl ?_
  refine s_no rfl rfl rfl ?_
  refine s_no rfl rfl rfl ?_
  refine s_no rfl rfl rfl ?_
  refine s_y (y_pick_t rfl rfl) rfl rfl rfl rfl ?_
  refine s_nil ?_
  refine g_then ?_
  refine g_cond_t rfl ?_
  refine g_seq ?_
  refine g_region ?_
  refine s_y (y_move rfl) rfl rfl rfl rfl ?_
  refine s_y (y_eql_t rfl rfl (by decide)) rfl rfl rfl rfl ?_
  refine s_y (y_move rfl) rfl rfl rfl rfl ?_
  refine s_tr (t_call rfl rfl ent_20 (fun w h => awake_t w)) rfl rfl rfl rfl (fun _ _ => ?_)
  refine s_y (y_pick_t rfl rfl) rfl rfl rfl rfl ?_
  refine s_y (y_assign rfl) rfl rfl rfl rfl ?_
  refine s_nil ?_
  refine g_then ?_
  refine g_ret ?_
  refine g_thenr ?_
  exact g_end trivial (fun a w ha hq_ => res1 ha rfl rfl  w) (fun w h => ⟨rfl, h.below⟩)

theorem WheelsSums_no2 (w : World) (n c : Int) (lv : Value) (ls : List Int) (hl : RdV (Value.int .i64) w lv ls) (hm : ls.length ≤ 9223372036854775807) (hno : ¬ (okC n c ∧ (∀ s ∈ ls, okC n s) ∧ ls.length ≤ 10)) (hv1 : okC n c) :
    Calls Try.prog 16 [.int .i64 n, .int .i64 c, lv].toArray w fun e w' => e = .returned (.bool true) ∧ Below w.heap.size w w' := by
  refine enter (N := 168) Try.func16 rfl rfl rfl ?_
  refine g_seq ?_
  refine g_region ?_
  refine s_y (y_assign rfl) rfl rfl rfl rfl ?_
  refine s_nil ?_
  refine g_then ?_
  refine g_seq ?_
  refine g_region ?_
  refine s_y (y_move rfl) rfl rfl rfl rfl ?_
  refine s_y (y_move rfl) rfl rfl rfl rfl ?_
  refine s_y (y_move rfl) rfl rfl rfl rfl ?_
  refine s_tr (t_callm rfl rfl ent_27 (fun w h => list_any w _ ls (hl.below h.below))) rfl rfl rfl rfl (fun x2 hx3 => ?_)
  obtain ⟨vo1, mo1⟩ := x2
  obtain ⟨hOo1, hEo1⟩ := hx3
  refine s_tr (t_call rfl rfl ent_44 (fun w h => Solve_no w n c _ ls (hOo1.rd fun p hp => h.at_ p (mem_al mo1 hp)) hno)) rfl rfl rfl rfl (fun _ _ => ?_)
  refine s_y (y_move rfl) rfl rfl rfl rfl ?_
  refine s_y (y_extract rfl rfl) rfl rfl rfl rfl ?_
  refine s_y (y_extract rfl rfl) rfl rfl rfl rfl ?_
  refine s_y (y_assign rfl) rfl rfl rfl rfl ?_
  refine s_y (y_assign rfl) rfl rfl rfl rfl ?_
  refine s_nil ?_
  refine g_then ?_
  refine g_seq ?_
  refine g_seq ?_
  refine g_region ?_
  refine s_y (y_move rfl) rfl rfl rfl rfl ?_
  refine s_y (y_move rfl) rfl rfl rfl rfl ?_
  refine s_tr (t_call rfl rfl ent_24 (fun w h => Valid_tI w n c hv1)) rfl rfl rfl rfl (fun _ _ => ?_)
  refine s_y (y_not_t rfl) rfl rfl rfl rfl ?_
  refine s_y (y_move rfl) rfl rfl rfl rfl ?_
  refine s_y (y_move rfl) rfl rfl rfl rfl ?_
  refine s_y (y_move rfl) rfl rfl rfl rfl ?_
  refine s_tr (t_call rfl rfl ent_45 (fun w h => RList_f w n _ ls (hl.below h.below) hm (fun h_ => hno ⟨hv1, h_⟩))) rfl rfl rfl rfl (fun _ _ => ?_)
  refine s_y (y_not_f rfl) rfl rfl rfl rfl ?_
  refine s_y (y_pick_f rfl rfl) rfl rfl rfl rfl ?_
  refine s_nil ?_
  refine g_then ?_
  refine g_cond_t rfl ?_
  refine g_seq ?_
  refine g_region ?_
  refine s_y (y_move rfl) rfl rfl rfl rfl ?_
  refine s_y (y_eql_t rfl rfl (by decide)) rfl rfl rfl rfl ?_
  refine s_y (y_move rfl) rfl rfl rfl rfl ?_
  refine s_tr (t_call rfl rfl ent_20 (fun w h => awake_t w)) rfl rfl rfl rfl (fun _ _ => ?_)
  refine s_y (y_pick_t rfl rfl) rfl rfl rfl rfl ?_
  refine s_y (y_assign rfl) rfl rfl rfl rfl ?_
  refine s_nil ?_
  refine g_then ?_
  refine g_ret ?_
  refine g_thenr ?_
  exact g_end trivial (fun a w ha hq_ => res1 ha rfl rfl  w) (fun w h => ⟨rfl, h.below⟩)

theorem WheelsSums_law (w : World) (n c : Int) (lv : Value) (ls : List Int) (_ : (Lit.int .i64 n).wf = true) (_ : (Lit.int .i64 c).wf = true) (hl : RdV (Value.int .i64) w lv ls) (hm : ls.length ≤ maxLen) (_ : ∀ x ∈ ls, (Lit.int .i64 x).wf = true) : Calls Try.prog 16 [.int .i64 n, .int .i64 c, lv].toArray w fun e w' => e = .returned (.bool true) ∧ Below w.heap.size w w' := by
  have hm' : ls.length ≤ 9223372036854775807 := by unfold maxLen at hm; omega
  by_cases h : okC n c ∧ (∀ s ∈ ls, okC n s) ∧ ls.length ≤ 10
  · have h1 := h.1.1.1
    have h2 := h.1.1.2
    obtain ⟨p, rfl⟩ := Int.eq_ofNat_of_zero_le (show 0 ≤ n by omega)
    obtain ⟨x, rfl⟩ := Int.eq_ofNat_of_zero_le h.1.2.1
    have hcs : ∀ s ∈ [(x : Int)] ++ ls, 0 ≤ s ∧ s < 2 ^ p := fun s hs => by
      rcases List.mem_append.1 hs with h3 | h3
      · rw [List.mem_singleton.1 h3]; exact h.1.2
      · exact (h.2.1 s h3).2
    by_cases h0 : x = 0
    · exact WheelsSums_zero w p (by omega) (by omega) x lv ls hl hcs h.2.2 h0
    · cases hs : sch ls ls.length 0 x with
      | none => exact WheelsSums_none w p (by omega) (by omega) x lv ls hl hcs h.2.2 h0 hs
      | some r => exact WheelsSums_some w p (by omega) (by omega) x lv ls hl hcs h.2.2 r h0 hs
  · by_cases hv : okC n c
    · exact WheelsSums_no2 w n c lv ls hl hm' h hv
    · exact WheelsSums_no1 w n c lv ls hl hm' h hv

end Go.Proofs.Ytncenmgkdodioaa
