/- wheels: the reference's solve. -/
import Derived.Test.YtncenmgkdodioaaWhS
import Derived.Test.YtncenmgkdodioaaWhSol
namespace Go.Proofs.Ytncenmgkdodioaa
open Go.RowKit Go.Sx Go.Wh Go.Dft
set_option linter.unusedVariables false
set_option linter.unusedSimpArgs false
set_option maxRecDepth 100000
set_option maxHeartbeats 4000000

private theorem sle_32 : Try.prog.underlying 32 = some (.slice (Try.prog.elem 32)) := by kernel_rfl
private theorem size_3 : (Try.prog.info? 3).map (·.size) = some 1 := by kernel_rfl
private theorem agg_3 : isAggB Try.prog 3 = some false := by kernel_rfl
private theorem inf_3 : ∃ ie, Try.prog.info? 3 = some ie ∧ ie.zero = some (.int .i64 0) ∧ ie.size = 1 ∧ ie.bytes = 8 := info_of (by kernel_rfl) (by kernel_rfl)
private theorem ent_70 : Enters Try.prog 70 := enters_of Try.func70 (by kernel_rfl) rfl

theorem Rsolve_0 (w : World) (tg th fr : Nat) (lv : Value) (ls : List Int) (A : Option Addr) (cp : Nat) (xs : List Int) (hl : RdV (Value.int .i64) w lv ls) (hv : RdV (Value.int .i64) w (.slice A xs.length cp) xs) (hls : ∀ s ∈ ls, 0 ≤ s ∧ s < 65536) (hll : ls.length ≤ 1000) (htg : tg < 65536) (hth : wo th tg = 0) (hfr : fr ≤ ls.length) (hxl : xs.length + (ls.length - fr) ≤ 1000) (hd : th = tg) :
    Calls Try.prog 70 [.int .i64 (tg : Int), .int .i64 (th : Int), lv, .int .i64 (fr : Int), .slice A xs.length cp].toArray w fun e w' => e = .returned (.tuple #[.slice A xs.length cp, .bool true]) ∧ Below w.heap.size w w' := by
  refine enter (N := 67) Try.func70 rfl rfl rfl ?_
  refine g_seq ?_
  refine g_region ?_
  refine s_y (y_assign rfl) rfl rfl rfl rfl ?_
  refine s_y (y_assign rfl) rfl rfl rfl rfl ?_
  refine s_nil ?_
  refine g_then ?_
  refine g_seq ?_
  refine g_seq ?_
  refine g_region ?_
  refine s_y (y_move rfl) rfl rfl rfl rfl ?_
  refine s_y (y_move rfl) rfl rfl rfl rfl ?_
  refine s_y (y_eql_t rfl rfl (by omega)) rfl rfl rfl rfl ?_
  refine s_nil ?_
  refine g_then ?_
  refine g_cond_t rfl ?_
  refine g_seq ?_
  refine g_region ?_
  refine s_y (y_move rfl) rfl rfl rfl rfl ?_
  refine s_y (y_assign rfl) rfl rfl rfl rfl ?_
  refine s_y (y_assign rfl) rfl rfl rfl rfl ?_
  refine s_nil ?_
  refine g_then ?_
  refine g_ret ?_
  refine g_thenr ?_
  exact g_end trivial (fun a w ha hq_ => res2 ha rfl rfl rfl  w) (fun w h => ⟨rfl, h.below⟩)

theorem Rsolve_none (w : World) (tg th fr : Nat) (lv : Value) (ls : List Int) (A : Option Addr) (cp : Nat) (xs : List Int) (hl : RdV (Value.int .i64) w lv ls) (hv : RdV (Value.int .i64) w (.slice A xs.length cp) xs) (hls : ∀ s ∈ ls, 0 ≤ s ∧ s < 65536) (hll : ls.length ≤ 1000) (htg : tg < 65536) (hth : wo th tg = 0) (hfr : fr ≤ ls.length) (hxl : xs.length + (ls.length - fr) ≤ 1000) (IH2 : ∀ (W : World) (th' i' : Nat) (A' : Option Addr) (c' : Nat) (ys : List Int), fr < i' → i' ≤ ls.length → RdV (Value.int .i64) W lv ls → RdV (Value.int .i64) W (.slice A' ys.length c') ys → wo th' tg = 0 → ys.length + (ls.length - i') ≤ 1000 → sch ls (ls.length - i') i' (wo tg th') = none → Calls Try.prog 70 [.int .i64 (tg : Int), .int .i64 (th' : Nat), lv, .int .i64 (i' : Nat), (.slice A' ys.length c')].toArray W fun e w' => e = .returned (.tuple #[.slice none 0 0, .bool false]) ∧ Below W.heap.size W w') (hnone : sch ls (ls.length - fr) fr (wo tg th) = none) :
    Calls Try.prog 70 [.int .i64 (tg : Int), .int .i64 (th : Int), lv, .int .i64 (fr : Int), .slice A xs.length cp].toArray w fun e w' => e = .returned (.tuple #[.slice none 0 0, .bool false]) ∧ Below w.heap.size w w' := by
  have hthl := wo_le hth
  obtain ⟨hcp, hvf⟩ : xs.length ≤ cp ∧ RdV (Value.int .i64) w (.slice A xs.length xs.length) xs := by
    obtain ⟨A_, c_, e_, hc_, hr_⟩ := id hv
    simp only [Value.slice.injEq, true_and] at e_
    obtain ⟨rfl, rfl⟩ := e_
    exact ⟨hc_, A, xs.length, rfl, Nat.le_refl _, hr_⟩
  have hld : (wo tg th) ≠ 0 := fun h_ => by rw [h_, sch_left] at hnone; cases hnone
  obtain ⟨ie3, hi3⟩ := inf_3
  refine enter (N := 67) Try.func70 rfl rfl rfl ?_
  refine g_seq ?_
  refine g_region ?_
  refine s_y (y_assign rfl) rfl rfl rfl rfl ?_
  refine s_y (y_assign rfl) rfl rfl rfl rfl ?_
  refine s_nil ?_
  refine g_then ?_
  refine g_seq ?_
  refine g_seq ?_
  refine g_region ?_
  refine s_y (y_move rfl) rfl rfl rfl rfl ?_
  refine s_y (y_move rfl) rfl rfl rfl rfl ?_
  refine s_y (y_eql_f rfl rfl (by intro he; exact hld ((ref_done hth).1 (by omega)))) rfl rfl rfl rfl ?_
  refine s_nil ?_
  refine g_then ?_
  refine g_cond_f rfl ?_
  refine g_skip ?_
  refine g_then ?_
  refine g_seq ?_
  refine g_seq ?_
  refine g_region ?_
  refine s_y (y_move rfl) rfl rfl rfl rfl ?_
  refine s_y (y_assign rfl) rfl rfl rfl rfl ?_
  refine s_nil ?_
  refine g_then ?_
  refine g_block ?_
  refine g_loop (fun (i : Nat) act W => (fr ≤ i ∧ i ≤ ls.length) ∧ ∃ (w1 : World), (sch ls (ls.length - i) i (wo tg th) = none) ∧ Has 67 [] [(0, .int .i64 (tg : Int)), (1, .int .i64 (th : Int)), (2, lv), (4, .slice A xs.length cp), (12, .int .i64 (i : Int))] act ∧ Hp w w1 ([]) W) (fun i => ls.length - i) fr (fun act W ha hw => ⟨⟨Nat.le_refl _, hfr⟩, W, (by exact hnone), ha.weak (sub_get ⟨rfl, rfl, rfl, rfl, rfl, trivial⟩), hw.toHq.lookSub (List.Sublist.refl _)⟩) ?_
  intro i act W ⟨hb_i, w1, hsch, ha, hw⟩
  refine g_go ha hw ?_
  clear ha hw act W
  refine g_seq ?_
  refine g_seq ?_
  refine g_region ?_
  refine s_y (y_move rfl) rfl rfl rfl rfl ?_
  refine s_y (y_move rfl) rfl rfl rfl rfl ?_
  refine s_y (y_lenV (n := ls.length) rfl (by obtain ⟨A, c, h1, _⟩ := hl; exact ⟨A, c, h1⟩) sle_32) rfl rfl rfl rfl ?_
  refine s_y (y_lss rfl rfl) rfl rfl rfl rfl ?_
  refine s_nil ?_
  refine g_then ?_
  refine g_cond rfl (fun cq1 => ?_) (fun cq1 => ?_)
  · (try simp at cq1)
    refine g_skip ?_
    refine g_then ?_
    refine g_seq ?_
    refine g_block ?_
    refine g_seq ?_
    have hci := hls _ (rdI_mem (xs := ls) (i := (i : Int)) (by omega) (by omega))
    obtain ⟨k, hk⟩ : ∃ k, ls.length - i = k + 1 := ⟨ls.length - i - 1, by omega⟩
    have hk2 : ls.length - (i + 1) = k := by omega
    rw [hk] at hsch
    refine g_region ?_
    refine s_y (y_move rfl) rfl rfl rfl rfl ?_
    refine s_y (y_move rfl) rfl rfl rfl rfl ?_
    refine s_y (y_idxV (enc := (Value.int .i64)) rfl rfl hl Try.underlying32 size_3 (by omega) (by omega)) rfl rfl rfl rfl ?_
    refine s_y (y_ldV (enc := (Value.int .i64)) (xs := ls) (fun w h => hl.rdl.below h.below) rfl agg_3 (rdI_at (by omega) (by omega))) rfl rfl rfl rfl ?_
    refine s_y (y_move rfl) rfl rfl rfl rfl ?_
    refine s_y (y_and rfl rfl (by omega) (by omega)) rfl rfl rfl rfl ?_
    refine s_y (y_eql rfl rfl) rfl rfl rfl rfl ?_
    refine s_y (y_move rfl) rfl rfl rfl rfl ?_
    refine g_bool 33 rfl (fun cq2 => ?_) (fun cq2 => ?_)
    · (try simp at cq2)
      have hf1 : (rdI ls (i : Int)).toNat &&& th = 0 := by simpa using cq2
      refine s_y (y_move rfl) rfl rfl rfl rfl ?_
      refine s_y (y_move rfl) rfl rfl rfl rfl ?_
      refine s_y (y_idxV (enc := (Value.int .i64)) rfl rfl hl Try.underlying32 size_3 (by omega) (by omega)) rfl rfl rfl rfl ?_
      refine s_y (y_ldV (enc := (Value.int .i64)) (xs := ls) (fun w h => hl.rdl.below h.below) rfl agg_3 (rdI_at (by omega) (by omega))) rfl rfl rfl rfl ?_
      refine s_y (y_move rfl) rfl rfl rfl rfl ?_
      refine s_y (y_andnot rfl rfl (by omega) (by omega)) rfl rfl rfl rfl ?_
      refine s_y (y_eql rfl rfl) rfl rfl rfl rfl ?_
      refine s_y (y_pick_t rfl rfl) rfl rfl rfl rfl ?_
      refine s_nil ?_
      refine g_then ?_
      refine g_cond rfl (fun cq3 => ?_) (fun cq3 => ?_)
      · (try simp at cq3)
        have hf2 : wo (rdI ls (i : Int)).toNat tg = 0 := by unfold wo; simpa using cq3
        have hfit := ref_fit.1 ⟨hf1, hf2⟩
        have hin0 : sch ls k (i + 1) (wo (wo tg th) (rdI ls (i : Int)).toNat) = none := by
          cases hs : sch ls k (i + 1) (wo (wo tg th) (rdI ls (i : Int)).toNat) with
          | none => rfl
          | some r => rw [sch_fit hld hfit hs] at hsch; cases hsch
        have hnext : sch ls (ls.length - (i + 1)) (i + 1) (wo tg th) = none := by rw [hk2]; rw [sch_fitno hld hfit hin0] at hsch; exact hsch
        have hin : sch ls (ls.length - (i + 1)) (i + 1) (wo tg (th ||| (rdI ls (i : Int)).toNat)) = none := by rw [hk2, ref_left]; exact hin0
        refine g_seq ?_
        refine g_draw 19 (by kernel_rfl) ?_
        refine j_p (i := 0) rfl (y_move rfl) (by kernel_rfl) (by kernel_rfl) (by kernel_rfl) rfl rfl rfl rfl rfl (.inr (fun _ h => h)) ?_
        refine j_p (i := 1) rfl (y_move rfl) (by kernel_rfl) (by kernel_rfl) (by kernel_rfl) rfl rfl rfl rfl rfl (.inr (fun _ h => h)) ?_
        refine j_p (i := 2) rfl (y_move rfl) (by kernel_rfl) (by kernel_rfl) (by kernel_rfl) rfl rfl rfl rfl rfl (.inr (fun _ h => h)) ?_
        refine j_p (i := 3) rfl (y_move rfl) (by kernel_rfl) (by kernel_rfl) (by kernel_rfl) rfl rfl rfl rfl rfl (.inr (fun _ h => h)) ?_
        refine j_p (i := 4) rfl (y_idxV (enc := (Value.int .i64)) rfl rfl hl Try.underlying32 size_3 (by omega) (by omega)) (by kernel_rfl) (by kernel_rfl) (by kernel_rfl) rfl rfl rfl rfl rfl (.inr (fun _ h => h)) ?_
        refine j_l (i := 5) rfl (y_ldV (enc := (Value.int .i64)) (xs := ls) (fun w h => hl.rdl.below h.below) rfl agg_3 (rdI_at (by omega) (by omega))) (by kernel_rfl) (by kernel_rfl) (by kernel_rfl) (by kernel_rfl) rfl rfl rfl rfl rfl (.inr (fun _ h => h)) ?_
        refine j_p (i := 6) rfl (y_or rfl rfl (by omega) (by omega)) (by kernel_rfl) (by kernel_rfl) (by kernel_rfl) rfl rfl rfl rfl rfl (.inr (fun _ h => h)) ?_
        refine j_p (i := 7) rfl (y_move rfl) (by kernel_rfl) (by kernel_rfl) (by kernel_rfl) rfl rfl rfl rfl rfl (.inr (fun _ h => h)) ?_
        refine j_p (i := 8) rfl (y_move rfl) (by kernel_rfl) (by kernel_rfl) (by kernel_rfl) rfl rfl rfl rfl rfl (.inr (fun _ h => h)) ?_
        refine j_p (i := 9) rfl (y_add rfl rfl (by omega) (by omega)) (by kernel_rfl) (by kernel_rfl) (by kernel_rfl) rfl rfl rfl rfl rfl (.inr (fun _ h => h)) ?_
        refine j_p (i := 10) rfl (y_move rfl) (by kernel_rfl) (by kernel_rfl) (by kernel_rfl) rfl rfl rfl rfl rfl (.inr (fun _ h => h)) ?_
        refine j_p (i := 11) rfl (y_move rfl) (by kernel_rfl) (by kernel_rfl) (by kernel_rfl) rfl rfl rfl rfl rfl (.inr (fun _ h => h)) ?_
        refine j_p (i := 12) rfl (y_lenV (n := xs.length) rfl (by obtain ⟨A, c, h1, _⟩ := hv; exact ⟨A, c, h1⟩) sle_32) (by kernel_rfl) (by kernel_rfl) (by kernel_rfl) rfl rfl rfl rfl rfl (.inr (fun _ h => h)) ?_
        refine j_p (i := 13) rfl (y_move rfl) (by kernel_rfl) (by kernel_rfl) (by kernel_rfl) rfl rfl rfl rfl rfl (.inr (fun _ h => h)) ?_
        refine j_p (i := 14) rfl (y_lenV (n := xs.length) rfl (by obtain ⟨A, c, h1, _⟩ := hv; exact ⟨A, c, h1⟩) sle_32) (by kernel_rfl) (by kernel_rfl) (by kernel_rfl) rfl rfl rfl rfl rfl (.inr (fun _ h => h)) ?_
        refine j_p (i := 15) rfl (y_full rfl rfl rfl hcp Try.underlying32 hi3.1 hi3.2.2.1) (by kernel_rfl) (by kernel_rfl) (by kernel_rfl) rfl rfl rfl rfl rfl (.inr (fun _ h => h)) ?_
        refine j_p (i := 16) rfl (y_move rfl) (by kernel_rfl) (by kernel_rfl) (by kernel_rfl) rfl rfl rfl rfl rfl (.inr (fun _ h => h)) ?_
        refine j_tr (i := 17) rfl (t_build (vs := [(0, .int .i64 (i : Int))]) (cells := [.int .i64 (i : Int)]) rfl rfl Try.underlying32 hi3.1 hi3.2.1 (by rw [hi3.2.2.1]; rfl) (by rw [hi3.2.2.1]; rfl) (by rw [hi3.2.2.1]; kernel_rfl)) (by kernel_rfl) rfl rfl rfl rfl (.inr (fun x w hb h => (h.tail hb.2))) (fun bn hbn => ?_)
        refine j_tr (i := 18) rfl (t_appendN (enc := (Value.int .i64)) (xs := xs) (v := (i : Int)) rfl rfl Try.underlying32 hi3.1 hi3.2.1 hi3.2.2.1 hi3.2.2.2 rfl (fun w h => hvf.below h.below) (fun w h => h.toHq.cell (i := 0) rfl rfl) rfl (by omega) (by unfold maxLen; omega)) (by kernel_rfl) rfl rfl rfl rfl (.inr (fun x w hb h => ((sv_tail hb.2 h).tail hbn.2))) (fun svn hokn' => ?_)
        have hokn := hokn'.1
        obtain ⟨cn, hcn⟩ := sv_slice hokn
        have hln : (xs ++ [(i : Int)]).length = xs.length + 1 := by simp
        refine j_tr (i := 19) rfl (t_call rfl rfl ent_70 (fun w h => by have h_ := IH2 w (th ||| (rdI ls (i : Int)).toNat) (i + 1) _ cn (xs ++ [(i : Int)]) (by omega) (by omega) (hl.below h.below) (by rw [hln, ← hcn]; exact (RdV.sv (e := 3) hokn fun p hp => h.at_ p (mem_al (svn.mem 3 ((xs ++ [(i : Int)]).map (Value.int .i64))) hp))) (ref_sub hth hf2) (by rw [hln]; omega) hin; rw [hln, ← hcn] at h_; exact h_)) (by kernel_rfl) rfl rfl rfl rfl (.inl rfl) (fun _ _ => ?_)
        refine j_p (i := 20) rfl (y_move rfl) (by kernel_rfl) (by kernel_rfl) (by kernel_rfl) rfl rfl rfl rfl rfl (.inl rfl) ?_
        refine j_p (i := 21) rfl (y_extract rfl rfl) (by kernel_rfl) (by kernel_rfl) (by kernel_rfl) rfl rfl rfl rfl rfl (.inl rfl) ?_
        refine j_p (i := 22) rfl (y_extract rfl rfl) (by kernel_rfl) (by kernel_rfl) (by kernel_rfl) rfl rfl rfl rfl rfl (.inl rfl) ?_
        refine j_p (i := 23) rfl (y_assign rfl) (by kernel_rfl) (by kernel_rfl) (by kernel_rfl) rfl rfl rfl rfl rfl (.inl rfl) ?_
        refine j_p (i := 24) rfl (y_assign rfl) (by kernel_rfl) (by kernel_rfl) (by kernel_rfl) rfl rfl rfl rfl rfl (.inl rfl) ?_
        refine j_nil (by kernel_rfl) ?_
        refine g_then ?_
        refine g_seq ?_
        refine g_region ?_
        refine s_y (y_move rfl) rfl rfl rfl rfl ?_
        refine s_nil ?_
        refine g_then ?_
        refine g_cond_f rfl ?_
        refine g_skip ?_
        refine g_inb ?_
        refine g_then ?_
        refine g_region ?_
        refine s_y (y_move rfl) rfl rfl rfl rfl ?_
        refine s_y (y_add rfl rfl (by omega) (by omega)) rfl rfl rfl rfl ?_
        refine s_y (y_assign rfl) rfl rfl rfl rfl ?_
        refine s_nil ?_
        refine g_then ?_
        exact fun act W ha hw => ⟨i + 1, by omega, ⟨by omega, by omega⟩, W, (by exact hnext), ha.weak (sub_get ⟨rfl, rfl, rfl, rfl, rfl, trivial⟩), hw.toHq.lookSub (List.nil_sublist _)⟩
      · (try simp at cq3)
        have hskip : wo (rdI ls (i : Int)).toNat (wo tg th) ≠ 0 := fun h_ => cq3 (by have h2_ := (ref_fit.2 h_).2; unfold wo at h2_; simpa using h2_)
        have hnext : sch ls (ls.length - (i + 1)) (i + 1) (wo tg th) = none := by rw [hk2]; rw [sch_skip hld hskip] at hsch; exact hsch
        refine g_skip ?_
        refine g_inb ?_
        refine g_then ?_
        refine g_region ?_
        refine s_y (y_move rfl) rfl rfl rfl rfl ?_
        refine s_y (y_add rfl rfl (by omega) (by omega)) rfl rfl rfl rfl ?_
        refine s_y (y_assign rfl) rfl rfl rfl rfl ?_
        refine s_nil ?_
        refine g_then ?_
        exact fun act W ha hw => ⟨i + 1, by omega, ⟨by omega, by omega⟩, W, (by exact hnext), ha.weak (sub_get ⟨rfl, rfl, rfl, rfl, rfl, trivial⟩), hw.toHq.lookSub (List.Sublist.refl _)⟩
    · (try simp at cq2)
      have hskip : wo (rdI ls (i : Int)).toNat (wo tg th) ≠ 0 := fun h_ => cq2 (by simpa using (ref_fit.2 h_).1)
      have hnext : sch ls (ls.length - (i + 1)) (i + 1) (wo tg th) = none := by rw [hk2]; rw [sch_skip hld hskip] at hsch; exact hsch
      refine s_no rfl rfl rfl ?_
      refine s_no rfl rfl rfl ?_
      refine s_no rfl rfl rfl ?_
      refine s_no rfl rfl rfl ?_
      refine s_no rfl rfl rfl ?_
      refine s_no rfl rfl rfl ?_
      refine s_no rfl rfl rfl ?_
      refine s_y (y_pick_f rfl rfl) rfl rfl rfl rfl ?_
      refine s_nil ?_
      refine g_then ?_
      refine g_cond_f rfl ?_
      refine g_skip ?_
      refine g_inb ?_
      refine g_then ?_
      refine g_region ?_
      refine s_y (y_move rfl) rfl rfl rfl rfl ?_
      refine s_y (y_add rfl rfl (by omega) (by omega)) rfl rfl rfl rfl ?_
      refine s_y (y_assign rfl) rfl rfl rfl rfl ?_
      refine s_nil ?_
      refine g_then ?_
      exact fun act W ha hw => ⟨i + 1, by omega, ⟨by omega, by omega⟩, W, (by exact hnext), ha.weak (sub_get ⟨rfl, rfl, rfl, rfl, rfl, trivial⟩), hw.toHq.lookSub (List.Sublist.refl _)⟩
  · (try simp at cq1)
    refine g_exit ?_
    refine g_thenx ?_
    refine g_thenx ?_
    refine g_inbx ?_
    refine g_then ?_
    refine g_seq ?_
    refine g_region ?_
    refine s_y (y_assign rfl) rfl rfl rfl rfl ?_
    refine s_y (y_assign rfl) rfl rfl rfl rfl ?_
    refine s_nil ?_
    refine g_then ?_
    refine g_ret ?_
    exact g_end trivial (fun a w ha hq_ => res2 ha rfl rfl rfl  w) (fun w h => ⟨rfl, h.below⟩)

theorem Rsolve_some (w : World) (tg th fr : Nat) (lv : Value) (ls : List Int) (A : Option Addr) (cp : Nat) (xs : List Int) (hl : RdV (Value.int .i64) w lv ls) (hv : RdV (Value.int .i64) w (.slice A xs.length cp) xs) (hls : ∀ s ∈ ls, 0 ≤ s ∧ s < 65536) (hll : ls.length ≤ 1000) (htg : tg < 65536) (hth : wo th tg = 0) (hfr : fr ≤ ls.length) (hxl : xs.length + (ls.length - fr) ≤ 1000) (IH1 : ∀ (W : World) (th' i' : Nat) (A' : Option Addr) (c' : Nat) (ys : List Int), fr < i' → i' ≤ ls.length → RdV (Value.int .i64) W lv ls → RdV (Value.int .i64) W (.slice A' ys.length c') ys → wo th' tg = 0 → ys.length + (ls.length - i') ≤ 1000 → ∀ r', wo tg th' ≠ 0 → sch ls (ls.length - i') i' (wo tg th') = some r' → Calls Try.prog 70 [.int .i64 (tg : Int), .int .i64 (th' : Nat), lv, .int .i64 (i' : Nat), (.slice A' ys.length c')].toArray W fun e w' => ∃ x : Value × List (Nat × Obj), (OwnV (Value.int .i64) x.1 (ys ++ r') x.2 ∧ ∃ W' : World, ∀ p ∈ x.2, W'.heap[p.1]? = some p.2) ∧ e = .returned (.tuple #[x.1, .bool true]) ∧ Hq W W x.2 w') (IH2 : ∀ (W : World) (th' i' : Nat) (A' : Option Addr) (c' : Nat) (ys : List Int), fr < i' → i' ≤ ls.length → RdV (Value.int .i64) W lv ls → RdV (Value.int .i64) W (.slice A' ys.length c') ys → wo th' tg = 0 → ys.length + (ls.length - i') ≤ 1000 → sch ls (ls.length - i') i' (wo tg th') = none → Calls Try.prog 70 [.int .i64 (tg : Int), .int .i64 (th' : Nat), lv, .int .i64 (i' : Nat), (.slice A' ys.length c')].toArray W fun e w' => e = .returned (.tuple #[.slice none 0 0, .bool false]) ∧ Below W.heap.size W w') (r : List Int) (hld : (wo tg th) ≠ 0) (hsome : sch ls (ls.length - fr) fr (wo tg th) = some r) :
    Calls Try.prog 70 [.int .i64 (tg : Int), .int .i64 (th : Int), lv, .int .i64 (fr : Int), .slice A xs.length cp].toArray w fun e w' => ∃ x : Value × List (Nat × Obj), (OwnV (Value.int .i64) x.1 (xs ++ r) x.2 ∧ ∃ W' : World, ∀ p ∈ x.2, W'.heap[p.1]? = some p.2) ∧ e = .returned (.tuple #[x.1, .bool true]) ∧ Hq w w x.2 w' := by
  have hthl := wo_le hth
  obtain ⟨hcp, hvf⟩ : xs.length ≤ cp ∧ RdV (Value.int .i64) w (.slice A xs.length xs.length) xs := by
    obtain ⟨A_, c_, e_, hc_, hr_⟩ := id hv
    simp only [Value.slice.injEq, true_and] at e_
    obtain ⟨rfl, rfl⟩ := e_
    exact ⟨hc_, A, xs.length, rfl, Nat.le_refl _, hr_⟩
  obtain ⟨ie3, hi3⟩ := inf_3
  refine enter (N := 67) Try.func70 rfl rfl rfl ?_
  refine g_seq ?_
  refine g_region ?_
  refine s_y (y_assign rfl) rfl rfl rfl rfl ?_
  refine s_y (y_assign rfl) rfl rfl rfl rfl ?_
  refine s_nil ?_
  refine g_then ?_
  refine g_seq ?_
  refine g_seq ?_
  refine g_region ?_
  refine s_y (y_move rfl) rfl rfl rfl rfl ?_
  refine s_y (y_move rfl) rfl rfl rfl rfl ?_
  refine s_y (y_eql_f rfl rfl (by intro he; exact hld ((ref_done hth).1 (by omega)))) rfl rfl rfl rfl ?_
  refine s_nil ?_
  refine g_then ?_
  refine g_cond_f rfl ?_
  refine g_skip ?_
  refine g_then ?_
  refine g_seq ?_
  refine g_seq ?_
  refine g_region ?_
  refine s_y (y_move rfl) rfl rfl rfl rfl ?_
  refine s_y (y_assign rfl) rfl rfl rfl rfl ?_
  refine s_nil ?_
  refine g_then ?_
  refine g_block ?_
  refine g_loop (fun (i : Nat) act W => (fr ≤ i ∧ i ≤ ls.length) ∧ ∃ (w1 : World), (sch ls (ls.length - i) i (wo tg th) = some r) ∧ Has 67 [] [(0, .int .i64 (tg : Int)), (1, .int .i64 (th : Int)), (2, lv), (4, .slice A xs.length cp), (12, .int .i64 (i : Int))] act ∧ Hp w w1 ([]) W) (fun i => ls.length - i) fr (fun act W ha hw => ⟨⟨Nat.le_refl _, hfr⟩, W, (by exact hsome), ha.weak (sub_get ⟨rfl, rfl, rfl, rfl, rfl, trivial⟩), hw.toHq.lookSub (List.Sublist.refl _)⟩) ?_
  intro i act W ⟨hb_i, w1, hsch, ha, hw⟩
  refine g_go ha hw ?_
  clear ha hw act W
  refine g_seq ?_
  refine g_seq ?_
  refine g_region ?_
  refine s_y (y_move rfl) rfl rfl rfl rfl ?_
  refine s_y (y_move rfl) rfl rfl rfl rfl ?_
  refine s_y (y_lenV (n := ls.length) rfl (by obtain ⟨A, c, h1, _⟩ := hl; exact ⟨A, c, h1⟩) sle_32) rfl rfl rfl rfl ?_
  refine s_y (y_lss rfl rfl) rfl rfl rfl rfl ?_
  refine s_nil ?_
  refine g_then ?_
  refine g_cond rfl (fun cq1 => ?_) (fun cq1 => ?_)
  · (try simp at cq1)
    refine g_skip ?_
    refine g_then ?_
    refine g_seq ?_
    refine g_block ?_
    refine g_seq ?_
    have hci := hls _ (rdI_mem (xs := ls) (i := (i : Int)) (by omega) (by omega))
    obtain ⟨k, hk⟩ : ∃ k, ls.length - i = k + 1 := ⟨ls.length - i - 1, by omega⟩
    have hk2 : ls.length - (i + 1) = k := by omega
    rw [hk] at hsch
    refine g_region ?_
    refine s_y (y_move rfl) rfl rfl rfl rfl ?_
    refine s_y (y_move rfl) rfl rfl rfl rfl ?_
    refine s_y (y_idxV (enc := (Value.int .i64)) rfl rfl hl Try.underlying32 size_3 (by omega) (by omega)) rfl rfl rfl rfl ?_
    refine s_y (y_ldV (enc := (Value.int .i64)) (xs := ls) (fun w h => hl.rdl.below h.below) rfl agg_3 (rdI_at (by omega) (by omega))) rfl rfl rfl rfl ?_
    refine s_y (y_move rfl) rfl rfl rfl rfl ?_
    refine s_y (y_and rfl rfl (by omega) (by omega)) rfl rfl rfl rfl ?_
    refine s_y (y_eql rfl rfl) rfl rfl rfl rfl ?_
    refine s_y (y_move rfl) rfl rfl rfl rfl ?_
    refine g_bool 33 rfl (fun cq2 => ?_) (fun cq2 => ?_)
    · (try simp at cq2)
      have hf1 : (rdI ls (i : Int)).toNat &&& th = 0 := by simpa using cq2
      refine s_y (y_move rfl) rfl rfl rfl rfl ?_
      refine s_y (y_move rfl) rfl rfl rfl rfl ?_
      refine s_y (y_idxV (enc := (Value.int .i64)) rfl rfl hl Try.underlying32 size_3 (by omega) (by omega)) rfl rfl rfl rfl ?_
      refine s_y (y_ldV (enc := (Value.int .i64)) (xs := ls) (fun w h => hl.rdl.below h.below) rfl agg_3 (rdI_at (by omega) (by omega))) rfl rfl rfl rfl ?_
      refine s_y (y_move rfl) rfl rfl rfl rfl ?_
      refine s_y (y_andnot rfl rfl (by omega) (by omega)) rfl rfl rfl rfl ?_
      refine s_y (y_eql rfl rfl) rfl rfl rfl rfl ?_
      refine s_y (y_pick_t rfl rfl) rfl rfl rfl rfl ?_
      refine s_nil ?_
      refine g_then ?_
      refine g_cond rfl (fun cq3 => ?_) (fun cq3 => ?_)
      · (try simp at cq3)
        have hf2 : wo (rdI ls (i : Int)).toNat tg = 0 := by unfold wo; simpa using cq3
        have hfit := ref_fit.1 ⟨hf1, hf2⟩
        have way := sch_way hld hfit hsch
        rw [← hk2] at way
        have hrl : wo tg (th ||| (rdI ls (i : Int)).toNat) = wo (wo tg th) (rdI ls (i : Int)).toNat := ref_left
        rw [← hrl] at way
        refine g_seq ?_
        refine g_draw 19 (by kernel_rfl) ?_
        refine j_p (i := 0) rfl (y_move rfl) (by kernel_rfl) (by kernel_rfl) (by kernel_rfl) rfl rfl rfl rfl rfl (.inr (fun _ h => h)) ?_
        refine j_p (i := 1) rfl (y_move rfl) (by kernel_rfl) (by kernel_rfl) (by kernel_rfl) rfl rfl rfl rfl rfl (.inr (fun _ h => h)) ?_
        refine j_p (i := 2) rfl (y_move rfl) (by kernel_rfl) (by kernel_rfl) (by kernel_rfl) rfl rfl rfl rfl rfl (.inr (fun _ h => h)) ?_
        refine j_p (i := 3) rfl (y_move rfl) (by kernel_rfl) (by kernel_rfl) (by kernel_rfl) rfl rfl rfl rfl rfl (.inr (fun _ h => h)) ?_
        refine j_p (i := 4) rfl (y_idxV (enc := (Value.int .i64)) rfl rfl hl Try.underlying32 size_3 (by omega) (by omega)) (by kernel_rfl) (by kernel_rfl) (by kernel_rfl) rfl rfl rfl rfl rfl (.inr (fun _ h => h)) ?_
        refine j_l (i := 5) rfl (y_ldV (enc := (Value.int .i64)) (xs := ls) (fun w h => hl.rdl.below h.below) rfl agg_3 (rdI_at (by omega) (by omega))) (by kernel_rfl) (by kernel_rfl) (by kernel_rfl) (by kernel_rfl) rfl rfl rfl rfl rfl (.inr (fun _ h => h)) ?_
        refine j_p (i := 6) rfl (y_or rfl rfl (by omega) (by omega)) (by kernel_rfl) (by kernel_rfl) (by kernel_rfl) rfl rfl rfl rfl rfl (.inr (fun _ h => h)) ?_
        refine j_p (i := 7) rfl (y_move rfl) (by kernel_rfl) (by kernel_rfl) (by kernel_rfl) rfl rfl rfl rfl rfl (.inr (fun _ h => h)) ?_
        refine j_p (i := 8) rfl (y_move rfl) (by kernel_rfl) (by kernel_rfl) (by kernel_rfl) rfl rfl rfl rfl rfl (.inr (fun _ h => h)) ?_
        refine j_p (i := 9) rfl (y_add rfl rfl (by omega) (by omega)) (by kernel_rfl) (by kernel_rfl) (by kernel_rfl) rfl rfl rfl rfl rfl (.inr (fun _ h => h)) ?_
        refine j_p (i := 10) rfl (y_move rfl) (by kernel_rfl) (by kernel_rfl) (by kernel_rfl) rfl rfl rfl rfl rfl (.inr (fun _ h => h)) ?_
        refine j_p (i := 11) rfl (y_move rfl) (by kernel_rfl) (by kernel_rfl) (by kernel_rfl) rfl rfl rfl rfl rfl (.inr (fun _ h => h)) ?_
        refine j_p (i := 12) rfl (y_lenV (n := xs.length) rfl (by obtain ⟨A, c, h1, _⟩ := hv; exact ⟨A, c, h1⟩) sle_32) (by kernel_rfl) (by kernel_rfl) (by kernel_rfl) rfl rfl rfl rfl rfl (.inr (fun _ h => h)) ?_
        refine j_p (i := 13) rfl (y_move rfl) (by kernel_rfl) (by kernel_rfl) (by kernel_rfl) rfl rfl rfl rfl rfl (.inr (fun _ h => h)) ?_
        refine j_p (i := 14) rfl (y_lenV (n := xs.length) rfl (by obtain ⟨A, c, h1, _⟩ := hv; exact ⟨A, c, h1⟩) sle_32) (by kernel_rfl) (by kernel_rfl) (by kernel_rfl) rfl rfl rfl rfl rfl (.inr (fun _ h => h)) ?_
        refine j_p (i := 15) rfl (y_full rfl rfl rfl hcp Try.underlying32 hi3.1 hi3.2.2.1) (by kernel_rfl) (by kernel_rfl) (by kernel_rfl) rfl rfl rfl rfl rfl (.inr (fun _ h => h)) ?_
        refine j_p (i := 16) rfl (y_move rfl) (by kernel_rfl) (by kernel_rfl) (by kernel_rfl) rfl rfl rfl rfl rfl (.inr (fun _ h => h)) ?_
        refine j_tr (i := 17) rfl (t_build (vs := [(0, .int .i64 (i : Int))]) (cells := [.int .i64 (i : Int)]) rfl rfl Try.underlying32 hi3.1 hi3.2.1 (by rw [hi3.2.2.1]; rfl) (by rw [hi3.2.2.1]; rfl) (by rw [hi3.2.2.1]; kernel_rfl)) (by kernel_rfl) rfl rfl rfl rfl (.inr (fun x w hb h => (h.tail hb.2))) (fun bn hbn => ?_)
        refine j_tr (i := 18) rfl (t_appendN (enc := (Value.int .i64)) (xs := xs) (v := (i : Int)) rfl rfl Try.underlying32 hi3.1 hi3.2.1 hi3.2.2.1 hi3.2.2.2 rfl (fun w h => hvf.below h.below) (fun w h => h.toHq.cell (i := 0) rfl rfl) rfl (by omega) (by unfold maxLen; omega)) (by kernel_rfl) rfl rfl rfl rfl (.inr (fun x w hb h => ((sv_tail hb.2 h).tail hbn.2))) (fun svn hokn' => ?_)
        have hokn := hokn'.1
        obtain ⟨cn, hcn⟩ := sv_slice hokn
        have hln : (xs ++ [(i : Int)]).length = xs.length + 1 := by simp
        rcases way with ⟨hz0, hr_⟩ | ⟨r', hz1, hin, hr_⟩ | ⟨hin, hnext⟩
        · skip
          refine j_tr (i := 19) rfl (t_call rfl rfl ent_70 (fun w h => by have h_ := Rsolve_0 w tg (th ||| (rdI ls (i : Int)).toNat) (i + 1) lv ls _ cn (xs ++ [(i : Int)]) (hl.below h.below) (by rw [hln, ← hcn]; exact (RdV.sv (e := 3) hokn fun p hp => h.at_ p (mem_al (svn.mem 3 ((xs ++ [(i : Int)]).map (Value.int .i64))) hp))) hls hll htg (ref_sub hth hf2) (by omega) (by rw [hln]; omega) ((ref_done (ref_sub hth hf2)).2 hz0); rw [hln, ← hcn] at h_; exact h_)) (by kernel_rfl) rfl rfl rfl rfl (.inl rfl) (fun _ _ => ?_)
          refine j_p (i := 20) rfl (y_move rfl) (by kernel_rfl) (by kernel_rfl) (by kernel_rfl) rfl rfl rfl rfl rfl (.inl rfl) ?_
          refine j_p (i := 21) rfl (y_extract rfl rfl) (by kernel_rfl) (by kernel_rfl) (by kernel_rfl) rfl rfl rfl rfl rfl (.inl rfl) ?_
          refine j_p (i := 22) rfl (y_extract rfl rfl) (by kernel_rfl) (by kernel_rfl) (by kernel_rfl) rfl rfl rfl rfl rfl (.inl rfl) ?_
          refine j_p (i := 23) rfl (y_assign rfl) (by kernel_rfl) (by kernel_rfl) (by kernel_rfl) rfl rfl rfl rfl rfl (.inl rfl) ?_
          refine j_p (i := 24) rfl (y_assign rfl) (by kernel_rfl) (by kernel_rfl) (by kernel_rfl) rfl rfl rfl rfl rfl (.inl rfl) ?_
          refine j_nil (by kernel_rfl) ?_
          refine g_then ?_
          refine g_seq ?_
          refine g_region ?_
          refine s_y (y_move rfl) rfl rfl rfl rfl ?_
          refine s_nil ?_
          refine g_then ?_
          refine g_cond_t rfl ?_
          refine g_seq ?_
          refine g_region ?_
          refine s_y (y_move rfl) rfl rfl rfl rfl ?_
          refine s_y (y_assign rfl) rfl rfl rfl rfl ?_
          refine s_y (y_assign rfl) rfl rfl rfl rfl ?_
          refine s_nil ?_
          refine g_then ?_
          refine g_ret ?_
          refine g_inbr ?_
          refine g_thenr ?_
          refine g_thenr ?_
          refine g_inbr ?_
          refine g_thenr ?_
          rw [hr_]
          exact g_end trivial (fun a w ha hq_ => res2 ha rfl rfl rfl  w) (fun w h => ⟨(_, svn.mem 3 ((xs ++ [(i : Int)]).map (Value.int .i64))), ⟨(OwnV.sv hokn), w, (h.hand (sub_here (svn.mem 3 ((xs ++ [(i : Int)]).map (Value.int .i64))) _)).at_⟩, rfl, h.hand (sub_here (svn.mem 3 ((xs ++ [(i : Int)]).map (Value.int .i64))) _)⟩)
        · skip
          refine j_tr (i := 19) rfl (t_callm rfl rfl ent_70 (fun w h => by have h_ := IH1 w (th ||| (rdI ls (i : Int)).toNat) (i + 1) _ cn (xs ++ [(i : Int)]) (by omega) (by omega) (hl.below h.below) (by rw [hln, ← hcn]; exact (RdV.sv (e := 3) hokn fun p hp => h.at_ p (mem_al (svn.mem 3 ((xs ++ [(i : Int)]).map (Value.int .i64))) hp))) (ref_sub hth hf2) (by rw [hln]; omega) r' hz1 hin; rw [hln, ← hcn] at h_; exact h_)) (by kernel_rfl) rfl rfl rfl rfl (.inl rfl) (fun x5 hx6 => ?_)
          obtain ⟨vo4, mo4⟩ := x5
          obtain ⟨hOo4, hEo4⟩ := hx6
          refine j_p (i := 20) rfl (y_move rfl) (by kernel_rfl) (by kernel_rfl) (by kernel_rfl) rfl rfl rfl rfl rfl (.inl rfl) ?_
          refine j_p (i := 21) rfl (y_extract rfl rfl) (by kernel_rfl) (by kernel_rfl) (by kernel_rfl) rfl rfl rfl rfl rfl (.inl rfl) ?_
          refine j_p (i := 22) rfl (y_extract rfl rfl) (by kernel_rfl) (by kernel_rfl) (by kernel_rfl) rfl rfl rfl rfl rfl (.inl rfl) ?_
          refine j_p (i := 23) rfl (y_assign rfl) (by kernel_rfl) (by kernel_rfl) (by kernel_rfl) rfl rfl rfl rfl rfl (.inl rfl) ?_
          refine j_p (i := 24) rfl (y_assign rfl) (by kernel_rfl) (by kernel_rfl) (by kernel_rfl) rfl rfl rfl rfl rfl (.inl rfl) ?_
          refine j_nil (by kernel_rfl) ?_
          refine g_then ?_
          refine g_seq ?_
          refine g_region ?_
          refine s_y (y_move rfl) rfl rfl rfl rfl ?_
          refine s_nil ?_
          refine g_then ?_
          refine g_cond_t rfl ?_
          refine g_seq ?_
          refine g_region ?_
          refine s_y (y_move rfl) rfl rfl rfl rfl ?_
          refine s_y (y_assign rfl) rfl rfl rfl rfl ?_
          refine s_y (y_assign rfl) rfl rfl rfl rfl ?_
          refine s_nil ?_
          refine g_then ?_
          refine g_ret ?_
          refine g_inbr ?_
          refine g_thenr ?_
          refine g_thenr ?_
          refine g_inbr ?_
          refine g_thenr ?_
          rw [hr_, show xs ++ ((i : Int) :: r') = xs ++ [(i : Int)] ++ r' from by simp]
          exact g_end trivial (fun a w ha hq_ => res2 ha rfl rfl rfl  w) (fun w h => ⟨(_, mo4), ⟨hOo4, w, (h.hand (sub_here mo4 _)).at_⟩, rfl, h.hand (sub_here mo4 _)⟩)
        · skip
          refine j_tr (i := 19) rfl (t_call rfl rfl ent_70 (fun w h => by have h_ := IH2 w (th ||| (rdI ls (i : Int)).toNat) (i + 1) _ cn (xs ++ [(i : Int)]) (by omega) (by omega) (hl.below h.below) (by rw [hln, ← hcn]; exact (RdV.sv (e := 3) hokn fun p hp => h.at_ p (mem_al (svn.mem 3 ((xs ++ [(i : Int)]).map (Value.int .i64))) hp))) (ref_sub hth hf2) (by rw [hln]; omega) hin; rw [hln, ← hcn] at h_; exact h_)) (by kernel_rfl) rfl rfl rfl rfl (.inl rfl) (fun _ _ => ?_)
          refine j_p (i := 20) rfl (y_move rfl) (by kernel_rfl) (by kernel_rfl) (by kernel_rfl) rfl rfl rfl rfl rfl (.inl rfl) ?_
          refine j_p (i := 21) rfl (y_extract rfl rfl) (by kernel_rfl) (by kernel_rfl) (by kernel_rfl) rfl rfl rfl rfl rfl (.inl rfl) ?_
          refine j_p (i := 22) rfl (y_extract rfl rfl) (by kernel_rfl) (by kernel_rfl) (by kernel_rfl) rfl rfl rfl rfl rfl (.inl rfl) ?_
          refine j_p (i := 23) rfl (y_assign rfl) (by kernel_rfl) (by kernel_rfl) (by kernel_rfl) rfl rfl rfl rfl rfl (.inl rfl) ?_
          refine j_p (i := 24) rfl (y_assign rfl) (by kernel_rfl) (by kernel_rfl) (by kernel_rfl) rfl rfl rfl rfl rfl (.inl rfl) ?_
          refine j_nil (by kernel_rfl) ?_
          refine g_then ?_
          refine g_seq ?_
          refine g_region ?_
          refine s_y (y_move rfl) rfl rfl rfl rfl ?_
          refine s_nil ?_
          refine g_then ?_
          refine g_cond_f rfl ?_
          refine g_skip ?_
          refine g_inb ?_
          refine g_then ?_
          refine g_region ?_
          refine s_y (y_move rfl) rfl rfl rfl rfl ?_
          refine s_y (y_add rfl rfl (by omega) (by omega)) rfl rfl rfl rfl ?_
          refine s_y (y_assign rfl) rfl rfl rfl rfl ?_
          refine s_nil ?_
          refine g_then ?_
          exact fun act W ha hw => ⟨i + 1, by omega, ⟨by omega, by omega⟩, W, (by exact hnext), ha.weak (sub_get ⟨rfl, rfl, rfl, rfl, rfl, trivial⟩), hw.toHq.lookSub (List.nil_sublist _)⟩
      · (try simp at cq3)
        have hskip : wo (rdI ls (i : Int)).toNat (wo tg th) ≠ 0 := fun h_ => cq3 (by have h2_ := (ref_fit.2 h_).2; unfold wo at h2_; simpa using h2_)
        have hnext : sch ls (ls.length - (i + 1)) (i + 1) (wo tg th) = some r := by rw [hk2]; rw [sch_skip hld hskip] at hsch; exact hsch
        refine g_skip ?_
        refine g_inb ?_
        refine g_then ?_
        refine g_region ?_
        refine s_y (y_move rfl) rfl rfl rfl rfl ?_
        refine s_y (y_add rfl rfl (by omega) (by omega)) rfl rfl rfl rfl ?_
        refine s_y (y_assign rfl) rfl rfl rfl rfl ?_
        refine s_nil ?_
        refine g_then ?_
        exact fun act W ha hw => ⟨i + 1, by omega, ⟨by omega, by omega⟩, W, (by exact hnext), ha.weak (sub_get ⟨rfl, rfl, rfl, rfl, rfl, trivial⟩), hw.toHq.lookSub (List.Sublist.refl _)⟩
    · (try simp at cq2)
      have hskip : wo (rdI ls (i : Int)).toNat (wo tg th) ≠ 0 := fun h_ => cq2 (by simpa using (ref_fit.2 h_).1)
      have hnext : sch ls (ls.length - (i + 1)) (i + 1) (wo tg th) = some r := by rw [hk2]; rw [sch_skip hld hskip] at hsch; exact hsch
      refine s_no rfl rfl rfl ?_
      refine s_no rfl rfl rfl ?_
      refine s_no rfl rfl rfl ?_
      refine s_no rfl rfl rfl ?_
      refine s_no rfl rfl rfl ?_
      refine s_no rfl rfl rfl ?_
      refine s_no rfl rfl rfl ?_
      refine s_y (y_pick_f rfl rfl) rfl rfl rfl rfl ?_
      refine s_nil ?_
      refine g_then ?_
      refine g_cond_f rfl ?_
      refine g_skip ?_
      refine g_inb ?_
      refine g_then ?_
      refine g_region ?_
      refine s_y (y_move rfl) rfl rfl rfl rfl ?_
      refine s_y (y_add rfl rfl (by omega) (by omega)) rfl rfl rfl rfl ?_
      refine s_y (y_assign rfl) rfl rfl rfl rfl ?_
      refine s_nil ?_
      refine g_then ?_
      exact fun act W ha hw => ⟨i + 1, by omega, ⟨by omega, by omega⟩, W, (by exact hnext), ha.weak (sub_get ⟨rfl, rfl, rfl, rfl, rfl, trivial⟩), hw.toHq.lookSub (List.Sublist.refl _)⟩
  · (try simp at cq1)
    refine g_exit ?_
    refine g_thenx ?_
    refine g_thenx ?_
    refine g_inbx ?_
    refine g_then ?_
    refine g_seq ?_
    refine g_region ?_
    refine s_y (y_assign rfl) rfl rfl rfl rfl ?_
    refine s_y (y_assign rfl) rfl rfl rfl rfl ?_
    refine s_nil ?_
    refine g_then ?_
    refine g_ret ?_
    rw [show ls.length - i = 0 by omega] at hsch
    simp only [sch, if_neg hld] at hsch
    cases hsch

end Go.Proofs.Ytncenmgkdodioaa
