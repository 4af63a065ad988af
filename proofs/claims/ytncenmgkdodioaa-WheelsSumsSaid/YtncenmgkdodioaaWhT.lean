/- wheels: the recursions of solve closed; the reference's Solve, List. -/
import Derived.Test.YtncenmgkdodioaaWhP
import Derived.Test.YtncenmgkdodioaaWhQ
import Derived.Test.YtncenmgkdodioaaWhJ
namespace Go.Proofs.Ytncenmgkdodioaa
open Go.RowKit Go.Sx Go.Wh Go.Dft
set_option linter.unusedVariables false
set_option linter.unusedSimpArgs false
set_option maxRecDepth 100000
set_option maxHeartbeats 4000000

private theorem sle_32 : Try.prog.underlying 32 = some (.slice (Try.prog.elem 32)) := by kernel_rfl
private theorem size_3 : (Try.prog.info? 3).map (·.size) = some 1 := by kernel_rfl
private theorem agg_3 : isAggB Try.prog 3 = some false := by kernel_rfl
private theorem ent_24 : Enters Try.prog 24 := enters_of Try.func24 (by kernel_rfl) rfl
private theorem ent_70 : Enters Try.prog 70 := enters_of Try.func70 (by kernel_rfl) rfl

theorem Rsolve_rec {tg : Nat} {lv : Value} {ls : List Int} (hls : ∀ s ∈ ls, 0 ≤ s ∧ s < 65536) (hll : ls.length ≤ 1000) (htg : tg < 65536) (k : Nat) : ∀ (w : World) (th fr : Nat) (A : Option Addr) (cp : Nat) (xs : List Int), ls.length - fr ≤ k → RdV (Value.int .i64) w lv ls → RdV (Value.int .i64) w (.slice A xs.length cp) xs → wo th tg = 0 → fr ≤ ls.length → xs.length + (ls.length - fr) ≤ 1000 →
    (sch ls (ls.length - fr) fr (wo tg th) = none → Calls Try.prog 70 [.int .i64 (tg : Int), .int .i64 (th : Nat), lv, .int .i64 (fr : Nat), (.slice A xs.length cp)].toArray w fun e w' => e = .returned (.tuple #[.slice none 0 0, .bool false]) ∧ Below w.heap.size w w') ∧ ∀ r, wo tg th ≠ 0 → sch ls (ls.length - fr) fr (wo tg th) = some r → Calls Try.prog 70 [.int .i64 (tg : Int), .int .i64 (th : Nat), lv, .int .i64 (fr : Nat), (.slice A xs.length cp)].toArray w fun e w' => ∃ x : Value × List (Nat × Obj), (OwnV (Value.int .i64) x.1 (xs ++ r) x.2 ∧ ∃ W' : World, ∀ p ∈ x.2, W'.heap[p.1]? = some p.2) ∧ e = .returned (.tuple #[x.1, .bool true]) ∧ Hq w w x.2 w' := by
  induction k with
  | zero =>
    intro w th fr A cp xs hk hl hv hth hfr hxl
    exact ⟨fun hn => Rsolve_none w tg th fr lv ls A cp xs hl hv hls hll htg hth hfr hxl (fun W th' i' A' c' ys h1 h2 => absurd h1 (by omega)) hn, fun r h0 hs => Rsolve_some w tg th fr lv ls A cp xs hl hv hls hll htg hth hfr hxl (fun W th' i' A' c' ys h1 h2 => absurd h1 (by omega)) (fun W th' i' A' c' ys h1 h2 => absurd h1 (by omega)) r h0 hs⟩
  | succ k ih =>
    intro w th fr A cp xs hk hl hv hth hfr hxl
    exact ⟨fun hn => Rsolve_none w tg th fr lv ls A cp xs hl hv hls hll htg hth hfr hxl (fun W th' i' A' c' ys h1 h2 h3 h4 h5 h6 h7 => (ih W th' i' A' c' ys (by omega) h3 h4 h5 h2 h6).1 h7) hn, fun r h0 hs => Rsolve_some w tg th fr lv ls A cp xs hl hv hls hll htg hth hfr hxl (fun W th' i' A' c' ys h1 h2 h3 h4 h5 h6 r' h7 h8 => (ih W th' i' A' c' ys (by omega) h3 h4 h5 h2 h6).2 r' h7 h8) (fun W th' i' A' c' ys h1 h2 h3 h4 h5 h6 h7 => (ih W th' i' A' c' ys (by omega) h3 h4 h5 h2 h6).1 h7) r h0 hs⟩

theorem Gsolve_rec {lv : Value} {ls : List Int} {bl bg : Nat} (hls : ∀ s ∈ ls, 0 ≤ s ∧ s < 65536) (hll : ls.length ≤ 1000) (k : Nat) : ∀ (w : World) (lf fr : Nat) (A : Option Addr) (cp : Nat) (xs : List Int), ls.length - fr ≤ k → RdV (Value.int .i64) w lv ls → RdV (Value.int .i64) w (.slice A xs.length cp) xs → w.heap[bl]? = some (.cells [lv].toArray 32 (0, 0)) → w.heap[bg]? = some (.cells [.func (.func 69) #[] #[.pointer (some ⟨bl, 0, none⟩), .pointer (some ⟨bg, 0, none⟩)]].toArray 64 (0, 0)) → lf < 65536 → fr ≤ ls.length → xs.length + (ls.length - fr) ≤ 1000 →
    (sch ls (ls.length - fr) fr lf = none → Calls Try.prog 69 [.int .i64 (fr : Nat), .int .i64 (lf : Nat), (.slice A xs.length cp), .pointer (some ⟨bl, 0, none⟩), .pointer (some ⟨bg, 0, none⟩)].toArray w fun e w' => e = .returned (.tuple #[.slice none 0 0, .bool false]) ∧ Below w.heap.size w w') ∧ ∀ r, lf ≠ 0 → sch ls (ls.length - fr) fr lf = some r → Calls Try.prog 69 [.int .i64 (fr : Nat), .int .i64 (lf : Nat), (.slice A xs.length cp), .pointer (some ⟨bl, 0, none⟩), .pointer (some ⟨bg, 0, none⟩)].toArray w fun e w' => ∃ x : Value × List (Nat × Obj), (OwnV (Value.int .i64) x.1 (xs ++ r) x.2 ∧ ∃ W' : World, ∀ p ∈ x.2, W'.heap[p.1]? = some p.2) ∧ e = .returned (.tuple #[x.1, .bool true]) ∧ Hq w w x.2 w' := by
  induction k with
  | zero =>
    intro w lf fr A cp xs hk hl hv hbl hbg hlf hfr hxl
    exact ⟨fun hn => Gsolve_none w lf fr bl bg lv ls A cp xs hl hv hls hll hlf hbl hbg hfr hxl (fun W th' i' A' c' ys h1 h2 => absurd h1 (by omega)) hn, fun r h0 hs => Gsolve_some w lf fr bl bg lv ls A cp xs hl hv hls hll hlf hbl hbg hfr hxl (fun W th' i' A' c' ys h1 h2 => absurd h1 (by omega)) (fun W th' i' A' c' ys h1 h2 => absurd h1 (by omega)) r h0 hs⟩
  | succ k ih =>
    intro w lf fr A cp xs hk hl hv hbl hbg hlf hfr hxl
    exact ⟨fun hn => Gsolve_none w lf fr bl bg lv ls A cp xs hl hv hls hll hlf hbl hbg hfr hxl (fun W th' i' A' c' ys h1 h2 h3 h4 h5 h6 h7 h8 h9 => (ih W th' i' A' c' ys (by omega) h3 h4 h5 h6 h7 h2 h8).1 h9) hn, fun r h0 hs => Gsolve_some w lf fr bl bg lv ls A cp xs hl hv hls hll hlf hbl hbg hfr hxl (fun W th' i' A' c' ys h1 h2 h3 h4 h5 h6 h7 h8 r' h9 h10 => (ih W th' i' A' c' ys (by omega) h3 h4 h5 h6 h7 h2 h8).2 r' h9 h10) (fun W th' i' A' c' ys h1 h2 h3 h4 h5 h6 h7 h8 h9 => (ih W th' i' A' c' ys (by omega) h3 h4 h5 h6 h7 h2 h8).1 h9) r h0 hs⟩

theorem RList_t (w : World) (n : Int) (lv : Value) (ls : List Int) (hl : RdV (Value.int .i64) w lv ls) (hc : ∀ s ∈ ls, okC n s) (hll : ls.length ≤ 10) :
    Calls Try.prog 45 [.int .i64 n, lv].toArray w fun e w' => e = .returned (.bool true) ∧ Below w.heap.size w w' := by
  refine enter (N := 21) Try.func45 rfl rfl rfl ?_
  refine g_seq ?_
  refine g_region ?_
  refine s_y (y_assign rfl) rfl rfl rfl rfl ?_
  refine s_nil ?_
  refine g_then ?_
  refine g_seq ?_
  refine g_seq ?_
  refine g_region ?_
  refine s_y (y_move rfl) rfl rfl rfl rfl ?_
  refine s_y (y_lenV (n := ls.length) rfl (by obtain ⟨A, c, h1, _⟩ := hl; exact ⟨A, c, h1⟩) sle_32) rfl rfl rfl rfl ?_
  refine s_y (y_move rfl) rfl rfl rfl rfl ?_
  refine s_nil ?_
  refine g_then ?_
  refine g_block ?_
  refine g_loop (fun (i : Nat) act W => i ≤ ls.length ∧ ∃ (w1 : World), Has 21 [] [(0, .int .i64 n), (1, lv), (7, lv), (8, .int .i64 (ls.length : Nat)), (9, .int .i64 (i : Int))] act ∧ Hp w w1 ([]) W) (fun i => ls.length - i) 0 (fun act W ha hw => ⟨by omega, W, ha.weak (sub_get ⟨rfl, rfl, rfl, rfl, rfl, trivial⟩), hw.toHq.lookSub (List.Sublist.refl _)⟩) ?_
  intro i act W ⟨hb_i, w1, ha, hw⟩
  refine g_go ha hw ?_
  clear ha hw act W
  refine g_seq ?_
  refine g_region ?_
  refine s_y (y_lss rfl rfl) rfl rfl rfl rfl ?_
  refine s_nil ?_
  refine g_then ?_
  refine g_seq ?_
  refine g_cond rfl (fun cq1 => ?_) (fun cq1 => ?_)
  · (try simp at cq1)
    refine g_skip ?_
    refine g_then ?_
    refine g_seq ?_
    refine g_block ?_
    refine g_seq ?_
    refine g_region ?_
    refine s_y (y_idxV (enc := (Value.int .i64)) rfl rfl hl Try.underlying32 size_3 (by omega) (by omega)) rfl rfl rfl rfl ?_
    refine s_y (y_ldV (enc := (Value.int .i64)) (xs := ls) (fun w h => hl.rdl.below h.below) rfl agg_3 (rdI_at (by omega) (by omega))) rfl rfl rfl rfl ?_
    refine s_y (y_assign rfl) rfl rfl rfl rfl ?_
    refine s_nil ?_
    refine g_then ?_
    refine g_seq ?_
    refine g_region ?_
    refine s_y (y_move rfl) rfl rfl rfl rfl ?_
    refine s_y (y_move rfl) rfl rfl rfl rfl ?_
    refine s_tr (t_call rfl rfl ent_24 (fun w h => Valid_tI w n _ (hc _ (rdI_mem (xs := ls) (i := (i : Int)) (by omega) (by omega))))) rfl rfl rfl rfl (fun _ _ => ?_)
    refine s_y (y_not_t rfl) rfl rfl rfl rfl ?_
    refine s_nil ?_
    refine g_then ?_
    refine g_cond_f rfl ?_
    refine g_skip ?_
    refine g_inb ?_
    refine g_then ?_
    refine g_region ?_
    refine s_y (y_add rfl rfl (by omega) (by omega)) rfl rfl rfl rfl ?_
    refine s_y (y_move rfl) rfl rfl rfl rfl ?_
    refine s_nil ?_
    refine g_then ?_
    exact fun act W ha hw => ⟨i + 1, by omega, by omega, W, ha.weak (sub_get ⟨rfl, rfl, rfl, rfl, rfl, trivial⟩), hw.toHq.lookSub (List.Sublist.refl _)⟩
  · (try simp at cq1)
    refine g_exit ?_
    refine g_thenx ?_
    refine g_thenx ?_
    refine g_inbx ?_
    refine g_then ?_
    refine g_seq ?_
    refine g_region ?_
    refine s_y (y_move rfl) rfl rfl rfl rfl ?_
    refine s_y (y_lenV (n := ls.length) rfl (by obtain ⟨A, c, h1, _⟩ := hl; exact ⟨A, c, h1⟩) sle_32) rfl rfl rfl rfl ?_
    refine s_y (y_leq_t rfl rfl (by omega)) rfl rfl rfl rfl ?_
    refine s_y (y_assign rfl) rfl rfl rfl rfl ?_
    refine s_nil ?_
    refine g_then ?_
    refine g_ret ?_
    exact g_end trivial (fun a w ha hq_ => res1 ha rfl rfl  w) (fun w h => ⟨rfl, h.below⟩)

theorem RSolve_zero (w : World) (n : Int) (tg : Nat) (lv : Value) (ls : List Int) (hl : RdV (Value.int .i64) w lv ls) (hls : ∀ s ∈ ls, 0 ≤ s ∧ s < 65536) (hll : ls.length ≤ 900) (htg : tg < 65536) (h0 : tg = 0) :
    Calls Try.prog 46 [.int .i64 n, .int .i64 (tg : Int), lv].toArray w fun e w' => e = .returned (.tuple #[.slice none 0 0, .int .i64 0]) ∧ Below w.heap.size w w' := by
  have hw0 : wo 0 tg = 0 := by unfold wo; omega
  have hwt : wo tg 0 = tg := by unfold wo; rw [Nat.and_zero]; rfl
  refine enter (N := 18) Try.func46 rfl rfl rfl ?_
  refine g_seq ?_
  refine g_region ?_
  refine s_y (y_assign rfl) rfl rfl rfl rfl ?_
  refine s_y (y_assign rfl) rfl rfl rfl rfl ?_
  refine s_nil ?_
  refine g_then ?_
  refine g_seq ?_
  refine g_seq ?_
  refine g_region ?_
  refine s_y (y_move rfl) rfl rfl rfl rfl ?_
  refine s_y (y_move rfl) rfl rfl rfl rfl ?_
  refine s_tr (t_call rfl rfl ent_70 (fun w h => Rsolve_0 w tg 0 0 lv ls none 0 [] (hl.below h.below) RdV.nil hls (by omega) htg hw0 (by omega) (by simp; omega) h0.symm)) rfl rfl rfl rfl (fun _ _ => ?_)
  refine s_y (y_move rfl) rfl rfl rfl rfl ?_
  refine s_y (y_extract rfl rfl) rfl rfl rfl rfl ?_
  refine s_y (y_extract rfl rfl) rfl rfl rfl rfl ?_
  refine s_y (y_assign rfl) rfl rfl rfl rfl ?_
  refine s_y (y_assign rfl) rfl rfl rfl rfl ?_
  refine s_nil ?_
  refine g_then ?_
  refine g_seq ?_
  refine g_region ?_
  refine s_y (y_move rfl) rfl rfl rfl rfl ?_
  refine s_nil ?_
  refine g_then ?_
  refine g_cond_t rfl ?_
  refine g_seq ?_
  refine g_region ?_
  refine s_y (y_move rfl) rfl rfl rfl rfl ?_
  refine s_y (y_assign rfl) rfl rfl rfl rfl ?_
  refine s_y (y_assign rfl) rfl rfl rfl rfl ?_
  refine s_nil ?_
  refine g_then ?_
  refine g_ret ?_
  refine g_thenr ?_
  exact g_end trivial (fun a w ha hq_ => res2 ha rfl rfl rfl  w) (fun w h => ⟨rfl, h.below⟩)

theorem RSolve_none (w : World) (n : Int) (tg : Nat) (lv : Value) (ls : List Int) (hl : RdV (Value.int .i64) w lv ls) (hls : ∀ s ∈ ls, 0 ≤ s ∧ s < 65536) (hll : ls.length ≤ 900) (htg : tg < 65536) (hs : sch ls ls.length 0 tg = none) :
    Calls Try.prog 46 [.int .i64 n, .int .i64 (tg : Int), lv].toArray w fun e w' => e = .returned (.tuple #[.slice none 0 0, .int .i64 4]) ∧ Below w.heap.size w w' := by
  have hw0 : wo 0 tg = 0 := by unfold wo; omega
  have hwt : wo tg 0 = tg := by unfold wo; rw [Nat.and_zero]; rfl
  refine enter (N := 18) Try.func46 rfl rfl rfl ?_
  refine g_seq ?_
  refine g_region ?_
  refine s_y (y_assign rfl) rfl rfl rfl rfl ?_
  refine s_y (y_assign rfl) rfl rfl rfl rfl ?_
  refine s_nil ?_
  refine g_then ?_
  refine g_seq ?_
  refine g_seq ?_
  refine g_region ?_
  refine s_y (y_move rfl) rfl rfl rfl rfl ?_
  refine s_y (y_move rfl) rfl rfl rfl rfl ?_
  refine s_tr (t_call rfl rfl ent_70 (fun w h => (Rsolve_rec hls (by omega) htg ls.length w 0 0 none 0 [] (by omega) (hl.below h.below) RdV.nil hw0 (by omega) (by simp; omega)).1 (by rw [hwt]; exact hs))) rfl rfl rfl rfl (fun _ _ => ?_)
  refine s_y (y_move rfl) rfl rfl rfl rfl ?_
  refine s_y (y_extract rfl rfl) rfl rfl rfl rfl ?_
  refine s_y (y_extract rfl rfl) rfl rfl rfl rfl ?_
  refine s_y (y_assign rfl) rfl rfl rfl rfl ?_
  refine s_y (y_assign rfl) rfl rfl rfl rfl ?_
  refine s_nil ?_
  refine g_then ?_
  refine g_seq ?_
  refine g_region ?_
  refine s_y (y_move rfl) rfl rfl rfl rfl ?_
  refine s_nil ?_
  refine g_then ?_
  refine g_cond_f rfl ?_
  refine g_skip ?_
  refine g_then ?_
  refine g_seq ?_
  refine g_region ?_
  refine s_y (y_assign rfl) rfl rfl rfl rfl ?_
  refine s_y (y_assign rfl) rfl rfl rfl rfl ?_
  refine s_nil ?_
  refine g_then ?_
  refine g_ret ?_
  exact g_end trivial (fun a w ha hq_ => res2 ha rfl rfl rfl  w) (fun w h => ⟨rfl, h.below⟩)

theorem RSolve_some (w : World) (n : Int) (tg : Nat) (lv : Value) (ls : List Int) (hl : RdV (Value.int .i64) w lv ls) (hls : ∀ s ∈ ls, 0 ≤ s ∧ s < 65536) (hll : ls.length ≤ 900) (htg : tg < 65536) (r : List Int) (h0 : tg ≠ 0) (hs : sch ls ls.length 0 tg = some r) :
    Calls Try.prog 46 [.int .i64 n, .int .i64 (tg : Int), lv].toArray w fun e w' => ∃ x : Value × List (Nat × Obj), (OwnV (Value.int .i64) x.1 r x.2 ∧ ∃ W : World, ∀ p ∈ x.2, W.heap[p.1]? = some p.2) ∧ e = .returned (.tuple #[x.1, .int .i64 0]) ∧ Hq w w x.2 w' := by
  have hw0 : wo 0 tg = 0 := by unfold wo; omega
  have hwt : wo tg 0 = tg := by unfold wo; rw [Nat.and_zero]; rfl
  refine enter (N := 18) Try.func46 rfl rfl rfl ?_
  refine g_seq ?_
  refine g_region ?_
  refine s_y (y_assign rfl) rfl rfl rfl rfl ?_
  refine s_y (y_assign rfl) rfl rfl rfl rfl ?_
  refine s_nil ?_
  refine g_then ?_
  refine g_seq ?_
  refine g_seq ?_
  refine g_region ?_
  refine s_y (y_move rfl) rfl rfl rfl rfl ?_
  refine s_y (y_move rfl) rfl rfl rfl rfl ?_
  refine s_tr (t_callm rfl rfl ent_70 (fun w h => (Rsolve_rec hls (by omega) htg ls.length w 0 0 none 0 [] (by omega) (hl.below h.below) RdV.nil hw0 (by omega) (by simp; omega)).2 r (by rw [hwt]; exact h0) (by rw [hwt]; exact hs))) rfl rfl rfl rfl (fun x2 hx3 => ?_)
  obtain ⟨vo1, mo1⟩ := x2
  obtain ⟨hOo1, hEo1⟩ := hx3
  refine s_y (y_move rfl) rfl rfl rfl rfl ?_
  refine s_y (y_extract rfl rfl) rfl rfl rfl rfl ?_
  refine s_y (y_extract rfl rfl) rfl rfl rfl rfl ?_
  refine s_y (y_assign rfl) rfl rfl rfl rfl ?_
  refine s_y (y_assign rfl) rfl rfl rfl rfl ?_
  refine s_nil ?_
  refine g_then ?_
  refine g_seq ?_
  refine g_region ?_
  refine s_y (y_move rfl) rfl rfl rfl rfl ?_
  refine s_nil ?_
  refine g_then ?_
  refine g_cond_t rfl ?_
  refine g_seq ?_
  refine g_region ?_
  refine s_y (y_move rfl) rfl rfl rfl rfl ?_
  refine s_y (y_assign rfl) rfl rfl rfl rfl ?_
  refine s_y (y_assign rfl) rfl rfl rfl rfl ?_
  refine s_nil ?_
  refine g_then ?_
  refine g_ret ?_
  refine g_thenr ?_
  exact g_end trivial (fun a w ha hq_ => res2 ha rfl rfl rfl  w) (fun w h => ⟨(_, mo1), ⟨hOo1, w, (h.hand (sub_here mo1 _)).at_⟩, rfl, h.hand (sub_here mo1 _)⟩)

end Go.Proofs.Ytncenmgkdodioaa
