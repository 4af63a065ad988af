/- duets: count and longest, which call themselves; Count, Stuck; awake. -/
import Derived.Test.YtolalckejnijkaaDuD
import Derived.Test.YtolalckejnijkaaDuE
import Derived.Test.YtolalckejnijkaaSxRec
namespace Go.Proofs.Ytolalckejnijkaa
open Go.RowKit Go.Sx Go.WideMaps
set_option linter.unusedVariables false
set_option linter.unusedSimpArgs false
set_option maxRecDepth 100000
set_option maxHeartbeats 4000000

private theorem fld_48_1 (b off : Nat) (w : World) : (Instr.fieldAt 48 (.pointer (some ⟨b, off, none⟩)) 1).run Try.prog w = .ok (.pointer (some ⟨b, off + 1, none⟩)) w := by kernel_rfl
private theorem agg_22 : isAggB Try.prog 22 = some false := by kernel_rfl
private theorem sle_22 : Try.prog.underlying 22 = some (.slice (Try.prog.elem 22)) := by kernel_rfl
private theorem zero_3 : (Try.prog.info? 3).bind (·.zero) = some (.int .i64 0) := by kernel_rfl
private theorem size_3 : (Try.prog.info? 3).map (·.size) = some 1 := by kernel_rfl
private theorem agg_3 : isAggB Try.prog 3 = some false := by kernel_rfl
private theorem fld_48_0 (b off : Nat) (w : World) : (Instr.fieldAt 48 (.pointer (some ⟨b, off, none⟩)) 0).run Try.prog w = .ok (.pointer (some ⟨b, off, none⟩)) w := by kernel_rfl
private theorem agg_48 : isAggB Try.prog 48 = some true := by kernel_rfl
private theorem size_48 : (Try.prog.info? 48).map (·.size) = some 2 := by kernel_rfl
private theorem ent_67 : Enters Try.prog 67 := enters_of Try.func67 (by kernel_rfl) rfl
private theorem zero_73 : (Try.prog.info? 73).bind (·.zero) = some (.agg #[(.int .i64 0), (.int .i64 0), (.int .i64 0), (.int .i64 0)]) := by kernel_rfl
private theorem size_73 : (Try.prog.info? 73).map (·.size) = some 4 := by kernel_rfl
private theorem agg_50 : isAggB Try.prog 50 = some false := by kernel_rfl
private theorem agg_73 : isAggB Try.prog 73 = some true := by kernel_rfl
private theorem ent_55 : Enters Try.prog 55 := enters_of Try.func55 (by kernel_rfl) rfl
private theorem inf_3 : ∃ ie, Try.prog.info? 3 = some ie ∧ ie.zero = some (.int .i64 0) ∧ ie.size = 1 ∧ ie.bytes = 8 := info_of (by kernel_rfl) (by kernel_rfl)
private theorem bld_48_0_1 (x0a : Option Addr) (x0n x0c : Nat) (x1a : Option Addr) (x1n x1c : Nat) (w : World) : (Instr.build 48 #[(0, (.slice x0a x0n x0c)), (1, (.slice x1a x1n x1c))]).run Try.prog w = .ok (.agg #[(.slice x0a x0n x0c), (.slice x1a x1n x1c)]) w := by kernel_rfl
private theorem ent_47 : Enters Try.prog 47 := enters_of Try.func47 (by kernel_rfl) rfl
private theorem ent_59 : Enters Try.prog 59 := enters_of Try.func59 (by kernel_rfl) rfl
private theorem ent_46 : Enters Try.prog 46 := enters_of Try.func46 (by kernel_rfl) rfl
private theorem bld_48_0 (x0a : Option Addr) (x0n x0c : Nat) (w : World) : (Instr.build 48 #[(0, (.slice x0a x0n x0c))]).run Try.prog w = .ok (.agg #[(.slice x0a x0n x0c), (.slice none 0 0)]) w := by kernel_rfl
private theorem ent_16 : Enters Try.prog 16 := enters_of Try.func16 (by kernel_rfl) rfl

/-- What such a map knows: at each key the value of a beginning with that key. -/
def SoundI (fv : List Int → Int) (g : List Int) (es : Array MapEntry) : Prop :=
  ∃ F : TK → Option Value, MapG tkV tkok es F ∧ ∀ k v, F k = some v → ∃ s : List Int, (∀ x ∈ s, 0 ≤ x ∧ x ≤ 20) ∧ s.length < g.length ∧ tailK s = k ∧ v = .int .i64 (fv s)
theorem SoundI.empty {fv : List Int → Int} {g : List Int} : SoundI fv g #[] := ⟨fun _ => none, MapG.empty, fun k v h => by cases h⟩
theorem SoundI.put {fv : List Int → Int} {g s : List Int} {es : Array MapEntry} {F : TK → Option Value} {z : Int} (hF : ∀ k v, F k = some v → ∃ s : List Int, (∀ x ∈ s, 0 ≤ x ∧ x ≤ 20) ∧ s.length < g.length ∧ tailK s = k ∧ v = .int .i64 (fv s))
    (h : MapG tkV tkok es (putG F (tailK s) (.int .i64 z))) (hn : ∀ x ∈ s, 0 ≤ x ∧ x ≤ 20) (hl : s.length < g.length) (hz : z = fv s) : SoundI fv g es :=
  ⟨_, h, fun k v hv => by
    unfold putG at hv
    split at hv
    · rename_i e
      cases hv
      exact ⟨s, hn, hl, e.symm, by rw [hz]⟩
    · exact hF k v hv⟩
def cntF (g s : List Int) : Int := cntR g (g.length - s.length) s
/-- How far one comes, with k notes to come. -/
def lonR (g : List Int) : Nat → List Int → Int
  | 0, s => s.length
  | k + 1, s => (nxL g s).foldl (fun o x => if lonR g k (s ++ [x]) > o then lonR g k (s ++ [x]) else o) (s.length : Int)
def lonF (g s : List Int) : Int := lonR g (g.length - s.length) s
theorem foldl_same {α β : Type} {h h' : β → α → β} (e : ∀ o x, h o x = h' o x) : ∀ (xs : List α) (o : β), xs.foldl h o = xs.foldl h' o
  | [], _ => rfl
  | x :: xs, o => by rw [List.foldl_cons, List.foldl_cons, e, foldl_same e xs]
theorem lonR_tail {g : List Int} : ∀ (k : Nat) (s s' : List Int), tailK s = tailK s' → lonR g k s = lonR g k s'
  | 0, s, s', h => by unfold lonR; rw [(tailK_eq h).1]
  | k + 1, s, s', h => by
    unfold lonR
    rw [nxL_tail h, (tailK_eq h).1]
    exact foldl_same (fun o x => by rw [lonR_tail k _ _ (tailK_snoc h x)]) _ _
theorem cntF_tail {g s s' : List Int} (h : tailK s = tailK s') : cntF g s = cntF g s' := by
  unfold cntF; rw [(tailK_eq h).1, cntR_tail _ _ _ h]
theorem lonF_tail {g s s' : List Int} (h : tailK s = tailK s') : lonF g s = lonF g s' := by
  unfold lonF; rw [(tailK_eq h).1, lonR_tail _ _ _ h]
theorem take_sum {xs : List Int} {h : Int → Int} {k : Nat} {x : Int} (hx : xs[k]? = some x) : ((xs.take (k + 1)).map h).sum = ((xs.take k).map h).sum + h x := by
  rw [List.take_add_one, hx, List.map_append, List.sum_append]; simp
theorem take_fold {xs : List Int} {h : Int → Int → Int} {o : Int} {k : Nat} {x : Int} (hx : xs[k]? = some x) : (xs.take (k + 1)).foldl h o = h ((xs.take k).foldl h o) x := by
  rw [List.take_add_one, hx, List.foldl_append]; rfl

def countAt (g : List Int) (k : Nat) : Prop := ∀ (ag as_ : Option Addr) (cg cs : Nat) (s : List Int) (mb : Nat) (es : Array MapEntry) (clock : Nat) (w0 wE : World), s.length + k = g.length → (∀ x ∈ s, 0 ≤ x ∧ x ≤ 20) → Below w0.heap.size w0 wE → w0.heap.size ≤ mb → wE.heap[mb]? = some (.map es clock) → SoundI (cntF g) g es → RdV (Value.int .i64) wE (.slice ag g.length cg) g → RdV (Value.int .i64) wE (.slice as_ s.length cs) s →
    Calls Try.prog 47 [.agg #[.slice ag g.length cg, .slice as_ s.length cs], .map (some mb)].toArray wE fun e w' => ∃ y : Array MapEntry × Nat, SoundI (cntF g) g y.1 ∧ e = .returned (.int .i64 (cntR g (k) s)) ∧ Hp w0 wE [(mb, .map y.1 y.2)] w'

theorem count_full (ag as_ : Option Addr) (cg cs : Nat) (g s : List Int) (mb : Nat) (es : Array MapEntry) (clock : Nat) (w0 wE : World) (kk : Nat) (hle : s.length + 0 = g.length) (hgl : g.length ≤ 8) (hgn : ∀ x ∈ g, 0 ≤ x ∧ x ≤ 20) (hsn : ∀ x ∈ s, 0 ≤ x ∧ x ≤ 20) (hb0 : Below w0.heap.size w0 wE) (hge : w0.heap.size ≤ mb) (hmb : wE.heap[mb]? = some (.map es clock)) (hS : SoundI (cntF g) g es) (hg : RdV (Value.int .i64) wE (.slice ag g.length cg) g) (hs : RdV (Value.int .i64) wE (.slice as_ s.length cs) s)  :
    Calls Try.prog 47 [.agg #[.slice ag g.length cg, .slice as_ s.length cs], .map (some mb)].toArray wE fun e w' => ∃ y : Array MapEntry × Nat, SoundI (cntF g) g y.1 ∧ e = .returned (.int .i64 (cntR g (0) s)) ∧ Hp w0 wE [(mb, .map y.1 y.2)] w' := by
  refine enterM (N := 51) Try.func47 rfl rfl rfl (Hp.start hb0 hge hmb) ?_
  refine g_seq ?_
  refine g_region ?_
  refine s_tr (t_box rfl rfl) rfl rfl rfl rfl (fun b2 hb2 => ?_)
  refine s_tr (t_box rfl rfl) rfl rfl rfl rfl (fun b3 hb3 => ?_)
  refine s_y (y_assign rfl) rfl rfl rfl rfl ?_
  refine s_nil ?_
  refine g_then ?_
  refine g_seq ?_
  refine g_region ?_
  refine s_y (y_fld rfl (fun w => fld_48_1 _ _ w)) rfl rfl rfl rfl ?_
  refine s_y (y_ld1 1 rfl rfl agg_22 rfl) rfl rfl rfl rfl ?_
  refine s_y (y_lenV (n := s.length) rfl (by obtain ⟨A, c, h1, _⟩ := hs; exact ⟨A, c, h1⟩) sle_22) rfl rfl rfl rfl ?_
  refine s_tr (t_alloc zero_3 rfl) rfl rfl rfl rfl (fun b5 hb5 => ?_)
  refine s_tr0 (t_store 0 rfl rfl rfl rfl size_3 rfl rfl) rfl rfl rfl (fun _ _ => ?_)
  refine s_nil ?_
  refine g_then ?_
  refine g_seq ?_
  refine g_seq ?_
  refine g_region ?_
  refine s_y (y_ld1 0 rfl rfl agg_3 rfl) rfl rfl rfl rfl ?_
  refine s_y (y_fld rfl (fun w => fld_48_0 _ _ w)) rfl rfl rfl rfl ?_
  refine s_y (y_ld1 2 rfl rfl agg_22 rfl) rfl rfl rfl rfl ?_
  refine s_y (y_lenV (n := g.length) rfl (by obtain ⟨A, c, h1, _⟩ := hg; exact ⟨A, c, h1⟩) sle_22) rfl rfl rfl rfl ?_
  refine s_y (y_eql_t rfl rfl (by omega)) rfl rfl rfl rfl ?_
  refine s_nil ?_
  refine g_then ?_
  refine g_cond_t rfl ?_
  refine g_seq ?_
  refine g_region ?_
  refine s_y (y_assign rfl) rfl rfl rfl rfl ?_
  refine s_nil ?_
  refine g_then ?_
  refine g_ret ?_
  refine g_thenr ?_
  exact g_end0 (fun a w ha hq_ => res1 ha rfl rfl  w) (fun w h => ⟨(es, clock), hS, rfl, ((((show Hp w0 wE ((b5, .cells [.int .i64 (s.length : Nat)].toArray 3 (0, 0)) :: (b3, .cells [.map (some mb)].toArray 50 (0, 0)) :: (b2, .cells [.slice ag g.length cg, .slice as_ s.length cs].toArray 48 (0, 0)) :: (mb, .map es clock) :: []) w from h).tail hb5.2).tail hb3.2).tail hb2.2)⟩)

theorem count_known (ag as_ : Option Addr) (cg cs : Nat) (g s : List Int) (mb : Nat) (es : Array MapEntry) (clock : Nat) (w0 wE : World) (kk : Nat) (hle : s.length + (kk + 1) = g.length) (hgl : g.length ≤ 8) (hgn : ∀ x ∈ g, 0 ≤ x ∧ x ≤ 20) (hsn : ∀ x ∈ s, 0 ≤ x ∧ x ≤ 20) (hb0 : Below w0.heap.size w0 wE) (hge : w0.heap.size ≤ mb) (hmb : wE.heap[mb]? = some (.map es clock)) (hS : SoundI (cntF g) g es) (hg : RdV (Value.int .i64) wE (.slice ag g.length cg) g) (hs : RdV (Value.int .i64) wE (.slice as_ s.length cs) s) (z : Int) (F : TK → Option Value) (hM_ : MapG tkV tkok es F) (hF : F (tailK s) = some (.int .i64 z)) (hzv : z = cntR g (kk + 1) s) :
    Calls Try.prog 47 [.agg #[.slice ag g.length cg, .slice as_ s.length cs], .map (some mb)].toArray wE fun e w' => ∃ y : Array MapEntry × Nat, SoundI (cntF g) g y.1 ∧ e = .returned (.int .i64 (cntR g ((kk + 1)) s)) ∧ Hp w0 wE [(mb, .map y.1 y.2)] w' := by
  refine enterM (N := 51) Try.func47 rfl rfl rfl (Hp.start hb0 hge hmb) ?_
  refine g_seq ?_
  refine g_region ?_
  refine s_tr (t_box rfl rfl) rfl rfl rfl rfl (fun b2 hb2 => ?_)
  refine s_tr (t_box rfl rfl) rfl rfl rfl rfl (fun b3 hb3 => ?_)
  refine s_y (y_assign rfl) rfl rfl rfl rfl ?_
  refine s_nil ?_
  refine g_then ?_
  refine g_seq ?_
  refine g_region ?_
  refine s_y (y_fld rfl (fun w => fld_48_1 _ _ w)) rfl rfl rfl rfl ?_
  refine s_y (y_ld1 1 rfl rfl agg_22 rfl) rfl rfl rfl rfl ?_
  refine s_y (y_lenV (n := s.length) rfl (by obtain ⟨A, c, h1, _⟩ := hs; exact ⟨A, c, h1⟩) sle_22) rfl rfl rfl rfl ?_
  refine s_tr (t_alloc zero_3 rfl) rfl rfl rfl rfl (fun b5 hb5 => ?_)
  refine s_tr0 (t_store 0 rfl rfl rfl rfl size_3 rfl rfl) rfl rfl rfl (fun _ _ => ?_)
  refine s_nil ?_
  refine g_then ?_
  refine g_seq ?_
  refine g_seq ?_
  refine g_region ?_
  refine s_y (y_ld1 0 rfl rfl agg_3 rfl) rfl rfl rfl rfl ?_
  refine s_y (y_fld rfl (fun w => fld_48_0 _ _ w)) rfl rfl rfl rfl ?_
  refine s_y (y_ld1 2 rfl rfl agg_22 rfl) rfl rfl rfl rfl ?_
  refine s_y (y_lenV (n := g.length) rfl (by obtain ⟨A, c, h1, _⟩ := hg; exact ⟨A, c, h1⟩) sle_22) rfl rfl rfl rfl ?_
  refine s_y (y_eql_f rfl rfl (by omega)) rfl rfl rfl rfl ?_
  refine s_nil ?_
  refine g_then ?_
  refine g_cond_f rfl ?_
  refine g_skip ?_
  refine g_then ?_
  refine g_seq ?_
  refine g_region ?_
  refine s_y (y_ldn 2 rfl rfl agg_48 size_48 rfl rfl) rfl rfl rfl rfl ?_
  refine s_tr (t_call rfl rfl ent_67 (fun w h => tail_any w ag as_ cg cs g s (hg.keepC (h.toHq.kc (KeepC.refl _) hmb (sd_cons hb5.2 (sd_cons hb3.2 (sd_cons hb2.2 (sd_mb sd_nil)))))) (hs.keepC (h.toHq.kc (KeepC.refl _) hmb (sd_cons hb5.2 (sd_cons hb3.2 (sd_cons hb2.2 (sd_mb sd_nil)))))) (by omega))) rfl rfl rfl rfl (fun _ _ => ?_)
  refine s_tr (t_alloc zero_73 rfl) rfl rfl rfl rfl (fun b6 hb6 => ?_)
  refine s_tr0 (t_store 0 rfl rfl rfl rfl size_73 rfl rfl) rfl rfl rfl (fun _ _ => ?_)
  refine s_nil ?_
  refine g_then ?_
  refine g_seq ?_
  refine g_seq ?_
  refine g_region ?_
  refine s_y (y_ld1 2 rfl rfl agg_50 rfl) rfl rfl rfl rfl ?_
  refine s_y (y_ldn 0 rfl rfl agg_73 size_73 rfl rfl) rfl rfl rfl rfl ?_
  refine s_y (y_lookS hF tail_map hM_ (fun w h => h.at_ _ (List.mem_cons_of_mem _ (List.mem_cons_of_mem _ (List.mem_cons_of_mem _ (List.mem_cons_of_mem _ (List.mem_cons_self ..)))))) rfl rfl rfl (tailK_ok hsn (by omega))) rfl rfl rfl rfl ?_
  refine s_y (y_move rfl) rfl rfl rfl rfl ?_
  refine s_y (y_extract rfl rfl) rfl rfl rfl rfl ?_
  refine s_y (y_extract rfl rfl) rfl rfl rfl rfl ?_
  refine s_y (y_assign rfl) rfl rfl rfl rfl ?_
  refine s_y (y_assign rfl) rfl rfl rfl rfl ?_
  refine s_nil ?_
  refine g_then ?_
  refine g_seq ?_
  refine g_region ?_
  refine s_y (y_move rfl) rfl rfl rfl rfl ?_
  refine s_nil ?_
  refine g_then ?_
  refine g_cond_t rfl ?_
  refine g_seq ?_
  refine g_region ?_
  refine s_y (y_move rfl) rfl rfl rfl rfl ?_
  refine s_y (y_assign rfl) rfl rfl rfl rfl ?_
  refine s_nil ?_
  refine g_then ?_
  refine g_ret ?_
  refine g_thenr ?_
  exact g_end0 (fun a w ha hq_ => res1 ha rfl rfl  w) (fun w h => ⟨(es, clock), hS, congrArg (fun q_ : Int => Ending.returned (.int .i64 q_)) hzv, (((((show Hp w0 wE ((b6, .cells [.int .i64 (rdI (s.drop (s.length - 3)) 0), .int .i64 (rdI (s.drop (s.length - 3)) 1), .int .i64 (rdI (s.drop (s.length - 3)) 2), .int .i64 (s.length : Int)].toArray 73 (0, 0)) :: (b5, .cells [.int .i64 (s.length : Nat)].toArray 3 (0, 0)) :: (b3, .cells [.map (some mb)].toArray 50 (0, 0)) :: (b2, .cells [.slice ag g.length cg, .slice as_ s.length cs].toArray 48 (0, 0)) :: (mb, .map es clock) :: []) w from h).tail hb6.2).tail hb5.2).tail hb3.2).tail hb2.2)⟩)

theorem count_new (ag as_ : Option Addr) (cg cs : Nat) (g s : List Int) (mb : Nat) (es : Array MapEntry) (clock : Nat) (w0 wE : World) (kk : Nat) (hle : s.length + (kk + 1) = g.length) (hgl : g.length ≤ 8) (hgn : ∀ x ∈ g, 0 ≤ x ∧ x ≤ 20) (hsn : ∀ x ∈ s, 0 ≤ x ∧ x ≤ 20) (hb0 : Below w0.heap.size w0 wE) (hge : w0.heap.size ≤ mb) (hmb : wE.heap[mb]? = some (.map es clock)) (hS : SoundI (cntF g) g es) (hg : RdV (Value.int .i64) wE (.slice ag g.length cg) g) (hs : RdV (Value.int .i64) wE (.slice as_ s.length cs) s) (F : TK → Option Value) (hM_ : MapG tkV tkok es F) (hF : F (tailK s) = none) (IH : countAt g kk) :
    Calls Try.prog 47 [.agg #[.slice ag g.length cg, .slice as_ s.length cs], .map (some mb)].toArray wE fun e w' => ∃ y : Array MapEntry × Nat, SoundI (cntF g) g y.1 ∧ e = .returned (.int .i64 (cntR g ((kk + 1)) s)) ∧ Hp w0 wE [(mb, .map y.1 y.2)] w' := by
  obtain ⟨ie3, hi3⟩ := inf_3
  refine enterM (N := 51) Try.func47 rfl rfl rfl (Hp.start hb0 hge hmb) ?_
  refine g_seq ?_
  refine g_region ?_
  refine s_tr (t_box rfl rfl) rfl rfl rfl rfl (fun b2 hb2 => ?_)
  refine s_tr (t_box rfl rfl) rfl rfl rfl rfl (fun b3 hb3 => ?_)
  refine s_y (y_assign rfl) rfl rfl rfl rfl ?_
  refine s_nil ?_
  refine g_then ?_
  refine g_seq ?_
  refine g_region ?_
  refine s_y (y_fld rfl (fun w => fld_48_1 _ _ w)) rfl rfl rfl rfl ?_
  refine s_y (y_ld1 1 rfl rfl agg_22 rfl) rfl rfl rfl rfl ?_
  refine s_y (y_lenV (n := s.length) rfl (by obtain ⟨A, c, h1, _⟩ := hs; exact ⟨A, c, h1⟩) sle_22) rfl rfl rfl rfl ?_
  refine s_tr (t_alloc zero_3 rfl) rfl rfl rfl rfl (fun b5 hb5 => ?_)
  refine s_tr0 (t_store 0 rfl rfl rfl rfl size_3 rfl rfl) rfl rfl rfl (fun _ _ => ?_)
  refine s_nil ?_
  refine g_then ?_
  refine g_seq ?_
  refine g_seq ?_
  refine g_region ?_
  refine s_y (y_ld1 0 rfl rfl agg_3 rfl) rfl rfl rfl rfl ?_
  refine s_y (y_fld rfl (fun w => fld_48_0 _ _ w)) rfl rfl rfl rfl ?_
  refine s_y (y_ld1 2 rfl rfl agg_22 rfl) rfl rfl rfl rfl ?_
  refine s_y (y_lenV (n := g.length) rfl (by obtain ⟨A, c, h1, _⟩ := hg; exact ⟨A, c, h1⟩) sle_22) rfl rfl rfl rfl ?_
  refine s_y (y_eql_f rfl rfl (by omega)) rfl rfl rfl rfl ?_
  refine s_nil ?_
  refine g_then ?_
  refine g_cond_f rfl ?_
  refine g_skip ?_
  refine g_then ?_
  refine g_seq ?_
  refine g_region ?_
  refine s_y (y_ldn 2 rfl rfl agg_48 size_48 rfl rfl) rfl rfl rfl rfl ?_
  refine s_tr (t_call rfl rfl ent_67 (fun w h => tail_any w ag as_ cg cs g s (hg.keepC (h.toHq.kc (KeepC.refl _) hmb (sd_cons hb5.2 (sd_cons hb3.2 (sd_cons hb2.2 (sd_mb sd_nil)))))) (hs.keepC (h.toHq.kc (KeepC.refl _) hmb (sd_cons hb5.2 (sd_cons hb3.2 (sd_cons hb2.2 (sd_mb sd_nil)))))) (by omega))) rfl rfl rfl rfl (fun _ _ => ?_)
  refine s_tr (t_alloc zero_73 rfl) rfl rfl rfl rfl (fun b6 hb6 => ?_)
  refine s_tr0 (t_store 0 rfl rfl rfl rfl size_73 rfl rfl) rfl rfl rfl (fun _ _ => ?_)
  refine s_nil ?_
  refine g_then ?_
  refine g_seq ?_
  refine g_seq ?_
  refine g_region ?_
  refine s_y (y_ld1 2 rfl rfl agg_50 rfl) rfl rfl rfl rfl ?_
  refine s_y (y_ldn 0 rfl rfl agg_73 size_73 rfl rfl) rfl rfl rfl rfl ?_
  refine s_y (y_lookN hF tail_map hM_ (fun w h => h.at_ _ (List.mem_cons_of_mem _ (List.mem_cons_of_mem _ (List.mem_cons_of_mem _ (List.mem_cons_of_mem _ (List.mem_cons_self ..)))))) rfl rfl rfl (tailK_ok hsn (by omega))) rfl rfl rfl rfl ?_
  refine s_y (y_move rfl) rfl rfl rfl rfl ?_
  refine s_y (y_extract rfl rfl) rfl rfl rfl rfl ?_
  refine s_y (y_extract rfl rfl) rfl rfl rfl rfl ?_
  refine s_y (y_assign rfl) rfl rfl rfl rfl ?_
  refine s_y (y_assign rfl) rfl rfl rfl rfl ?_
  refine s_nil ?_
  refine g_then ?_
  refine g_seq ?_
  refine g_region ?_
  refine s_y (y_move rfl) rfl rfl rfl rfl ?_
  refine s_nil ?_
  refine g_then ?_
  refine g_cond_f rfl ?_
  refine g_skip ?_
  refine g_then ?_
  refine g_seq ?_
  refine g_region ?_
  refine s_tr (t_alloc zero_3 rfl) rfl rfl rfl rfl (fun b9 hb9 => ?_)
  refine s_tr0 (t_store 0 rfl rfl rfl rfl size_3 rfl rfl) rfl rfl rfl (fun _ _ => ?_)
  refine s_nil ?_
  refine g_then ?_
  refine g_seq ?_
  refine g_seq ?_
  refine g_region ?_
  refine s_y (y_ldn 4 rfl rfl agg_48 size_48 rfl rfl) rfl rfl rfl rfl ?_
  refine s_y (y_func rfl rfl) rfl rfl rfl rfl ?_
  refine s_nil ?_
  refine g_then ?_
  refine g_block ?_
  refine g_rangeF (gf := 55) (fs := [.agg #[.slice ag g.length cg, .slice as_ s.length cs]]) (lb := []) (encs := (fun x : Int => [.int .i64 x])) (xs := (nxL g s)) rfl ent_55 (fun _ => rfl) (by decide) (fun _ W => RdV (Value.int .i64) W (.slice ag g.length cg) g ∧ RdV (Value.int .i64) W (.slice as_ s.length cs) s)
    (fun k m' => ∃ (out : Int) (es' : Array MapEntry) (clock' : Nat), (out = ((((nxL g s).take k)).map fun y => cntR g kk (s ++ [y])).sum) ∧ (SoundI (cntF g) g es') ∧ m' = (b9, .cells [.int .i64 out].toArray 3 (0, 0)) :: (b6, .cells [.int .i64 (rdI (s.drop (s.length - 3)) 0), .int .i64 (rdI (s.drop (s.length - 3)) 1), .int .i64 (rdI (s.drop (s.length - 3)) 2), .int .i64 (s.length : Int)].toArray 73 (0, 0)) :: (b5, .cells [.int .i64 (s.length : Nat)].toArray 3 (0, 0)) :: (b3, .cells [.map (some mb)].toArray 50 (0, 0)) :: (b2, .cells [.slice ag g.length cg, .slice as_ s.length cs].toArray 48 (0, 0)) :: (mb, .map es' clock') :: []) (fun _ _ _ => False)
    (fun we hwe => next_iter ag as_ cg cs g s (by omega) (by omega) hgn hsn)
    (by rintro we k _ W hwe ⟨out, es', clock', ho, hS', rfl⟩ h; have hk1 := h.kc (hwe.toHq.kc (KeepC.refl _) hmb (sd_cons hb9.2 (sd_cons hb6.2 (sd_cons hb5.2 (sd_cons hb3.2 (sd_cons hb2.2 (sd_mb sd_nil))))))) hmb (sd_cons hb9.2 (sd_cons hb6.2 (sd_cons hb5.2 (sd_cons hb3.2 (sd_cons hb2.2 (sd_mb sd_nil)))))); exact ⟨hg.keepC hk1, hs.keepC hk1⟩) ⟨0, es, clock, (by rfl), (by exact hS), rfl⟩ ?_ ?_ ?_
  · skip
    rintro we W1 hwe lp k x _ hx ⟨out, es', clock', ho, hS', rfl⟩ hq K hK
    obtain ⟨hx0, hx1, hxb⟩ := nxL_mem (List.mem_of_getElem? hx)
    have hkl := (List.getElem?_eq_some_iff.1 hx).1
    have hl21 := nxL_len g s
    refine g_region ?_
    refine s_y (y_assign rfl) rfl rfl rfl rfl ?_
    refine s_nil ?_
    refine g_then ?_
    refine hK _ _ (fun W2 hW2 => ?_)
    have hk2 : KeepC wE W2 := hW2.kc (hq.kc (hwe.toHq.kc (KeepC.refl _) hmb (sd_cons hb9.2 (sd_cons hb6.2 (sd_cons hb5.2 (sd_cons hb3.2 (sd_cons hb2.2 (sd_mb sd_nil))))))) hmb (sd_cons hb9.2 (sd_cons hb6.2 (sd_cons hb5.2 (sd_cons hb3.2 (sd_cons hb2.2 (sd_mb sd_nil))))))) hmb (sd_cons hb9.2 (sd_cons hb6.2 (sd_cons hb5.2 (sd_cons hb3.2 (sd_cons hb2.2 (sd_mb sd_nil))))))
    have hsz2 : wE.heap.size ≤ W2.heap.size := Nat.le_trans hwe.size (Nat.le_trans hq.size hW2.size)
    obtain ⟨hcp, hvf⟩ := full_of hs
    have hc1 := cntR_bounds g kk (s ++ [x])
    have hc2 := pow21 (k := kk) (by omega)
    have hc3 := cntR_part (g := g) (s := s) (k := kk) (j := k) (by omega) (by omega)
    rw [← ho] at hc3
    refine g_block ?_
    refine g_drawC 15 (fun W => ∀ p ∈ ((b9, .cells [.int .i64 out].toArray 3 (0, 0)) :: (b5, .cells [.int .i64 (s.length : Nat)].toArray 3 (0, 0)) :: (b3, .cells [.map (some mb)].toArray 50 (0, 0)) :: (b2, .cells [.slice ag g.length cg, .slice as_ s.length cs].toArray 48 (0, 0)) :: [] : List (Nat × Obj)), W.heap[p.1]? = some p.2) (by kernel_rfl) ?_
    refine j_l (i := 0) rfl (y_ldC (fun w h => h _ (List.mem_cons_self ..)) rfl agg_3 rfl) (by kernel_rfl) (by kernel_rfl) (by kernel_rfl) (by kernel_rfl) rfl rfl rfl rfl rfl (.inr (fun _ h => at_all h (List.Sublist.cons_cons _ (List.Sublist.cons _ (List.Sublist.cons_cons _ (List.Sublist.cons_cons _ (List.Sublist.cons_cons _ (List.nil_sublist _)))))))) ?_
    refine j_p (i := 1) rfl (y_fld rfl (fun w => fld_48_0 _ _ w)) (by kernel_rfl) (by kernel_rfl) (by kernel_rfl) rfl rfl rfl rfl rfl (.inr (fun _ h => at_all h (List.Sublist.cons_cons _ (List.Sublist.cons _ (List.Sublist.cons_cons _ (List.Sublist.cons_cons _ (List.Sublist.cons_cons _ (List.nil_sublist _)))))))) ?_
    refine j_l (i := 2) rfl (y_ldC (fun w h => h _ (List.mem_cons_of_mem _ (List.mem_cons_of_mem _ (List.mem_cons_of_mem _ (List.mem_cons_self ..))))) rfl agg_22 rfl) (by kernel_rfl) (by kernel_rfl) (by kernel_rfl) (by kernel_rfl) rfl rfl rfl rfl rfl (.inr (fun _ h => at_all h (List.Sublist.cons_cons _ (List.Sublist.cons _ (List.Sublist.cons_cons _ (List.Sublist.cons_cons _ (List.Sublist.cons_cons _ (List.nil_sublist _)))))))) ?_
    refine j_p (i := 3) rfl (y_fld rfl (fun w => fld_48_1 _ _ w)) (by kernel_rfl) (by kernel_rfl) (by kernel_rfl) rfl rfl rfl rfl rfl (.inr (fun _ h => at_all h (List.Sublist.cons_cons _ (List.Sublist.cons _ (List.Sublist.cons_cons _ (List.Sublist.cons_cons _ (List.Sublist.cons_cons _ (List.nil_sublist _)))))))) ?_
    refine j_l (i := 4) rfl (y_ldC (fun w h => h _ (List.mem_cons_of_mem _ (List.mem_cons_of_mem _ (List.mem_cons_of_mem _ (List.mem_cons_self ..))))) rfl agg_22 rfl) (by kernel_rfl) (by kernel_rfl) (by kernel_rfl) (by kernel_rfl) rfl rfl rfl rfl rfl (.inr (fun _ h => at_all h (List.Sublist.cons_cons _ (List.Sublist.cons _ (List.Sublist.cons_cons _ (List.Sublist.cons_cons _ (List.Sublist.cons_cons _ (List.nil_sublist _)))))))) ?_
    refine j_l (i := 5) rfl (y_ldC (fun w h => h _ (List.mem_cons_of_mem _ (List.mem_cons_self ..))) rfl agg_3 rfl) (by kernel_rfl) (by kernel_rfl) (by kernel_rfl) (by kernel_rfl) rfl rfl rfl rfl rfl (.inr (fun _ h => at_all h (List.Sublist.cons_cons _ (List.Sublist.cons _ (List.Sublist.cons_cons _ (List.Sublist.cons_cons _ (List.Sublist.cons_cons _ (List.nil_sublist _)))))))) ?_
    refine j_l (i := 6) rfl (y_ldC (fun w h => h _ (List.mem_cons_of_mem _ (List.mem_cons_self ..))) rfl agg_3 rfl) (by kernel_rfl) (by kernel_rfl) (by kernel_rfl) (by kernel_rfl) rfl rfl rfl rfl rfl (.inr (fun _ h => at_all h (List.Sublist.cons_cons _ (List.Sublist.cons _ (List.Sublist.cons_cons _ (List.Sublist.cons_cons _ (List.Sublist.cons_cons _ (List.nil_sublist _)))))))) ?_
    refine j_p (i := 7) rfl (y_full rfl rfl rfl hcp Try.underlying22 hi3.1 hi3.2.2.1) (by kernel_rfl) (by kernel_rfl) (by kernel_rfl) rfl rfl rfl rfl rfl (.inr (fun _ h => at_all h (List.Sublist.cons_cons _ (List.Sublist.cons _ (List.Sublist.cons_cons _ (List.Sublist.cons_cons _ (List.Sublist.cons_cons _ (List.nil_sublist _)))))))) ?_
    refine j_p (i := 8) rfl (y_move rfl) (by kernel_rfl) (by kernel_rfl) (by kernel_rfl) rfl rfl rfl rfl rfl (.inr (fun _ h => at_all h (List.Sublist.cons_cons _ (List.Sublist.cons _ (List.Sublist.cons_cons _ (List.Sublist.cons_cons _ (List.Sublist.cons_cons _ (List.nil_sublist _)))))))) ?_
    refine j_l (i := 12) rfl (y_ldC (fun w h => h _ (List.mem_cons_of_mem _ (List.mem_cons_of_mem _ (List.mem_cons_self ..)))) rfl agg_50 rfl) (by kernel_rfl) (by kernel_rfl) (by kernel_rfl) (by kernel_rfl) rfl rfl rfl rfl rfl (.inr (fun _ h => at_all h (List.Sublist.cons_cons _ (List.Sublist.cons _ (List.Sublist.cons_cons _ (List.Sublist.cons_cons _ (List.Sublist.cons_cons _ (List.nil_sublist _)))))))) ?_
    refine j_tr (i := 9) rfl (t_build (vs := [(0, .int .i64 x)]) (cells := [.int .i64 x]) rfl rfl Try.underlying22 hi3.1 hi3.2.1 (by rw [hi3.2.2.1]; rfl) (by rw [hi3.2.2.1]; rfl) (by rw [hi3.2.2.1]; kernel_rfl)) (by kernel_rfl) rfl rfl rfl rfl (.inr (fun x w hb h => at_all h (List.Sublist.cons _ (List.Sublist.cons_cons _ (List.Sublist.cons _ (List.Sublist.cons_cons _ (List.Sublist.cons_cons _ (List.Sublist.cons_cons _ (List.nil_sublist _))))))))) (fun b43 hb43 => ?_)
    refine j_tr (i := 10) rfl (t_appendN (enc := (Value.int .i64)) (xs := s) (v := x) rfl rfl Try.underlying22 hi3.1 hi3.2.1 hi3.2.2.1 hi3.2.2.2 rfl (fun w h => hvf.keepC (h.toHq.kc hk2 hmb (sd_cons (Nat.le_trans hsz2 hb43.2) (sd_cons hb9.2 (sd_cons hb6.2 (sd_cons hb5.2 (sd_cons hb3.2 (sd_cons hb2.2 (sd_mb sd_nil))))))))) (fun w h => h.toHq.cell (i := 0) rfl rfl) rfl (by omega) (by unfold maxLen; omega)) (by kernel_rfl) rfl rfl rfl rfl (.inr (fun x w hb h => at_all (sv_tail hb.2 h) (List.Sublist.cons _ (List.Sublist.cons_cons _ (List.Sublist.cons _ (List.Sublist.cons_cons _ (List.Sublist.cons_cons _ (List.Sublist.cons_cons _ (List.nil_sublist _))))))))) (fun svn hokn' => ?_)
    obtain ⟨hokn, bN, capN, jN, rfl, hgeN⟩ := hokn'
    have hln : (s ++ [x]).length = s.length + 1 := by simp
    refine j_p (i := 11) rfl (y_build (vs := [(0, _), (1, _)]) rfl rfl (fun w => bld_48_0_1 _ _ _ _ _ _ w)) (by kernel_rfl) (by kernel_rfl) (by kernel_rfl) rfl rfl rfl rfl rfl (.inr (fun _ h => at_all h (List.Sublist.cons _ (List.Sublist.cons _ (List.Sublist.cons_cons _ (List.Sublist.cons _ (List.Sublist.cons_cons _ (List.Sublist.cons_cons _ (List.Sublist.cons_cons _ (List.nil_sublist _)))))))))) ?_
    refine j_tr (i := 13) rfl (t_callK (A := fun y : Array MapEntry × Nat => SoundI (cntF g) g y.1) (fo := fun y => .map y.1 y.2) (v := .int .i64 (cntR g kk (s ++ [x]))) 7 rfl rfl rfl ent_47 (fun w h => by have h_ := IH ag (some ⟨bN, 0, none⟩) cg capN (s ++ [x]) mb es' clock' w0 w (by omega) (notes_snoc hsn hx0 hx1) h.below hge (at_of (i := 7) h rfl) hS' (hg.keepC (h.toHq.kc hk2 hmb (sd_cons (Nat.le_trans hsz2 hgeN) (sd_cons (Nat.le_trans hsz2 hb43.2) (sd_cons hb9.2 (sd_cons hb6.2 (sd_cons hb5.2 (sd_cons hb3.2 (sd_cons hb2.2 (sd_mb sd_nil)))))))))) (by rw [hln]; exact RdV.own (jk := jN) (at_of (i := 0) h rfl) hln.symm hokn.1); rw [hln] at h_; exact h_)) (by kernel_rfl) rfl rfl rfl rfl (.inr (fun x w hb h => at_all h (List.Sublist.cons _ (List.Sublist.cons _ (List.Sublist.cons_cons _ (List.Sublist.cons _ (List.Sublist.cons_cons _ (List.Sublist.cons_cons _ (List.Sublist.cons_cons _ (List.nil_sublist _)))))))))) (fun y hy => ?_)
    refine j_p (i := 14) rfl (y_add rfl rfl (by omega) (by omega)) (by kernel_rfl) (by kernel_rfl) (by kernel_rfl) rfl rfl rfl rfl rfl (.inr (fun _ h => at_all h (List.Sublist.cons _ (List.Sublist.cons _ (List.Sublist.cons_cons _ (List.Sublist.cons _ (List.Sublist.cons_cons _ (List.Sublist.cons_cons _ (List.Sublist.cons_cons _ (List.nil_sublist _)))))))))) ?_
    refine j_tr0 (i := 15) rfl (t_store 2 rfl rfl rfl rfl size_3 rfl rfl) (by kernel_rfl) rfl rfl rfl (.inl rfl) (fun _ _ => ?_)
    refine j_nil (by kernel_rfl) ?_
    refine g_inb ?_
    exact fun act W _ hW => (have hc_ := rf_close hq hW2 (((show Hp w0 W2 ((bN, .cells ((s ++ [x]).map (Value.int .i64) ++ jN).toArray 3 (0, 0)) :: (b43, .cells [.int .i64 x].toArray 3 (0, 0)) :: (b9, .cells [.int .i64 (out + (cntR g kk (s ++ [x])))].toArray 3 (0, 0)) :: (b6, .cells [.int .i64 (rdI (s.drop (s.length - 3)) 0), .int .i64 (rdI (s.drop (s.length - 3)) 1), .int .i64 (rdI (s.drop (s.length - 3)) 2), .int .i64 (s.length : Int)].toArray 73 (0, 0)) :: (b5, .cells [.int .i64 (s.length : Nat)].toArray 3 (0, 0)) :: (b3, .cells [.map (some mb)].toArray 50 (0, 0)) :: (b2, .cells [.slice ag g.length cg, .slice as_ s.length cs].toArray 48 (0, 0)) :: (mb, .map y.1 y.2) :: []) W from hW).tail hgeN).tail hb43.2) rfl rfl; ⟨hc_.1, _, ⟨(out + (cntR g kk (s ++ [x]))), y.1, y.2, (by rw [take_sum (h := fun y => cntR g kk (s ++ [y])) hx, ← ho]), (by exact hy), rfl⟩, hc_.2⟩)
  · skip
    rintro we W Dm _ hwe ⟨out, es', clock', ho, hS', rfl⟩ hq hD hW hbk
    have hM : Marks w0 W [{ target := .collected Dm, args := #[] }] := Marks.next (ds := []) (w1 := wE) trivial hwe hbk hD hW
    have hE : ∀ d ∈ [({ target := .collected Dm, args := #[] } : Deferred)], ∀ D, d.target = .collected D → wE.heap.size ≤ D := by intro d_ hd_ D e_; rw [List.mem_singleton] at hd_; subst hd_; cases e_; exact Nat.le_trans hwe.size hD
    have hbkE : Bk wE W := fun k o h ho => hbk k o (hwe.marks k o h ho) ho
    rw [List.take_length] at ho
    obtain ⟨F', hM_', hFs'⟩ := id hS'
    have hfin : out = cntR g (kk + 1) s := ho.trans (by rfl)
    have hfin2 : out = cntF g s := hfin.trans (by unfold cntF; rw [show g.length - s.length = kk + 1 by omega])
    refine g_inb ?_
    refine g_then ?_
    refine g_seq ?_
    refine g_region ?_
    refine s_y (y_ld1 3 rfl rfl agg_50 rfl) rfl rfl rfl rfl ?_
    refine s_y (y_ldn 1 rfl rfl agg_73 size_73 rfl rfl) rfl rfl rfl rfl ?_
    refine s_y (y_ld1 0 rfl rfl agg_3 rfl) rfl rfl rfl rfl ?_
    refine s_tr0 (t_putG (k := tailK s) (v := .int .i64 out) 5 tail_map hM_' rfl rfl rfl rfl rfl (tailK_ok hsn (by omega))) rfl rfl rfl (fun y hy => ?_)
    refine s_nil ?_
    refine g_then ?_
    refine g_seq ?_
    refine g_region ?_
    refine s_y (y_ld1 0 rfl rfl agg_3 rfl) rfl rfl rfl rfl ?_
    refine s_y (y_assign rfl) rfl rfl rfl rfl ?_
    refine s_nil ?_
    refine g_then ?_
    refine g_ret ?_
    exact g_endK hM hE hbkE (fun a w ha hq_ => res1 ha rfl rfl  w) (fun w h hb_ => ⟨y, SoundI.put hFs' hy hsn (by omega) hfin2, by rw [hfin], ((((((hp_close hwe hq (show Hq w0 W ((b9, .cells [.int .i64 out].toArray 3 (0, 0)) :: (b6, .cells [.int .i64 (rdI (s.drop (s.length - 3)) 0), .int .i64 (rdI (s.drop (s.length - 3)) 1), .int .i64 (rdI (s.drop (s.length - 3)) 2), .int .i64 (s.length : Int)].toArray 73 (0, 0)) :: (b5, .cells [.int .i64 (s.length : Nat)].toArray 3 (0, 0)) :: (b3, .cells [.map (some mb)].toArray 50 (0, 0)) :: (b2, .cells [.slice ag g.length cg, .slice as_ s.length cs].toArray 48 (0, 0)) :: (mb, .map y.1 y.2) :: []) w from h) hb_ rfl rfl).tail hb9.2).tail hb6.2).tail hb5.2).tail hb3.2).tail hb2.2)⟩)
  · skip
    exact fun _ _ _ _ _ _ _ h => h.elim

theorem count_any {g : List Int} (hgl : g.length ≤ 8) (hgn : ∀ x ∈ g, 0 ≤ x ∧ x ≤ 20) : ∀ k, countAt g k
  | 0 => fun ag as_ cg cs s mb es clock w0 wE hle hsn hb0 hge hmb hS hg hs => count_full ag as_ cg cs g s mb es clock w0 wE 0 hle hgl hgn hsn hb0 hge hmb hS hg hs
  | kk + 1 => fun ag as_ cg cs s mb es clock w0 wE hle hsn hb0 hge hmb hS hg hs => by
    obtain ⟨F, hM_, hFs⟩ := id hS
    cases hF : F (tailK s) with
    | none => exact count_new ag as_ cg cs g s mb es clock w0 wE kk hle hgl hgn hsn hb0 hge hmb hS hg hs F hM_ hF (count_any hgl hgn kk)
    | some v =>
      obtain ⟨s', h1, h2, h3, rfl⟩ := hFs _ _ hF
      exact count_known ag as_ cg cs g s mb es clock w0 wE kk hle hgl hgn hsn hb0 hge hmb hS hg hs (cntF g s') F hM_ hF ((cntF_tail h3).trans (by unfold cntF; rw [show g.length - s.length = kk + 1 by omega]))

def longestAt (g : List Int) (k : Nat) : Prop := ∀ (ag as_ : Option Addr) (cg cs : Nat) (s : List Int) (mb : Nat) (es : Array MapEntry) (clock : Nat) (w0 wE : World), s.length + k = g.length → (∀ x ∈ s, 0 ≤ x ∧ x ≤ 20) → Below w0.heap.size w0 wE → w0.heap.size ≤ mb → wE.heap[mb]? = some (.map es clock) → SoundI (lonF g) g es → RdV (Value.int .i64) wE (.slice ag g.length cg) g → RdV (Value.int .i64) wE (.slice as_ s.length cs) s →
    Calls Try.prog 59 [.agg #[.slice ag g.length cg, .slice as_ s.length cs], .map (some mb)].toArray wE fun e w' => ∃ y : Array MapEntry × Nat, SoundI (lonF g) g y.1 ∧ e = .returned (.int .i64 (lonR g (k) s)) ∧ Hp w0 wE [(mb, .map y.1 y.2)] w'

theorem longest_full (ag as_ : Option Addr) (cg cs : Nat) (g s : List Int) (mb : Nat) (es : Array MapEntry) (clock : Nat) (w0 wE : World) (kk : Nat) (hle : s.length + 0 = g.length) (hgl : g.length ≤ 8) (hgn : ∀ x ∈ g, 0 ≤ x ∧ x ≤ 20) (hsn : ∀ x ∈ s, 0 ≤ x ∧ x ≤ 20) (hb0 : Below w0.heap.size w0 wE) (hge : w0.heap.size ≤ mb) (hmb : wE.heap[mb]? = some (.map es clock)) (hS : SoundI (lonF g) g es) (hg : RdV (Value.int .i64) wE (.slice ag g.length cg) g) (hs : RdV (Value.int .i64) wE (.slice as_ s.length cs) s)  :
    Calls Try.prog 59 [.agg #[.slice ag g.length cg, .slice as_ s.length cs], .map (some mb)].toArray wE fun e w' => ∃ y : Array MapEntry × Nat, SoundI (lonF g) g y.1 ∧ e = .returned (.int .i64 (lonR g (0) s)) ∧ Hp w0 wE [(mb, .map y.1 y.2)] w' := by
  refine enterM (N := 53) Try.func59 rfl rfl rfl (Hp.start hb0 hge hmb) ?_
  refine g_seq ?_
  refine g_region ?_
  refine s_tr (t_box rfl rfl) rfl rfl rfl rfl (fun b2 hb2 => ?_)
  refine s_tr (t_box rfl rfl) rfl rfl rfl rfl (fun b3 hb3 => ?_)
  refine s_y (y_assign rfl) rfl rfl rfl rfl ?_
  refine s_nil ?_
  refine g_then ?_
  refine g_seq ?_
  refine g_region ?_
  refine s_y (y_fld rfl (fun w => fld_48_1 _ _ w)) rfl rfl rfl rfl ?_
  refine s_y (y_ld1 1 rfl rfl agg_22 rfl) rfl rfl rfl rfl ?_
  refine s_y (y_lenV (n := s.length) rfl (by obtain ⟨A, c, h1, _⟩ := hs; exact ⟨A, c, h1⟩) sle_22) rfl rfl rfl rfl ?_
  refine s_tr (t_alloc zero_3 rfl) rfl rfl rfl rfl (fun b5 hb5 => ?_)
  refine s_tr0 (t_store 0 rfl rfl rfl rfl size_3 rfl rfl) rfl rfl rfl (fun _ _ => ?_)
  refine s_nil ?_
  refine g_then ?_
  refine g_seq ?_
  refine g_seq ?_
  refine g_region ?_
  refine s_y (y_ld1 0 rfl rfl agg_3 rfl) rfl rfl rfl rfl ?_
  refine s_y (y_fld rfl (fun w => fld_48_0 _ _ w)) rfl rfl rfl rfl ?_
  refine s_y (y_ld1 2 rfl rfl agg_22 rfl) rfl rfl rfl rfl ?_
  refine s_y (y_lenV (n := g.length) rfl (by obtain ⟨A, c, h1, _⟩ := hg; exact ⟨A, c, h1⟩) sle_22) rfl rfl rfl rfl ?_
  refine s_y (y_eql_t rfl rfl (by omega)) rfl rfl rfl rfl ?_
  refine s_nil ?_
  refine g_then ?_
  refine g_cond_t rfl ?_
  refine g_seq ?_
  refine g_region ?_
  refine s_y (y_ld1 0 rfl rfl agg_3 rfl) rfl rfl rfl rfl ?_
  refine s_y (y_assign rfl) rfl rfl rfl rfl ?_
  refine s_nil ?_
  refine g_then ?_
  refine g_ret ?_
  refine g_thenr ?_
  exact g_end0 (fun a w ha hq_ => res1 ha rfl rfl  w) (fun w h => ⟨(es, clock), hS, congrArg (fun q_ : Nat => Ending.returned (.int .i64 (q_ : Int))) (by first | rfl | omega), ((((show Hp w0 wE ((b5, .cells [.int .i64 (s.length : Nat)].toArray 3 (0, 0)) :: (b3, .cells [.map (some mb)].toArray 50 (0, 0)) :: (b2, .cells [.slice ag g.length cg, .slice as_ s.length cs].toArray 48 (0, 0)) :: (mb, .map es clock) :: []) w from h).tail hb5.2).tail hb3.2).tail hb2.2)⟩)

theorem longest_known (ag as_ : Option Addr) (cg cs : Nat) (g s : List Int) (mb : Nat) (es : Array MapEntry) (clock : Nat) (w0 wE : World) (kk : Nat) (hle : s.length + (kk + 1) = g.length) (hgl : g.length ≤ 8) (hgn : ∀ x ∈ g, 0 ≤ x ∧ x ≤ 20) (hsn : ∀ x ∈ s, 0 ≤ x ∧ x ≤ 20) (hb0 : Below w0.heap.size w0 wE) (hge : w0.heap.size ≤ mb) (hmb : wE.heap[mb]? = some (.map es clock)) (hS : SoundI (lonF g) g es) (hg : RdV (Value.int .i64) wE (.slice ag g.length cg) g) (hs : RdV (Value.int .i64) wE (.slice as_ s.length cs) s) (z : Int) (F : TK → Option Value) (hM_ : MapG tkV tkok es F) (hF : F (tailK s) = some (.int .i64 z)) (hzv : z = lonR g (kk + 1) s) :
    Calls Try.prog 59 [.agg #[.slice ag g.length cg, .slice as_ s.length cs], .map (some mb)].toArray wE fun e w' => ∃ y : Array MapEntry × Nat, SoundI (lonF g) g y.1 ∧ e = .returned (.int .i64 (lonR g ((kk + 1)) s)) ∧ Hp w0 wE [(mb, .map y.1 y.2)] w' := by
  refine enterM (N := 53) Try.func59 rfl rfl rfl (Hp.start hb0 hge hmb) ?_
  refine g_seq ?_
  refine g_region ?_
  refine s_tr (t_box rfl rfl) rfl rfl rfl rfl (fun b2 hb2 => ?_)
  refine s_tr (t_box rfl rfl) rfl rfl rfl rfl (fun b3 hb3 => ?_)
  refine s_y (y_assign rfl) rfl rfl rfl rfl ?_
  refine s_nil ?_
  refine g_then ?_
  refine g_seq ?_
  refine g_region ?_
  refine s_y (y_fld rfl (fun w => fld_48_1 _ _ w)) rfl rfl rfl rfl ?_
  refine s_y (y_ld1 1 rfl rfl agg_22 rfl) rfl rfl rfl rfl ?_
  refine s_y (y_lenV (n := s.length) rfl (by obtain ⟨A, c, h1, _⟩ := hs; exact ⟨A, c, h1⟩) sle_22) rfl rfl rfl rfl ?_
  refine s_tr (t_alloc zero_3 rfl) rfl rfl rfl rfl (fun b5 hb5 => ?_)
  refine s_tr0 (t_store 0 rfl rfl rfl rfl size_3 rfl rfl) rfl rfl rfl (fun _ _ => ?_)
  refine s_nil ?_
  refine g_then ?_
  refine g_seq ?_
  refine g_seq ?_
  refine g_region ?_
  refine s_y (y_ld1 0 rfl rfl agg_3 rfl) rfl rfl rfl rfl ?_
  refine s_y (y_fld rfl (fun w => fld_48_0 _ _ w)) rfl rfl rfl rfl ?_
  refine s_y (y_ld1 2 rfl rfl agg_22 rfl) rfl rfl rfl rfl ?_
  refine s_y (y_lenV (n := g.length) rfl (by obtain ⟨A, c, h1, _⟩ := hg; exact ⟨A, c, h1⟩) sle_22) rfl rfl rfl rfl ?_
  refine s_y (y_eql_f rfl rfl (by omega)) rfl rfl rfl rfl ?_
  refine s_nil ?_
  refine g_then ?_
  refine g_cond_f rfl ?_
  refine g_skip ?_
  refine g_then ?_
  refine g_seq ?_
  refine g_region ?_
  refine s_y (y_ldn 2 rfl rfl agg_48 size_48 rfl rfl) rfl rfl rfl rfl ?_
  refine s_tr (t_call rfl rfl ent_67 (fun w h => tail_any w ag as_ cg cs g s (hg.keepC (h.toHq.kc (KeepC.refl _) hmb (sd_cons hb5.2 (sd_cons hb3.2 (sd_cons hb2.2 (sd_mb sd_nil)))))) (hs.keepC (h.toHq.kc (KeepC.refl _) hmb (sd_cons hb5.2 (sd_cons hb3.2 (sd_cons hb2.2 (sd_mb sd_nil)))))) (by omega))) rfl rfl rfl rfl (fun _ _ => ?_)
  refine s_tr (t_alloc zero_73 rfl) rfl rfl rfl rfl (fun b6 hb6 => ?_)
  refine s_tr0 (t_store 0 rfl rfl rfl rfl size_73 rfl rfl) rfl rfl rfl (fun _ _ => ?_)
  refine s_nil ?_
  refine g_then ?_
  refine g_seq ?_
  refine g_seq ?_
  refine g_region ?_
  refine s_y (y_ld1 2 rfl rfl agg_50 rfl) rfl rfl rfl rfl ?_
  refine s_y (y_ldn 0 rfl rfl agg_73 size_73 rfl rfl) rfl rfl rfl rfl ?_
  refine s_y (y_lookS hF tail_map hM_ (fun w h => h.at_ _ (List.mem_cons_of_mem _ (List.mem_cons_of_mem _ (List.mem_cons_of_mem _ (List.mem_cons_of_mem _ (List.mem_cons_self ..)))))) rfl rfl rfl (tailK_ok hsn (by omega))) rfl rfl rfl rfl ?_
  refine s_y (y_move rfl) rfl rfl rfl rfl ?_
  refine s_y (y_extract rfl rfl) rfl rfl rfl rfl ?_
  refine s_y (y_extract rfl rfl) rfl rfl rfl rfl ?_
  refine s_y (y_assign rfl) rfl rfl rfl rfl ?_
  refine s_y (y_assign rfl) rfl rfl rfl rfl ?_
  refine s_nil ?_
  refine g_then ?_
  refine g_seq ?_
  refine g_region ?_
  refine s_y (y_move rfl) rfl rfl rfl rfl ?_
  refine s_nil ?_
  refine g_then ?_
  refine g_cond_t rfl ?_
  refine g_seq ?_
  refine g_region ?_
  refine s_y (y_move rfl) rfl rfl rfl rfl ?_
  refine s_y (y_assign rfl) rfl rfl rfl rfl ?_
  refine s_nil ?_
  refine g_then ?_
  refine g_ret ?_
  refine g_thenr ?_
  exact g_end0 (fun a w ha hq_ => res1 ha rfl rfl  w) (fun w h => ⟨(es, clock), hS, congrArg (fun q_ : Int => Ending.returned (.int .i64 q_)) hzv, (((((show Hp w0 wE ((b6, .cells [.int .i64 (rdI (s.drop (s.length - 3)) 0), .int .i64 (rdI (s.drop (s.length - 3)) 1), .int .i64 (rdI (s.drop (s.length - 3)) 2), .int .i64 (s.length : Int)].toArray 73 (0, 0)) :: (b5, .cells [.int .i64 (s.length : Nat)].toArray 3 (0, 0)) :: (b3, .cells [.map (some mb)].toArray 50 (0, 0)) :: (b2, .cells [.slice ag g.length cg, .slice as_ s.length cs].toArray 48 (0, 0)) :: (mb, .map es clock) :: []) w from h).tail hb6.2).tail hb5.2).tail hb3.2).tail hb2.2)⟩)

theorem longest_new (ag as_ : Option Addr) (cg cs : Nat) (g s : List Int) (mb : Nat) (es : Array MapEntry) (clock : Nat) (w0 wE : World) (kk : Nat) (hle : s.length + (kk + 1) = g.length) (hgl : g.length ≤ 8) (hgn : ∀ x ∈ g, 0 ≤ x ∧ x ≤ 20) (hsn : ∀ x ∈ s, 0 ≤ x ∧ x ≤ 20) (hb0 : Below w0.heap.size w0 wE) (hge : w0.heap.size ≤ mb) (hmb : wE.heap[mb]? = some (.map es clock)) (hS : SoundI (lonF g) g es) (hg : RdV (Value.int .i64) wE (.slice ag g.length cg) g) (hs : RdV (Value.int .i64) wE (.slice as_ s.length cs) s) (F : TK → Option Value) (hM_ : MapG tkV tkok es F) (hF : F (tailK s) = none) (IH : longestAt g kk) :
    Calls Try.prog 59 [.agg #[.slice ag g.length cg, .slice as_ s.length cs], .map (some mb)].toArray wE fun e w' => ∃ y : Array MapEntry × Nat, SoundI (lonF g) g y.1 ∧ e = .returned (.int .i64 (lonR g ((kk + 1)) s)) ∧ Hp w0 wE [(mb, .map y.1 y.2)] w' := by
  obtain ⟨ie3, hi3⟩ := inf_3
  refine enterM (N := 53) Try.func59 rfl rfl rfl (Hp.start hb0 hge hmb) ?_
  refine g_seq ?_
  refine g_region ?_
  refine s_tr (t_box rfl rfl) rfl rfl rfl rfl (fun b2 hb2 => ?_)
  refine s_tr (t_box rfl rfl) rfl rfl rfl rfl (fun b3 hb3 => ?_)
  refine s_y (y_assign rfl) rfl rfl rfl rfl ?_
  refine s_nil ?_
  refine g_then ?_
  refine g_seq ?_
  refine g_region ?_
  refine s_y (y_fld rfl (fun w => fld_48_1 _ _ w)) rfl rfl rfl rfl ?_
  refine s_y (y_ld1 1 rfl rfl agg_22 rfl) rfl rfl rfl rfl ?_
  refine s_y (y_lenV (n := s.length) rfl (by obtain ⟨A, c, h1, _⟩ := hs; exact ⟨A, c, h1⟩) sle_22) rfl rfl rfl rfl ?_
  refine s_tr (t_alloc zero_3 rfl) rfl rfl rfl rfl (fun b5 hb5 => ?_)
  refine s_tr0 (t_store 0 rfl rfl rfl rfl size_3 rfl rfl) rfl rfl rfl (fun _ _ => ?_)
  refine s_nil ?_
  refine g_then ?_
  refine g_seq ?_
  refine g_seq ?_
  refine g_region ?_
  refine s_y (y_ld1 0 rfl rfl agg_3 rfl) rfl rfl rfl rfl ?_
  refine s_y (y_fld rfl (fun w => fld_48_0 _ _ w)) rfl rfl rfl rfl ?_
  refine s_y (y_ld1 2 rfl rfl agg_22 rfl) rfl rfl rfl rfl ?_
  refine s_y (y_lenV (n := g.length) rfl (by obtain ⟨A, c, h1, _⟩ := hg; exact ⟨A, c, h1⟩) sle_22) rfl rfl rfl rfl ?_
  refine s_y (y_eql_f rfl rfl (by omega)) rfl rfl rfl rfl ?_
  refine s_nil ?_
  refine g_then ?_
  refine g_cond_f rfl ?_
  refine g_skip ?_
  refine g_then ?_
  refine g_seq ?_
  refine g_region ?_
  refine s_y (y_ldn 2 rfl rfl agg_48 size_48 rfl rfl) rfl rfl rfl rfl ?_
  refine s_tr (t_call rfl rfl ent_67 (fun w h => tail_any w ag as_ cg cs g s (hg.keepC (h.toHq.kc (KeepC.refl _) hmb (sd_cons hb5.2 (sd_cons hb3.2 (sd_cons hb2.2 (sd_mb sd_nil)))))) (hs.keepC (h.toHq.kc (KeepC.refl _) hmb (sd_cons hb5.2 (sd_cons hb3.2 (sd_cons hb2.2 (sd_mb sd_nil)))))) (by omega))) rfl rfl rfl rfl (fun _ _ => ?_)
  refine s_tr (t_alloc zero_73 rfl) rfl rfl rfl rfl (fun b6 hb6 => ?_)
  refine s_tr0 (t_store 0 rfl rfl rfl rfl size_73 rfl rfl) rfl rfl rfl (fun _ _ => ?_)
  refine s_nil ?_
  refine g_then ?_
  refine g_seq ?_
  refine g_seq ?_
  refine g_region ?_
  refine s_y (y_ld1 2 rfl rfl agg_50 rfl) rfl rfl rfl rfl ?_
  refine s_y (y_ldn 0 rfl rfl agg_73 size_73 rfl rfl) rfl rfl rfl rfl ?_
  refine s_y (y_lookN hF tail_map hM_ (fun w h => h.at_ _ (List.mem_cons_of_mem _ (List.mem_cons_of_mem _ (List.mem_cons_of_mem _ (List.mem_cons_of_mem _ (List.mem_cons_self ..)))))) rfl rfl rfl (tailK_ok hsn (by omega))) rfl rfl rfl rfl ?_
  refine s_y (y_move rfl) rfl rfl rfl rfl ?_
  refine s_y (y_extract rfl rfl) rfl rfl rfl rfl ?_
  refine s_y (y_extract rfl rfl) rfl rfl rfl rfl ?_
  refine s_y (y_assign rfl) rfl rfl rfl rfl ?_
  refine s_y (y_assign rfl) rfl rfl rfl rfl ?_
  refine s_nil ?_
  refine g_then ?_
  refine g_seq ?_
  refine g_region ?_
  refine s_y (y_move rfl) rfl rfl rfl rfl ?_
  refine s_nil ?_
  refine g_then ?_
  refine g_cond_f rfl ?_
  refine g_skip ?_
  refine g_then ?_
  refine g_seq ?_
  refine g_region ?_
  refine s_y (y_ld1 1 rfl rfl agg_3 rfl) rfl rfl rfl rfl ?_
  refine s_tr (t_alloc zero_3 rfl) rfl rfl rfl rfl (fun b9 hb9 => ?_)
  refine s_tr0 (t_store 0 rfl rfl rfl rfl size_3 rfl rfl) rfl rfl rfl (fun _ _ => ?_)
  refine s_nil ?_
  refine g_then ?_
  refine g_seq ?_
  refine g_seq ?_
  refine g_region ?_
  refine s_y (y_ldn 4 rfl rfl agg_48 size_48 rfl rfl) rfl rfl rfl rfl ?_
  refine s_y (y_func rfl rfl) rfl rfl rfl rfl ?_
  refine s_nil ?_
  refine g_then ?_
  refine g_block ?_
  refine g_rangeF (gf := 55) (fs := [.agg #[.slice ag g.length cg, .slice as_ s.length cs]]) (lb := []) (encs := (fun x : Int => [.int .i64 x])) (xs := (nxL g s)) rfl ent_55 (fun _ => rfl) (by decide) (fun _ W => RdV (Value.int .i64) W (.slice ag g.length cg) g ∧ RdV (Value.int .i64) W (.slice as_ s.length cs) s)
    (fun k m' => ∃ (out : Int) (es' : Array MapEntry) (clock' : Nat), (out = (((nxL g s).take k)).foldl (fun o y => if lonR g kk (s ++ [y]) > o then lonR g kk (s ++ [y]) else o) (s.length : Int)) ∧ (SoundI (lonF g) g es') ∧ m' = (b9, .cells [.int .i64 out].toArray 3 (0, 0)) :: (b6, .cells [.int .i64 (rdI (s.drop (s.length - 3)) 0), .int .i64 (rdI (s.drop (s.length - 3)) 1), .int .i64 (rdI (s.drop (s.length - 3)) 2), .int .i64 (s.length : Int)].toArray 73 (0, 0)) :: (b5, .cells [.int .i64 (s.length : Nat)].toArray 3 (0, 0)) :: (b3, .cells [.map (some mb)].toArray 50 (0, 0)) :: (b2, .cells [.slice ag g.length cg, .slice as_ s.length cs].toArray 48 (0, 0)) :: (mb, .map es' clock') :: []) (fun _ _ _ => False)
    (fun we hwe => next_iter ag as_ cg cs g s (by omega) (by omega) hgn hsn)
    (by rintro we k _ W hwe ⟨out, es', clock', ho, hS', rfl⟩ h; have hk1 := h.kc (hwe.toHq.kc (KeepC.refl _) hmb (sd_cons hb9.2 (sd_cons hb6.2 (sd_cons hb5.2 (sd_cons hb3.2 (sd_cons hb2.2 (sd_mb sd_nil))))))) hmb (sd_cons hb9.2 (sd_cons hb6.2 (sd_cons hb5.2 (sd_cons hb3.2 (sd_cons hb2.2 (sd_mb sd_nil)))))); exact ⟨hg.keepC hk1, hs.keepC hk1⟩) ⟨(s.length : Int), es, clock, (by rfl), (by exact hS), rfl⟩ ?_ ?_ ?_
  · skip
    rintro we W1 hwe lp k x _ hx ⟨out, es', clock', ho, hS', rfl⟩ hq K hK
    obtain ⟨hx0, hx1, hxb⟩ := nxL_mem (List.mem_of_getElem? hx)
    have hkl := (List.getElem?_eq_some_iff.1 hx).1
    have hl21 := nxL_len g s
    refine g_region ?_
    refine s_y (y_assign rfl) rfl rfl rfl rfl ?_
    refine s_nil ?_
    refine g_then ?_
    refine hK _ _ (fun W2 hW2 => ?_)
    have hk2 : KeepC wE W2 := hW2.kc (hq.kc (hwe.toHq.kc (KeepC.refl _) hmb (sd_cons hb9.2 (sd_cons hb6.2 (sd_cons hb5.2 (sd_cons hb3.2 (sd_cons hb2.2 (sd_mb sd_nil))))))) hmb (sd_cons hb9.2 (sd_cons hb6.2 (sd_cons hb5.2 (sd_cons hb3.2 (sd_cons hb2.2 (sd_mb sd_nil))))))) hmb (sd_cons hb9.2 (sd_cons hb6.2 (sd_cons hb5.2 (sd_cons hb3.2 (sd_cons hb2.2 (sd_mb sd_nil))))))
    have hsz2 : wE.heap.size ≤ W2.heap.size := Nat.le_trans hwe.size (Nat.le_trans hq.size hW2.size)
    obtain ⟨hcp, hvf⟩ := full_of hs
    refine g_block ?_
    refine g_drawC 15 (fun W => ∀ p ∈ ((b9, .cells [.int .i64 out].toArray 3 (0, 0)) :: (b5, .cells [.int .i64 (s.length : Nat)].toArray 3 (0, 0)) :: (b3, .cells [.map (some mb)].toArray 50 (0, 0)) :: (b2, .cells [.slice ag g.length cg, .slice as_ s.length cs].toArray 48 (0, 0)) :: [] : List (Nat × Obj)), W.heap[p.1]? = some p.2) (by kernel_rfl) ?_
    refine j_l (i := 0) rfl (y_ldC (fun w h => h _ (List.mem_cons_self ..)) rfl agg_3 rfl) (by kernel_rfl) (by kernel_rfl) (by kernel_rfl) (by kernel_rfl) rfl rfl rfl rfl rfl (.inr (fun _ h => at_all h (List.Sublist.cons_cons _ (List.Sublist.cons _ (List.Sublist.cons_cons _ (List.Sublist.cons_cons _ (List.Sublist.cons_cons _ (List.nil_sublist _)))))))) ?_
    refine j_p (i := 1) rfl (y_fld rfl (fun w => fld_48_0 _ _ w)) (by kernel_rfl) (by kernel_rfl) (by kernel_rfl) rfl rfl rfl rfl rfl (.inr (fun _ h => at_all h (List.Sublist.cons_cons _ (List.Sublist.cons _ (List.Sublist.cons_cons _ (List.Sublist.cons_cons _ (List.Sublist.cons_cons _ (List.nil_sublist _)))))))) ?_
    refine j_l (i := 2) rfl (y_ldC (fun w h => h _ (List.mem_cons_of_mem _ (List.mem_cons_of_mem _ (List.mem_cons_of_mem _ (List.mem_cons_self ..))))) rfl agg_22 rfl) (by kernel_rfl) (by kernel_rfl) (by kernel_rfl) (by kernel_rfl) rfl rfl rfl rfl rfl (.inr (fun _ h => at_all h (List.Sublist.cons_cons _ (List.Sublist.cons _ (List.Sublist.cons_cons _ (List.Sublist.cons_cons _ (List.Sublist.cons_cons _ (List.nil_sublist _)))))))) ?_
    refine j_p (i := 3) rfl (y_fld rfl (fun w => fld_48_1 _ _ w)) (by kernel_rfl) (by kernel_rfl) (by kernel_rfl) rfl rfl rfl rfl rfl (.inr (fun _ h => at_all h (List.Sublist.cons_cons _ (List.Sublist.cons _ (List.Sublist.cons_cons _ (List.Sublist.cons_cons _ (List.Sublist.cons_cons _ (List.nil_sublist _)))))))) ?_
    refine j_l (i := 4) rfl (y_ldC (fun w h => h _ (List.mem_cons_of_mem _ (List.mem_cons_of_mem _ (List.mem_cons_of_mem _ (List.mem_cons_self ..))))) rfl agg_22 rfl) (by kernel_rfl) (by kernel_rfl) (by kernel_rfl) (by kernel_rfl) rfl rfl rfl rfl rfl (.inr (fun _ h => at_all h (List.Sublist.cons_cons _ (List.Sublist.cons _ (List.Sublist.cons_cons _ (List.Sublist.cons_cons _ (List.Sublist.cons_cons _ (List.nil_sublist _)))))))) ?_
    refine j_l (i := 5) rfl (y_ldC (fun w h => h _ (List.mem_cons_of_mem _ (List.mem_cons_self ..))) rfl agg_3 rfl) (by kernel_rfl) (by kernel_rfl) (by kernel_rfl) (by kernel_rfl) rfl rfl rfl rfl rfl (.inr (fun _ h => at_all h (List.Sublist.cons_cons _ (List.Sublist.cons _ (List.Sublist.cons_cons _ (List.Sublist.cons_cons _ (List.Sublist.cons_cons _ (List.nil_sublist _)))))))) ?_
    refine j_l (i := 6) rfl (y_ldC (fun w h => h _ (List.mem_cons_of_mem _ (List.mem_cons_self ..))) rfl agg_3 rfl) (by kernel_rfl) (by kernel_rfl) (by kernel_rfl) (by kernel_rfl) rfl rfl rfl rfl rfl (.inr (fun _ h => at_all h (List.Sublist.cons_cons _ (List.Sublist.cons _ (List.Sublist.cons_cons _ (List.Sublist.cons_cons _ (List.Sublist.cons_cons _ (List.nil_sublist _)))))))) ?_
    refine j_p (i := 7) rfl (y_full rfl rfl rfl hcp Try.underlying22 hi3.1 hi3.2.2.1) (by kernel_rfl) (by kernel_rfl) (by kernel_rfl) rfl rfl rfl rfl rfl (.inr (fun _ h => at_all h (List.Sublist.cons_cons _ (List.Sublist.cons _ (List.Sublist.cons_cons _ (List.Sublist.cons_cons _ (List.Sublist.cons_cons _ (List.nil_sublist _)))))))) ?_
    refine j_p (i := 8) rfl (y_move rfl) (by kernel_rfl) (by kernel_rfl) (by kernel_rfl) rfl rfl rfl rfl rfl (.inr (fun _ h => at_all h (List.Sublist.cons_cons _ (List.Sublist.cons _ (List.Sublist.cons_cons _ (List.Sublist.cons_cons _ (List.Sublist.cons_cons _ (List.nil_sublist _)))))))) ?_
    refine j_l (i := 12) rfl (y_ldC (fun w h => h _ (List.mem_cons_of_mem _ (List.mem_cons_of_mem _ (List.mem_cons_self ..)))) rfl agg_50 rfl) (by kernel_rfl) (by kernel_rfl) (by kernel_rfl) (by kernel_rfl) rfl rfl rfl rfl rfl (.inr (fun _ h => at_all h (List.Sublist.cons_cons _ (List.Sublist.cons _ (List.Sublist.cons_cons _ (List.Sublist.cons_cons _ (List.Sublist.cons_cons _ (List.nil_sublist _)))))))) ?_
    refine j_tr (i := 9) rfl (t_build (vs := [(0, .int .i64 x)]) (cells := [.int .i64 x]) rfl rfl Try.underlying22 hi3.1 hi3.2.1 (by rw [hi3.2.2.1]; rfl) (by rw [hi3.2.2.1]; rfl) (by rw [hi3.2.2.1]; kernel_rfl)) (by kernel_rfl) rfl rfl rfl rfl (.inr (fun x w hb h => at_all h (List.Sublist.cons _ (List.Sublist.cons_cons _ (List.Sublist.cons _ (List.Sublist.cons_cons _ (List.Sublist.cons_cons _ (List.Sublist.cons_cons _ (List.nil_sublist _))))))))) (fun b43 hb43 => ?_)
    refine j_tr (i := 10) rfl (t_appendN (enc := (Value.int .i64)) (xs := s) (v := x) rfl rfl Try.underlying22 hi3.1 hi3.2.1 hi3.2.2.1 hi3.2.2.2 rfl (fun w h => hvf.keepC (h.toHq.kc hk2 hmb (sd_cons (Nat.le_trans hsz2 hb43.2) (sd_cons hb9.2 (sd_cons hb6.2 (sd_cons hb5.2 (sd_cons hb3.2 (sd_cons hb2.2 (sd_mb sd_nil))))))))) (fun w h => h.toHq.cell (i := 0) rfl rfl) rfl (by omega) (by unfold maxLen; omega)) (by kernel_rfl) rfl rfl rfl rfl (.inr (fun x w hb h => at_all (sv_tail hb.2 h) (List.Sublist.cons _ (List.Sublist.cons_cons _ (List.Sublist.cons _ (List.Sublist.cons_cons _ (List.Sublist.cons_cons _ (List.Sublist.cons_cons _ (List.nil_sublist _))))))))) (fun svn hokn' => ?_)
    obtain ⟨hokn, bN, capN, jN, rfl, hgeN⟩ := hokn'
    have hln : (s ++ [x]).length = s.length + 1 := by simp
    refine j_p (i := 11) rfl (y_build (vs := [(0, _), (1, _)]) rfl rfl (fun w => bld_48_0_1 _ _ _ _ _ _ w)) (by kernel_rfl) (by kernel_rfl) (by kernel_rfl) rfl rfl rfl rfl rfl (.inr (fun _ h => at_all h (List.Sublist.cons _ (List.Sublist.cons _ (List.Sublist.cons_cons _ (List.Sublist.cons _ (List.Sublist.cons_cons _ (List.Sublist.cons_cons _ (List.Sublist.cons_cons _ (List.nil_sublist _)))))))))) ?_
    refine j_tr (i := 13) rfl (t_callK (A := fun y : Array MapEntry × Nat => SoundI (lonF g) g y.1) (fo := fun y => .map y.1 y.2) (v := .int .i64 (lonR g kk (s ++ [x]))) 7 rfl rfl rfl ent_59 (fun w h => by have h_ := IH ag (some ⟨bN, 0, none⟩) cg capN (s ++ [x]) mb es' clock' w0 w (by omega) (notes_snoc hsn hx0 hx1) h.below hge (at_of (i := 7) h rfl) hS' (hg.keepC (h.toHq.kc hk2 hmb (sd_cons (Nat.le_trans hsz2 hgeN) (sd_cons (Nat.le_trans hsz2 hb43.2) (sd_cons hb9.2 (sd_cons hb6.2 (sd_cons hb5.2 (sd_cons hb3.2 (sd_cons hb2.2 (sd_mb sd_nil)))))))))) (by rw [hln]; exact RdV.own (jk := jN) (at_of (i := 0) h rfl) hln.symm hokn.1); rw [hln] at h_; exact h_)) (by kernel_rfl) rfl rfl rfl rfl (.inr (fun x w hb h => at_all h (List.Sublist.cons _ (List.Sublist.cons _ (List.Sublist.cons_cons _ (List.Sublist.cons _ (List.Sublist.cons_cons _ (List.Sublist.cons_cons _ (List.Sublist.cons_cons _ (List.nil_sublist _)))))))))) (fun y hy => ?_)
    refine j_p (i := 14) rfl (y_max rfl rfl) (by kernel_rfl) (by kernel_rfl) (by kernel_rfl) rfl rfl rfl rfl rfl (.inr (fun _ h => at_all h (List.Sublist.cons _ (List.Sublist.cons _ (List.Sublist.cons_cons _ (List.Sublist.cons _ (List.Sublist.cons_cons _ (List.Sublist.cons_cons _ (List.Sublist.cons_cons _ (List.nil_sublist _)))))))))) ?_
    refine j_tr0 (i := 15) rfl (t_store 2 rfl rfl rfl rfl size_3 rfl rfl) (by kernel_rfl) rfl rfl rfl (.inl rfl) (fun _ _ => ?_)
    refine j_nil (by kernel_rfl) ?_
    refine g_inb ?_
    exact fun act W _ hW => (have hc_ := rf_close hq hW2 (((show Hp w0 W2 ((bN, .cells ((s ++ [x]).map (Value.int .i64) ++ jN).toArray 3 (0, 0)) :: (b43, .cells [.int .i64 x].toArray 3 (0, 0)) :: (b9, .cells [.int .i64 (if (lonR g kk (s ++ [x])) > out then (lonR g kk (s ++ [x])) else out)].toArray 3 (0, 0)) :: (b6, .cells [.int .i64 (rdI (s.drop (s.length - 3)) 0), .int .i64 (rdI (s.drop (s.length - 3)) 1), .int .i64 (rdI (s.drop (s.length - 3)) 2), .int .i64 (s.length : Int)].toArray 73 (0, 0)) :: (b5, .cells [.int .i64 (s.length : Nat)].toArray 3 (0, 0)) :: (b3, .cells [.map (some mb)].toArray 50 (0, 0)) :: (b2, .cells [.slice ag g.length cg, .slice as_ s.length cs].toArray 48 (0, 0)) :: (mb, .map y.1 y.2) :: []) W from hW).tail hgeN).tail hb43.2) rfl rfl; ⟨hc_.1, _, ⟨(if (lonR g kk (s ++ [x])) > out then (lonR g kk (s ++ [x])) else out), y.1, y.2, (by rw [take_fold hx, ← ho]), (by exact hy), rfl⟩, hc_.2⟩)
  · skip
    rintro we W Dm _ hwe ⟨out, es', clock', ho, hS', rfl⟩ hq hD hW hbk
    have hM : Marks w0 W [{ target := .collected Dm, args := #[] }] := Marks.next (ds := []) (w1 := wE) trivial hwe hbk hD hW
    have hE : ∀ d ∈ [({ target := .collected Dm, args := #[] } : Deferred)], ∀ D, d.target = .collected D → wE.heap.size ≤ D := by intro d_ hd_ D e_; rw [List.mem_singleton] at hd_; subst hd_; cases e_; exact Nat.le_trans hwe.size hD
    have hbkE : Bk wE W := fun k o h ho => hbk k o (hwe.marks k o h ho) ho
    rw [List.take_length] at ho
    obtain ⟨F', hM_', hFs'⟩ := id hS'
    have hfin : out = lonR g (kk + 1) s := ho.trans (by rfl)
    have hfin2 : out = lonF g s := hfin.trans (by unfold lonF; rw [show g.length - s.length = kk + 1 by omega])
    refine g_inb ?_
    refine g_then ?_
    refine g_seq ?_
    refine g_region ?_
    refine s_y (y_ld1 3 rfl rfl agg_50 rfl) rfl rfl rfl rfl ?_
    refine s_y (y_ldn 1 rfl rfl agg_73 size_73 rfl rfl) rfl rfl rfl rfl ?_
    refine s_y (y_ld1 0 rfl rfl agg_3 rfl) rfl rfl rfl rfl ?_
    refine s_tr0 (t_putG (k := tailK s) (v := .int .i64 out) 5 tail_map hM_' rfl rfl rfl rfl rfl (tailK_ok hsn (by omega))) rfl rfl rfl (fun y hy => ?_)
    refine s_nil ?_
    refine g_then ?_
    refine g_seq ?_
    refine g_region ?_
    refine s_y (y_ld1 0 rfl rfl agg_3 rfl) rfl rfl rfl rfl ?_
    refine s_y (y_assign rfl) rfl rfl rfl rfl ?_
    refine s_nil ?_
    refine g_then ?_
    refine g_ret ?_
    exact g_endK hM hE hbkE (fun a w ha hq_ => res1 ha rfl rfl  w) (fun w h hb_ => ⟨y, SoundI.put hFs' hy hsn (by omega) hfin2, by rw [hfin], ((((((hp_close hwe hq (show Hq w0 W ((b9, .cells [.int .i64 out].toArray 3 (0, 0)) :: (b6, .cells [.int .i64 (rdI (s.drop (s.length - 3)) 0), .int .i64 (rdI (s.drop (s.length - 3)) 1), .int .i64 (rdI (s.drop (s.length - 3)) 2), .int .i64 (s.length : Int)].toArray 73 (0, 0)) :: (b5, .cells [.int .i64 (s.length : Nat)].toArray 3 (0, 0)) :: (b3, .cells [.map (some mb)].toArray 50 (0, 0)) :: (b2, .cells [.slice ag g.length cg, .slice as_ s.length cs].toArray 48 (0, 0)) :: (mb, .map y.1 y.2) :: []) w from h) hb_ rfl rfl).tail hb9.2).tail hb6.2).tail hb5.2).tail hb3.2).tail hb2.2)⟩)
  · skip
    exact fun _ _ _ _ _ _ _ h => h.elim

theorem longest_any {g : List Int} (hgl : g.length ≤ 8) (hgn : ∀ x ∈ g, 0 ≤ x ∧ x ≤ 20) : ∀ k, longestAt g k
  | 0 => fun ag as_ cg cs s mb es clock w0 wE hle hsn hb0 hge hmb hS hg hs => longest_full ag as_ cg cs g s mb es clock w0 wE 0 hle hgl hgn hsn hb0 hge hmb hS hg hs
  | kk + 1 => fun ag as_ cg cs s mb es clock w0 wE hle hsn hb0 hge hmb hS hg hs => by
    obtain ⟨F, hM_, hFs⟩ := id hS
    cases hF : F (tailK s) with
    | none => exact longest_new ag as_ cg cs g s mb es clock w0 wE kk hle hgl hgn hsn hb0 hge hmb hS hg hs F hM_ hF (longest_any hgl hgn kk)
    | some v =>
      obtain ⟨s', h1, h2, h3, rfl⟩ := hFs _ _ hF
      exact longest_known ag as_ cg cs g s mb es clock w0 wE kk hle hgl hgn hsn hb0 hge hmb hS hg hs (lonF g s') F hM_ hF ((lonF_tail h3).trans (by unfold lonF; rw [show g.length - s.length = kk + 1 by omega]))

theorem Count_ok (w : World) (ag : Option Addr) (cg : Nat) (xs : List Int) (hv : RdV (Value.int .i64) w (.slice ag xs.length cg) xs) (hp : partB xs = true) :
    Calls Try.prog 16 [.slice ag xs.length cg].toArray w fun e w' => e = .returned (.tuple #[.int .i64 (cntR xs xs.length []), .int .i64 0]) ∧ Below w.heap.size w w' := by
  obtain ⟨hxl, hn⟩ := partB_true.1 hp
  refine enter (N := 11) Try.func16 rfl rfl rfl ?_
  refine g_seq ?_
  refine g_region ?_
  refine s_y (y_assign rfl) rfl rfl rfl rfl ?_
  refine s_y (y_assign rfl) rfl rfl rfl rfl ?_
  refine s_nil ?_
  refine g_then ?_
  refine g_seq ?_
  refine g_seq ?_
  refine g_region ?_
  refine s_y (y_move rfl) rfl rfl rfl rfl ?_
  refine s_tr (t_call rfl rfl ent_46 (fun w h => by have h_ := isPart_any w _ xs (hv.below h.below) (by omega); rwa [hp] at h_)) rfl rfl rfl rfl (fun _ _ => ?_)
  refine s_y (y_not_t rfl) rfl rfl rfl rfl ?_
  refine s_nil ?_
  refine g_then ?_
  refine g_cond_f rfl ?_
  refine g_skip ?_
  refine g_then ?_
  refine g_seq ?_
  refine g_region ?_
  refine s_y (y_move rfl) rfl rfl rfl rfl ?_
  refine s_y (y_build (vs := [(0, _)]) rfl rfl (fun w => bld_48_0 _ _ _ w)) rfl rfl rfl rfl ?_
  refine s_tr (t_makeMap) rfl rfl rfl rfl (fun mb hmb => ?_)
  refine s_tr (t_callK (A := fun y : Array MapEntry × Nat => SoundI (cntF xs) xs y.1) (fo := fun y => .map y.1 y.2) (v := .int .i64 (cntR xs xs.length [])) 0 rfl rfl rfl ent_47 (fun w2 h => count_any (g := xs) (by omega) hn xs.length ag none cg 0 [] mb #[] 0 w w2 (by simp) (by intro x hx; cases hx) h.below hmb.1 (at_of (i := 0) h rfl) SoundI.empty (hv.below h.below) RdV.nil)) rfl rfl rfl rfl (fun y hy => ?_)
  refine s_y (y_assign rfl) rfl rfl rfl rfl ?_
  refine s_y (y_assign rfl) rfl rfl rfl rfl ?_
  refine s_nil ?_
  refine g_then ?_
  refine g_ret ?_
  exact g_end trivial (fun a w ha hq_ => res2 ha rfl rfl rfl  w) (fun w h => ⟨rfl, h.below⟩)

theorem Count_bad (w : World) (v : Value) (xs : List Int) (hv : RdV (Value.int .i64) w v xs) (hl : xs.length ≤ 9223372036854775807) (hp : partB xs = false) :
    Calls Try.prog 16 [v].toArray w fun e w' => e = .returned (.tuple #[.int .i64 0, .int .i64 2]) ∧ Below w.heap.size w w' := by
  refine enter (N := 11) Try.func16 rfl rfl rfl ?_
  refine g_seq ?_
  refine g_region ?_
  refine s_y (y_assign rfl) rfl rfl rfl rfl ?_
  refine s_y (y_assign rfl) rfl rfl rfl rfl ?_
  refine s_nil ?_
  refine g_then ?_
  refine g_seq ?_
  refine g_seq ?_
  refine g_region ?_
  refine s_y (y_move rfl) rfl rfl rfl rfl ?_
  refine s_tr (t_call rfl rfl ent_46 (fun w h => by have h_ := isPart_any w _ xs (hv.below h.below) hl; rwa [hp] at h_)) rfl rfl rfl rfl (fun _ _ => ?_)
  refine s_y (y_not_f rfl) rfl rfl rfl rfl ?_
  refine s_nil ?_
  refine g_then ?_
  refine g_cond_t rfl ?_
  refine g_seq ?_
  refine g_region ?_
  refine s_y (y_assign rfl) rfl rfl rfl rfl ?_
  refine s_y (y_assign rfl) rfl rfl rfl rfl ?_
  refine s_nil ?_
  refine g_then ?_
  refine g_ret ?_
  refine g_thenr ?_
  exact g_end trivial (fun a w ha hq_ => res2 ha rfl rfl rfl  w) (fun w h => ⟨rfl, h.below⟩)

theorem Stuck_none (w : World) (ag : Option Addr) (cg : Nat) (xs : List Int) (hv : RdV (Value.int .i64) w (.slice ag xs.length cg) xs) (hp : partB xs = true) (hs : lonR xs xs.length [] = xs.length) :
    Calls Try.prog 35 [.slice ag xs.length cg].toArray w fun e w' => e = .returned (.tuple #[.int .i64 (0), .int .i64 4]) ∧ Below w.heap.size w w' := by
  obtain ⟨hxl, hn⟩ := partB_true.1 hp
  refine enter (N := 17) Try.func35 rfl rfl rfl ?_
  refine g_seq ?_
  refine g_region ?_
  refine s_y (y_assign rfl) rfl rfl rfl rfl ?_
  refine s_y (y_assign rfl) rfl rfl rfl rfl ?_
  refine s_nil ?_
  refine g_then ?_
  refine g_seq ?_
  refine g_seq ?_
  refine g_region ?_
  refine s_y (y_move rfl) rfl rfl rfl rfl ?_
  refine s_tr (t_call rfl rfl ent_46 (fun w h => by have h_ := isPart_any w _ xs (hv.below h.below) (by omega); rwa [hp] at h_)) rfl rfl rfl rfl (fun _ _ => ?_)
  refine s_y (y_not_t rfl) rfl rfl rfl rfl ?_
  refine s_nil ?_
  refine g_then ?_
  refine g_cond_f rfl ?_
  refine g_skip ?_
  refine g_then ?_
  refine g_seq ?_
  refine g_region ?_
  refine s_y (y_move rfl) rfl rfl rfl rfl ?_
  refine s_y (y_build (vs := [(0, _)]) rfl rfl (fun w => bld_48_0 _ _ _ w)) rfl rfl rfl rfl ?_
  refine s_tr (t_makeMap) rfl rfl rfl rfl (fun mb hmb => ?_)
  refine s_tr (t_callK (A := fun y : Array MapEntry × Nat => SoundI (lonF xs) xs y.1) (fo := fun y => .map y.1 y.2) (v := .int .i64 (lonR xs xs.length [])) 0 rfl rfl rfl ent_59 (fun w2 h => longest_any (g := xs) (by omega) hn xs.length ag none cg 0 [] mb #[] 0 w w2 (by simp) (by intro x hx; cases hx) h.below hmb.1 (at_of (i := 0) h rfl) SoundI.empty (hv.below h.below) RdV.nil)) rfl rfl rfl rfl (fun y hy => ?_)
  refine s_y (y_assign rfl) rfl rfl rfl rfl ?_
  refine s_nil ?_
  refine g_then ?_
  refine g_seq ?_
  refine g_seq ?_
  refine g_region ?_
  refine s_y (y_move rfl) rfl rfl rfl rfl ?_
  refine s_y (y_move rfl) rfl rfl rfl rfl ?_
  refine s_y (y_lenV (n := xs.length) rfl (by obtain ⟨A, c, h1, _⟩ := hv; exact ⟨A, c, h1⟩) sle_22) rfl rfl rfl rfl ?_
  refine s_y (y_eql_t rfl rfl ((by omega))) rfl rfl rfl rfl ?_
  refine s_nil ?_
  refine g_then ?_
  refine g_cond_t rfl ?_
  refine g_seq ?_
  refine g_region ?_
  refine s_y (y_assign rfl) rfl rfl rfl rfl ?_
  refine s_y (y_assign rfl) rfl rfl rfl rfl ?_
  refine s_nil ?_
  refine g_then ?_
  refine g_ret ?_
  refine g_thenr ?_
  exact g_end trivial (fun a w ha hq_ => res2 ha rfl rfl rfl  w) (fun w h => ⟨rfl, h.below⟩)

theorem Stuck_ok (w : World) (ag : Option Addr) (cg : Nat) (xs : List Int) (hv : RdV (Value.int .i64) w (.slice ag xs.length cg) xs) (hp : partB xs = true) (hs : ¬ lonR xs xs.length [] = xs.length) :
    Calls Try.prog 35 [.slice ag xs.length cg].toArray w fun e w' => e = .returned (.tuple #[.int .i64 (lonR xs xs.length []), .int .i64 0]) ∧ Below w.heap.size w w' := by
  obtain ⟨hxl, hn⟩ := partB_true.1 hp
  refine enter (N := 17) Try.func35 rfl rfl rfl ?_
  refine g_seq ?_
  refine g_region ?_
  refine s_y (y_assign rfl) rfl rfl rfl rfl ?_
  refine s_y (y_assign rfl) rfl rfl rfl rfl ?_
  refine s_nil ?_
  refine g_then ?_
  refine g_seq ?_
  refine g_seq ?_
  refine g_region ?_
  refine s_y (y_move rfl) rfl rfl rfl rfl ?_
  refine s_tr (t_call rfl rfl ent_46 (fun w h => by have h_ := isPart_any w _ xs (hv.below h.below) (by omega); rwa [hp] at h_)) rfl rfl rfl rfl (fun _ _ => ?_)
  refine s_y (y_not_t rfl) rfl rfl rfl rfl ?_
  refine s_nil ?_
  refine g_then ?_
  refine g_cond_f rfl ?_
  refine g_skip ?_
  refine g_then ?_
  refine g_seq ?_
  refine g_region ?_
  refine s_y (y_move rfl) rfl rfl rfl rfl ?_
  refine s_y (y_build (vs := [(0, _)]) rfl rfl (fun w => bld_48_0 _ _ _ w)) rfl rfl rfl rfl ?_
  refine s_tr (t_makeMap) rfl rfl rfl rfl (fun mb hmb => ?_)
  refine s_tr (t_callK (A := fun y : Array MapEntry × Nat => SoundI (lonF xs) xs y.1) (fo := fun y => .map y.1 y.2) (v := .int .i64 (lonR xs xs.length [])) 0 rfl rfl rfl ent_59 (fun w2 h => longest_any (g := xs) (by omega) hn xs.length ag none cg 0 [] mb #[] 0 w w2 (by simp) (by intro x hx; cases hx) h.below hmb.1 (at_of (i := 0) h rfl) SoundI.empty (hv.below h.below) RdV.nil)) rfl rfl rfl rfl (fun y hy => ?_)
  refine s_y (y_assign rfl) rfl rfl rfl rfl ?_
  refine s_nil ?_
  refine g_then ?_
  refine g_seq ?_
  refine g_seq ?_
  refine g_region ?_
  refine s_y (y_move rfl) rfl rfl rfl rfl ?_
  refine s_y (y_move rfl) rfl rfl rfl rfl ?_
  refine s_y (y_lenV (n := xs.length) rfl (by obtain ⟨A, c, h1, _⟩ := hv; exact ⟨A, c, h1⟩) sle_22) rfl rfl rfl rfl ?_
  refine s_y (y_eql_f rfl rfl ((by omega))) rfl rfl rfl rfl ?_
  refine s_nil ?_
  refine g_then ?_
  refine g_cond_f rfl ?_
  refine g_skip ?_
  refine g_then ?_
  refine g_seq ?_
  refine g_region ?_
  refine s_y (y_move rfl) rfl rfl rfl rfl ?_
  refine s_y (y_assign rfl) rfl rfl rfl rfl ?_
  refine s_y (y_assign rfl) rfl rfl rfl rfl ?_
  refine s_nil ?_
  refine g_then ?_
  refine g_ret ?_
  exact g_end trivial (fun a w ha hq_ => res2 ha rfl rfl rfl  w) (fun w h => ⟨rfl, h.below⟩)

theorem Stuck_bad (w : World) (v : Value) (xs : List Int) (hv : RdV (Value.int .i64) w v xs) (hl : xs.length ≤ 9223372036854775807) (hp : partB xs = false) :
    Calls Try.prog 35 [v].toArray w fun e w' => e = .returned (.tuple #[.int .i64 0, .int .i64 2]) ∧ Below w.heap.size w w' := by
  refine enter (N := 17) Try.func35 rfl rfl rfl ?_
  refine g_seq ?_
  refine g_region ?_
  refine s_y (y_assign rfl) rfl rfl rfl rfl ?_
  refine s_y (y_assign rfl) rfl rfl rfl rfl ?_
  refine s_nil ?_
  refine g_then ?_
  refine g_seq ?_
  refine g_seq ?_
  refine g_region ?_
  refine s_y (y_move rfl) rfl rfl rfl rfl ?_
  refine s_tr (t_call rfl rfl ent_46 (fun w h => by have h_ := isPart_any w _ xs (hv.below h.below) hl; rwa [hp] at h_)) rfl rfl rfl rfl (fun _ _ => ?_)
  refine s_y (y_not_f rfl) rfl rfl rfl rfl ?_
  refine s_nil ?_
  refine g_then ?_
  refine g_cond_t rfl ?_
  refine g_seq ?_
  refine g_region ?_
  refine s_y (y_assign rfl) rfl rfl rfl rfl ?_
  refine s_y (y_assign rfl) rfl rfl rfl rfl ?_
  refine s_nil ?_
  refine g_then ?_
  refine g_ret ?_
  refine g_thenr ?_
  exact g_end trivial (fun a w ha hq_ => res2 ha rfl rfl rfl  w) (fun w h => ⟨rfl, h.below⟩)

theorem cnt5 : cntR [5] 1 [] = 3 := by decide
theorem part5 : partB [5] = true := by decide

theorem awake_t (w : World) :
    Calls Try.prog 19 [].toArray w fun e w' => e = .returned (.bool true) ∧ Below w.heap.size w w' := by
  obtain ⟨ie3, hi3⟩ := inf_3
  refine enter (N := 14) Try.func19 rfl rfl rfl ?_
  refine g_seq ?_
  refine g_region ?_
  refine s_y (y_assign rfl) rfl rfl rfl rfl ?_
  refine s_nil ?_
  refine g_then ?_
  refine g_seq ?_
  refine g_region ?_
  refine s_tr (t_build (vs := [(0, .int .i64 5)]) (cells := [.int .i64 5]) rfl rfl Try.underlying22 hi3.1 hi3.2.1 (by rw [hi3.2.2.1]; rfl) (by rw [hi3.2.2.1]; rfl) (by rw [hi3.2.2.1]; kernel_rfl)) rfl rfl rfl rfl (fun b4 hb4 => ?_)
  refine s_tr (t_call rfl rfl ent_16 (fun w h => by have h_ := Count_ok w (some ⟨b4, 0, none⟩) 1 [5] (RdV.own (jk := []) (at_of (i := 0) h rfl) rfl (by decide)) part5; rwa [show ([5] : List Int).length = 1 from rfl, cnt5] at h_)) rfl rfl rfl rfl (fun _ _ => ?_)
  refine s_y (y_move rfl) rfl rfl rfl rfl ?_
  refine s_y (y_extract rfl rfl) rfl rfl rfl rfl ?_
  refine s_y (y_extract rfl rfl) rfl rfl rfl rfl ?_
  refine s_y (y_assign rfl) rfl rfl rfl rfl ?_
  refine s_y (y_assign rfl) rfl rfl rfl rfl ?_
  refine s_nil ?_
  refine g_then ?_
  refine g_seq ?_
  refine g_region ?_
  refine s_y (y_move rfl) rfl rfl rfl rfl ?_
  refine s_y (y_eql_t rfl rfl (by decide)) rfl rfl rfl rfl ?_
  refine s_y (y_move rfl) rfl rfl rfl rfl ?_
  refine s_y (y_move rfl) rfl rfl rfl rfl ?_
  refine s_y (y_eql_t rfl rfl (by decide)) rfl rfl rfl rfl ?_
  refine s_y (y_pick_t rfl rfl) rfl rfl rfl rfl ?_
  refine s_y (y_assign rfl) rfl rfl rfl rfl ?_
  refine s_nil ?_
  refine g_then ?_
  refine g_ret ?_
  exact g_end trivial (fun a w ha hq_ => res1 ha rfl rfl  w) (fun w h => ⟨rfl, h.below⟩)

end Go.Proofs.Ytolalckejnijkaa
