/- duets: best, which calls itself. -/
import Derived.Test.YtolalckejnijkaaDuI
import Derived.Test.YtolalckejnijkaaDuF
import Derived.Test.YtolalckejnijkaaSxCons
namespace Go.Proofs.Ytolalckejnijkaa
open Go.RowKit Go.Sx Go.WideMaps
set_option linter.unusedVariables false
set_option linter.unusedSimpArgs false
set_option maxRecDepth 100000
set_option maxHeartbeats 4000000

private theorem zero_67 : (Try.prog.info? 67).bind (·.zero) = some (.agg #[(.slice none 0 0), (.int .i64 0), (.bool false)]) := by kernel_rfl
private theorem fld_48_1 (b off : Nat) (w : World) : (Instr.fieldAt 48 (.pointer (some ⟨b, off, none⟩)) 1).run Try.prog w = .ok (.pointer (some ⟨b, off + 1, none⟩)) w := by kernel_rfl
private theorem agg_22 : isAggB Try.prog 22 = some false := by kernel_rfl
private theorem sle_22 : Try.prog.underlying 22 = some (.slice (Try.prog.elem 22)) := by kernel_rfl
private theorem zero_3 : (Try.prog.info? 3).bind (·.zero) = some (.int .i64 0) := by kernel_rfl
private theorem size_3 : (Try.prog.info? 3).map (·.size) = some 1 := by kernel_rfl
private theorem agg_3 : isAggB Try.prog 3 = some false := by kernel_rfl
private theorem fld_48_0 (b off : Nat) (w : World) : (Instr.fieldAt 48 (.pointer (some ⟨b, off, none⟩)) 0).run Try.prog w = .ok (.pointer (some ⟨b, off, none⟩)) w := by kernel_rfl
private theorem bld_67_2 (x2 : Bool) (w : World) : (Instr.build 67 #[(2, (.bool x2))]).run Try.prog w = .ok (.agg #[(.slice none 0 0), (.int .i64 0), (.bool x2)]) w := by kernel_rfl
private theorem size_67 : (Try.prog.info? 67).map (·.size) = some 3 := by kernel_rfl
private theorem agg_67 : isAggB Try.prog 67 = some true := by kernel_rfl
private theorem agg_48 : isAggB Try.prog 48 = some true := by kernel_rfl
private theorem size_48 : (Try.prog.info? 48).map (·.size) = some 2 := by kernel_rfl
private theorem ent_67 : Enters Try.prog 67 := enters_of Try.func67 (by kernel_rfl) rfl
private theorem zero_73 : (Try.prog.info? 73).bind (·.zero) = some (.agg #[(.int .i64 0), (.int .i64 0), (.int .i64 0), (.int .i64 0)]) := by kernel_rfl
private theorem size_73 : (Try.prog.info? 73).map (·.size) = some 4 := by kernel_rfl
private theorem agg_69 : isAggB Try.prog 69 = some false := by kernel_rfl
private theorem agg_73 : isAggB Try.prog 73 = some true := by kernel_rfl
private theorem ent_55 : Enters Try.prog 55 := enters_of Try.func55 (by kernel_rfl) rfl
private theorem inf_3 : ∃ ie, Try.prog.info? 3 = some ie ∧ ie.zero = some (.int .i64 0) ∧ ie.size = 1 ∧ ie.bytes = 8 := info_of (by kernel_rfl) (by kernel_rfl)
private theorem bld_48_0_1 (x0a : Option Addr) (x0n x0c : Nat) (x1a : Option Addr) (x1n x1c : Nat) (w : World) : (Instr.build 48 #[(0, (.slice x0a x0n x0c)), (1, (.slice x1a x1n x1c))]).run Try.prog w = .ok (.agg #[(.slice x0a x0n x0c), (.slice x1a x1n x1c)]) w := by kernel_rfl
private theorem zero_48 : (Try.prog.info? 48).bind (·.zero) = some (.agg #[(.slice none 0 0), (.slice none 0 0)]) := by kernel_rfl
private theorem ent_62 : Enters Try.prog 62 := enters_of Try.func62 (by kernel_rfl) rfl
private theorem fld_67_1 (b off : Nat) (w : World) : (Instr.fieldAt 67 (.pointer (some ⟨b, off, none⟩)) 1).run Try.prog w = .ok (.pointer (some ⟨b, off + 1, none⟩)) w := by kernel_rfl
private theorem ent_61 : Enters Try.prog 61 := enters_of Try.func61 (by kernel_rfl) rfl
private theorem fld_67_2 (b off : Nat) (w : World) : (Instr.fieldAt 67 (.pointer (some ⟨b, off, none⟩)) 2).run Try.prog w = .ok (.pointer (some ⟨b, off + 2, none⟩)) w := by kernel_rfl
private theorem agg_4 : isAggB Try.prog 4 = some false := by kernel_rfl
private theorem fld_67_0 (b off : Nat) (w : World) : (Instr.fieldAt 67 (.pointer (some ⟨b, off, none⟩)) 0).run Try.prog w = .ok (.pointer (some ⟨b, off, none⟩)) w := by kernel_rfl
private theorem bld_67_0_1_2 (x0a : Option Addr) (x0n x0c : Nat) (x1 : Int) (x2 : Bool) (w : World) : (Instr.build 67 #[(0, (.slice x0a x0n x0c)), (1, (.int .i64 x1)), (2, (.bool x2))]).run Try.prog w = .ok (.agg #[(.slice x0a x0n x0c), (.int .i64 x1), (.bool x2)]) w := by kernel_rfl

/-- How a beginning goes on best, with k notes to come, and what that is worth; none: it can't. -/
def bstep (h : Int → Option (List Int × Int)) (wr : Int → Int) (o : Option (List Int × Int)) (x : Int) : Option (List Int × Int) :=
  match h x with
  | none => o
  | some p => match o with
    | none => some (x :: p.1, p.2 + wr x)
    | some q => if p.2 + wr x > q.2 then some (x :: p.1, p.2 + wr x) else some q
def bestR (g : List Int) : Nat → List Int → Option (List Int × Int)
  | 0, _ => some ([], 0)
  | k + 1, s => (nxL g s).foldl (bstep (fun x => bestR g k (s ++ [x])) fun x => wrt g (s ++ [x]) s.length) none
def ntO (o : Option (List Int × Int)) : List Int := match o with | none => [] | some p => p.1
def wtO (o : Option (List Int × Int)) : Int := match o with | none => 0 | some p => p.2
def bF (g s : List Int) : Option (List Int × Int) := bestR g (g.length - s.length) s
theorem wrt_tail {g s s' : List Int} (h : tailK s = tailK s') (x : Int) : wrt g (s ++ [x]) s.length = wrt g (s' ++ [x]) s'.length := by
  obtain ⟨hl, hf⟩ := tailK_eq h
  unfold wrt
  rw [hl]
  by_cases h0 : s'.length = 0
  · rw [if_pos h0, if_pos h0]
  · rw [if_neg h0, if_neg h0]
    have e0 : ∀ t : List Int, rdI (t ++ [x]) ((t.length : Nat) : Int) = x := fun t => by rw [rdI_snoc, if_pos rfl]
    have ek : ∀ (t : List Int), 0 < t.length → rdI (t ++ [x]) ((t.length : Int) - 1) = fromEnd t 0 := fun t ht => by
      unfold fromEnd
      rw [show (t.length : Int) - 1 = ((t.length - 1 : Nat) : Int) by omega, rdI_snoc, if_neg (by omega)]
      simp
    have h1 := hf 0 (by decide) (by omega)
    have a1 := ek s (by omega)
    have a2 := ek s' (by omega)
    have b1 := e0 s
    have b2 := e0 s'
    rw [hl] at a1 b1
    unfold mvI
    rw [b1, b2, a1, a2, h1]
theorem foldl_same' {α β : Type} {h h' : β → α → β} (e : ∀ o x, h o x = h' o x) : ∀ (xs : List α) (o : β), xs.foldl h o = xs.foldl h' o
  | [], _ => rfl
  | x :: xs, o => by rw [List.foldl_cons, List.foldl_cons, e, foldl_same' e xs]
theorem bestR_tail {g : List Int} : ∀ (k : Nat) (s s' : List Int), tailK s = tailK s' → bestR g k s = bestR g k s'
  | 0, s, s', h => rfl
  | k + 1, s, s', h => by
    unfold bestR
    rw [nxL_tail h]
    exact foldl_same' (fun o x => by simp only [bstep, bestR_tail k _ _ (tailK_snoc h x), wrt_tail h x]) _ _
theorem bF_tail {g s s' : List Int} (h : tailK s = tailK s') : bF g s = bF g s' := by
  unfold bF; rw [(tailK_eq h).1, bestR_tail _ _ _ h]
theorem bstep_range {h : Int → Option (List Int × Int)} {wr : Int → Int} {k : Nat} (hh : ∀ x p, h x = some p → p.1.length = k ∧ -(k : Int) ≤ p.2 ∧ p.2 ≤ 4 * k) (hw : ∀ x, -1 ≤ wr x ∧ wr x ≤ 4) : ∀ (xs : List Int) (o : Option (List Int × Int)), (∀ p, o = some p → p.1.length = k + 1 ∧ -((k : Int) + 1) ≤ p.2 ∧ p.2 ≤ 4 * (k + 1)) → ∀ p, xs.foldl (bstep h wr) o = some p → p.1.length = k + 1 ∧ -((k : Int) + 1) ≤ p.2 ∧ p.2 ≤ 4 * (k + 1)
  | [], o, ho, p, hp => ho p hp
  | x :: xs, o, ho, p, hp => by
    refine bstep_range hh hw xs _ ?_ p hp
    intro q hq
    unfold bstep at hq
    have h2 := hw x
    cases hx : h x with
    | none => rw [hx] at hq; exact ho q hq
    | some r =>
      have h1 := hh x r hx
      rw [hx] at hq
      cases o with
      | none => simp only [Option.some.injEq] at hq; subst hq; simp; omega
      | some r2 =>
        have h3 := ho r2 rfl
        simp only at hq
        split at hq
        · simp only [Option.some.injEq] at hq; subst hq; simp; omega
        · simp only [Option.some.injEq] at hq; subst hq; exact h3
theorem bestR_range {g : List Int} : ∀ (k : Nat) (s : List Int) (p : List Int × Int), bestR g k s = some p → p.1.length = k ∧ -(k : Int) ≤ p.2 ∧ p.2 ≤ 4 * k
  | 0, s, p, h => by simp only [bestR, Option.some.injEq] at h; subst h; simp
  | k + 1, s, p, h => by
    have := bstep_range (k := k) (fun x p hp => bestR_range k (s ++ [x]) p hp) (fun x => wrt_range g (s ++ [x]) s.length) (nxL g s) none (fun p hp => by cases hp) p h
    simpa using this
/-- What the map knows. -/
def SoundB (g : List Int) (es : Array MapEntry) (mm : List (Nat × Obj)) : Prop :=
  ∃ F : TK → Option Value, MapG tkV tkok es F ∧ ∀ k v, F k = some v → ∃ (s : List Int) (As : Option Addr) (c : Nat), (∀ x ∈ s, 0 ≤ x ∧ x ≤ 20) ∧ s.length < g.length ∧ tailK s = k ∧ v = .agg #[.slice As (ntO (bF g s)).length c, .int .i64 (wtO (bF g s)), .bool (bF g s).isSome] ∧ OwnV (Value.int .i64) (.slice As (ntO (bF g s)).length c) (ntO (bF g s)) mm
theorem SoundB.empty {g : List Int} {mm : List (Nat × Obj)} : SoundB g #[] mm := ⟨fun _ => none, MapG.empty, fun k v h => by cases h⟩
theorem SoundB.mono {g : List Int} {es : Array MapEntry} {mm mm' : List (Nat × Obj)} (h : SoundB g es mm) (hs : ∀ p ∈ mm, p ∈ mm') : SoundB g es mm' := by
  obtain ⟨F, h1, h2⟩ := h
  refine ⟨F, h1, fun k v hv => ?_⟩
  obtain ⟨s, As, c, a, b, d, e, o⟩ := h2 k v hv
  exact ⟨s, As, c, a, b, d, e, o.mono hs⟩
theorem SoundB.put {g s : List Int} {es : Array MapEntry} {mm : List (Nat × Obj)} {F : TK → Option Value} {o : Option (List Int × Int)} {As : Option Addr} {c : Nat} (hF : ∀ k v, F k = some v → ∃ (s : List Int) (As : Option Addr) (c : Nat), (∀ x ∈ s, 0 ≤ x ∧ x ≤ 20) ∧ s.length < g.length ∧ tailK s = k ∧ v = .agg #[.slice As (ntO (bF g s)).length c, .int .i64 (wtO (bF g s)), .bool (bF g s).isSome] ∧ OwnV (Value.int .i64) (.slice As (ntO (bF g s)).length c) (ntO (bF g s)) mm)
    (h : MapG tkV tkok es (putG F (tailK s) (.agg #[.slice As (ntO o).length c, .int .i64 (wtO o), .bool o.isSome]))) (hn : ∀ x ∈ s, 0 ≤ x ∧ x ≤ 20) (hl : s.length < g.length) (ho : o = bF g s) (hO : OwnV (Value.int .i64) (.slice As (ntO o).length c) (ntO o) mm) : SoundB g es mm :=
  ⟨_, h, fun k v hv => by
    unfold putG at hv
    split at hv
    · rename_i e
      cases hv
      exact ⟨s, As, c, hn, hl, e.symm, by rw [← ho], by rw [← ho]; exact hO⟩
    · exact hF k v hv⟩
theorem best_map : KeyG Try.prog 69 73 67 tkV tkok (.agg #[.slice none 0 0, .int .i64 0, .bool false]) :=
  ⟨Try.underlying69, tail_map.law, tail_key, fun u => by kernel_rfl, tkV_inj⟩
abbrev BY : Type := Option Addr × Nat × Array MapEntry × Nat × List (Nat × Obj)
def BOk (g : List Int) (o : Option (List Int × Int)) (mm : List (Nat × Obj)) (y : BY) : Prop := OwnV (Value.int .i64) (.slice y.1 (ntO o).length y.2.1) (ntO o) (y.2.2.2.2 ++ mm) ∧ SoundB g y.2.2.1 (y.2.2.2.2 ++ mm) ∧ ∀ p ∈ y.2.2.2.2, IsC p
def bV (o : Option (List Int × Int)) (y : BY) : Value := .agg #[.slice y.1 (ntO o).length y.2.1, .int .i64 (wtO o), .bool o.isSome]

def BestAt (g : List Int) (k : Nat) : Prop := ∀ (ag as_ : Option Addr) (cg cs : Nat) (s : List Int) (mb : Nat) (es : Array MapEntry) (clock : Nat) (mm : List (Nat × Obj)) (w0 wE : World), (s.length + k = g.length) → (∀ x ∈ s, 0 ≤ x ∧ x ≤ 20) → (Below w0.heap.size w0 wE) → (w0.heap.size ≤ mb) → (wE.heap[mb]? = some (.map es clock)) → (∀ p ∈ mm, ∃ c t f, p.2 = Obj.cells c t f ∧ wE.heap[p.1]? = some p.2) → (SoundB g es mm) → (RdV (Value.int .i64) wE (.slice ag g.length cg) g) → (RdV (Value.int .i64) wE (.slice as_ s.length cs) s) →
    Calls Try.prog 62 [.agg #[.slice ag g.length cg, .slice as_ s.length cs], .map (some mb)].toArray wE fun e w' => ∃ y : BY, BOk g (bestR g (k) s) mm y ∧ (∀ p ∈ y.2.2.2.2, wE.heap.size ≤ p.1) ∧ e = .returned (bV (bestR g (k) s) y) ∧ Hp w0 wE ((mb, .map y.2.2.1 y.2.2.2.1) :: (y.2.2.2.2 ++ [])) w'

theorem best_full (g : List Int) (hgl : g.length ≤ 8) (hgn : ∀ x ∈ g, 0 ≤ x ∧ x ≤ 20) (ag as_ : Option Addr) (cg cs : Nat) (s : List Int) (mb : Nat) (es : Array MapEntry) (clock : Nat) (mm : List (Nat × Obj)) (w0 wE : World) (kk : Nat) (hle : s.length + 0 = g.length) (hsn : ∀ x ∈ s, 0 ≤ x ∧ x ≤ 20) (hb0 : Below w0.heap.size w0 wE) (hge : w0.heap.size ≤ mb) (hmb : wE.heap[mb]? = some (.map es clock)) (hmm : ∀ p ∈ mm, ∃ c t f, p.2 = Obj.cells c t f ∧ wE.heap[p.1]? = some p.2) (hS : SoundB g es mm) (hg : RdV (Value.int .i64) wE (.slice ag g.length cg) g) (hs : RdV (Value.int .i64) wE (.slice as_ s.length cs) s)  :
    Calls Try.prog 62 [.agg #[.slice ag g.length cg, .slice as_ s.length cs], .map (some mb)].toArray wE fun e w' => ∃ y : BY, BOk g (bestR g (0) s) mm y ∧ (∀ p ∈ y.2.2.2.2, wE.heap.size ≤ p.1) ∧ e = .returned (bV (bestR g (0) s) y) ∧ Hp w0 wE ((mb, .map y.2.2.1 y.2.2.2.1) :: (y.2.2.2.2 ++ [])) w' := by
  refine enterM (N := 80) Try.func62 rfl rfl rfl (Hp.start hb0 hge hmb) ?_
  refine g_seq ?_
  refine g_region ?_
  refine s_tr (t_box rfl rfl) rfl rfl rfl rfl (fun b2 hb2 => ?_)
  refine s_tr (t_box rfl rfl) rfl rfl rfl rfl (fun b3 hb3 => ?_)
  refine s_tr (t_alloc zero_67 rfl) rfl rfl rfl rfl (fun b4 hb4 => ?_)
  refine s_nil ?_
  refine g_then ?_
  refine g_seq ?_
  refine g_region ?_
  refine s_y (y_fld rfl (fun w => fld_48_1 _ _ w)) rfl rfl rfl rfl ?_
  refine s_y (y_ld1 2 rfl rfl agg_22 rfl) rfl rfl rfl rfl ?_
  refine s_y (y_lenV (n := s.length) rfl (by obtain ⟨A, c, h1, _⟩ := hs; exact ⟨A, c, h1⟩) sle_22) rfl rfl rfl rfl ?_
  refine s_tr (t_alloc zero_3 rfl) rfl rfl rfl rfl (fun b5 hb5 => ?_)
  refine s_tr0 (t_store 0 rfl rfl rfl rfl size_3 rfl rfl) rfl rfl rfl (fun _ _ => ?_)
  refine s_nil ?_
  refine g_then ?_
  refine g_seq ?_
  refine g_seq ?_
  refine g_region ?_
  refine s_y (y_ld1 0 rfl rfl agg_3 rfl) rfl rfl rfl rfl ?_
  refine s_y (y_fld rfl (fun w => fld_48_0 _ _ w)) rfl rfl rfl rfl ?_
  refine s_y (y_ld1 3 rfl rfl agg_22 rfl) rfl rfl rfl rfl ?_
  refine s_y (y_lenV (n := g.length) rfl (by obtain ⟨A, c, h1, _⟩ := hg; exact ⟨A, c, h1⟩) sle_22) rfl rfl rfl rfl ?_
  refine s_y (y_eql_t rfl rfl (by omega)) rfl rfl rfl rfl ?_
  refine s_nil ?_
  refine g_then ?_
  refine g_cond_t rfl ?_
  refine g_seq ?_
  refine g_region ?_
  refine s_y (y_build (vs := [(2, _)]) rfl rfl (fun w => bld_67_2 _ w)) rfl rfl rfl rfl ?_
  refine s_tr0 (t_store 1 rfl rfl rfl rfl size_67 rfl rfl) rfl rfl rfl (fun _ _ => ?_)
  refine s_nil ?_
  refine g_then ?_
  refine g_ret ?_
  refine g_thenr ?_
  exact g_end0 (fun a w ha hq_ => res_c (c := [.slice none 0 0, .int .i64 0, .bool true]) 1 ha hq_ rfl rfl rfl  agg_67 size_67 rfl) (fun w h => ⟨(none, 0, es, clock, []), ⟨⟨⟨none, 0, rfl⟩, fun _ _ => RdV.nil⟩, hS, (by intro p hp; cases hp)⟩, (by intro p hp; cases hp), rfl, (((((show Hp w0 wE ((b5, .cells [.int .i64 (s.length : Nat)].toArray 3 (0, 0)) :: (b4, .cells [.slice none 0 0, .int .i64 0, .bool true].toArray 67 (0, 0)) :: (b3, .cells [.map (some mb)].toArray 69 (0, 0)) :: (b2, .cells [.slice ag g.length cg, .slice as_ s.length cs].toArray 48 (0, 0)) :: (mb, .map es clock) :: []) w from h).tail hb5.2).tail hb4.2).tail hb3.2).tail hb2.2)⟩)

theorem best_known (g : List Int) (hgl : g.length ≤ 8) (hgn : ∀ x ∈ g, 0 ≤ x ∧ x ≤ 20) (ag as_ : Option Addr) (cg cs : Nat) (s : List Int) (mb : Nat) (es : Array MapEntry) (clock : Nat) (mm : List (Nat × Obj)) (w0 wE : World) (kk : Nat) (hle : s.length + (kk + 1) = g.length) (hsn : ∀ x ∈ s, 0 ≤ x ∧ x ≤ 20) (hb0 : Below w0.heap.size w0 wE) (hge : w0.heap.size ≤ mb) (hmb : wE.heap[mb]? = some (.map es clock)) (hmm : ∀ p ∈ mm, ∃ c t f, p.2 = Obj.cells c t f ∧ wE.heap[p.1]? = some p.2) (hS : SoundB g es mm) (hg : RdV (Value.int .i64) wE (.slice ag g.length cg) g) (hs : RdV (Value.int .i64) wE (.slice as_ s.length cs) s) (o : Option (List Int × Int)) (Av : Option Addr) (cv : Nat) (F : TK → Option Value) (hM_ : MapG tkV tkok es F) (hF : F (tailK s) = some (.agg #[.slice Av (ntO o).length cv, .int .i64 (wtO o), .bool o.isSome])) (hOv : OwnV (Value.int .i64) (.slice Av (ntO o).length cv) (ntO o) mm) (hov : o = bestR g (kk + 1) s) :
    Calls Try.prog 62 [.agg #[.slice ag g.length cg, .slice as_ s.length cs], .map (some mb)].toArray wE fun e w' => ∃ y : BY, BOk g (bestR g ((kk + 1)) s) mm y ∧ (∀ p ∈ y.2.2.2.2, wE.heap.size ≤ p.1) ∧ e = .returned (bV (bestR g ((kk + 1)) s) y) ∧ Hp w0 wE ((mb, .map y.2.2.1 y.2.2.2.1) :: (y.2.2.2.2 ++ [])) w' := by
  refine enterM (N := 80) Try.func62 rfl rfl rfl (Hp.start hb0 hge hmb) ?_
  refine g_seq ?_
  refine g_region ?_
  refine s_tr (t_box rfl rfl) rfl rfl rfl rfl (fun b2 hb2 => ?_)
  refine s_tr (t_box rfl rfl) rfl rfl rfl rfl (fun b3 hb3 => ?_)
  refine s_tr (t_alloc zero_67 rfl) rfl rfl rfl rfl (fun b4 hb4 => ?_)
  refine s_nil ?_
  refine g_then ?_
  refine g_seq ?_
  refine g_region ?_
  refine s_y (y_fld rfl (fun w => fld_48_1 _ _ w)) rfl rfl rfl rfl ?_
  refine s_y (y_ld1 2 rfl rfl agg_22 rfl) rfl rfl rfl rfl ?_
  refine s_y (y_lenV (n := s.length) rfl (by obtain ⟨A, c, h1, _⟩ := hs; exact ⟨A, c, h1⟩) sle_22) rfl rfl rfl rfl ?_
  refine s_tr (t_alloc zero_3 rfl) rfl rfl rfl rfl (fun b5 hb5 => ?_)
  refine s_tr0 (t_store 0 rfl rfl rfl rfl size_3 rfl rfl) rfl rfl rfl (fun _ _ => ?_)
  refine s_nil ?_
  refine g_then ?_
  refine g_seq ?_
  refine g_seq ?_
  refine g_region ?_
  refine s_y (y_ld1 0 rfl rfl agg_3 rfl) rfl rfl rfl rfl ?_
  refine s_y (y_fld rfl (fun w => fld_48_0 _ _ w)) rfl rfl rfl rfl ?_
  refine s_y (y_ld1 3 rfl rfl agg_22 rfl) rfl rfl rfl rfl ?_
  refine s_y (y_lenV (n := g.length) rfl (by obtain ⟨A, c, h1, _⟩ := hg; exact ⟨A, c, h1⟩) sle_22) rfl rfl rfl rfl ?_
  refine s_y (y_eql_f rfl rfl (by omega)) rfl rfl rfl rfl ?_
  refine s_nil ?_
  refine g_then ?_
  refine g_cond_f rfl ?_
  refine g_skip ?_
  refine g_then ?_
  refine g_seq ?_
  refine g_region ?_
  refine s_y (y_ldn 3 rfl rfl agg_48 size_48 rfl rfl) rfl rfl rfl rfl ?_
  refine s_tr (t_call rfl rfl ent_67 (fun w h => tail_any w ag as_ cg cs g s (hg.keepC (h.toHq.kc (KeepC.refl _) hmb (sd_cons hb5.2 (sd_cons hb4.2 (sd_cons hb3.2 (sd_cons hb2.2 (sd_mb sd_nil))))))) (hs.keepC (h.toHq.kc (KeepC.refl _) hmb (sd_cons hb5.2 (sd_cons hb4.2 (sd_cons hb3.2 (sd_cons hb2.2 (sd_mb sd_nil))))))) (by omega))) rfl rfl rfl rfl (fun _ _ => ?_)
  refine s_tr (t_alloc zero_73 rfl) rfl rfl rfl rfl (fun b6 hb6 => ?_)
  refine s_tr0 (t_store 0 rfl rfl rfl rfl size_73 rfl rfl) rfl rfl rfl (fun _ _ => ?_)
  refine s_nil ?_
  refine g_then ?_
  refine g_seq ?_
  refine g_seq ?_
  refine g_region ?_
  refine s_y (y_ld1 3 rfl rfl agg_69 rfl) rfl rfl rfl rfl ?_
  refine s_y (y_ldn 0 rfl rfl agg_73 size_73 rfl rfl) rfl rfl rfl rfl ?_
  refine s_y (y_lookS hF best_map hM_ (fun w h => h.at_ _ (List.mem_cons_of_mem _ (List.mem_cons_of_mem _ (List.mem_cons_of_mem _ (List.mem_cons_of_mem _ (List.mem_cons_of_mem _ (List.mem_cons_self ..))))))) rfl rfl rfl (tailK_ok hsn (by omega))) rfl rfl rfl rfl ?_
  refine s_y (y_move rfl) rfl rfl rfl rfl ?_
  refine s_y (y_extract rfl rfl) rfl rfl rfl rfl ?_
  refine s_y (y_extract rfl rfl) rfl rfl rfl rfl ?_
  refine s_tr (t_alloc zero_67 rfl) rfl rfl rfl rfl (fun b7 hb7 => ?_)
  refine s_tr0 (t_store 0 rfl rfl rfl rfl size_67 rfl rfl) rfl rfl rfl (fun _ _ => ?_)
  refine s_y (y_assign rfl) rfl rfl rfl rfl ?_
  refine s_nil ?_
  refine g_then ?_
  refine g_seq ?_
  refine g_region ?_
  refine s_y (y_move rfl) rfl rfl rfl rfl ?_
  refine s_nil ?_
  refine g_then ?_
  refine g_cond_t rfl ?_
  refine g_seq ?_
  refine g_region ?_
  refine s_y (y_ldn 0 rfl rfl agg_67 size_67 rfl rfl) rfl rfl rfl rfl ?_
  refine s_tr0 (t_store 3 rfl rfl rfl rfl size_67 rfl rfl) rfl rfl rfl (fun _ _ => ?_)
  refine s_nil ?_
  refine g_then ?_
  refine g_ret ?_
  refine g_thenr ?_
  exact g_end0 (fun a w ha hq_ => res_c (c := [.slice Av (ntO o).length cv, .int .i64 (wtO o), .bool o.isSome]) 3 ha hq_ rfl rfl rfl  agg_67 size_67 rfl) (fun w h => ⟨(Av, cv, es, clock, []), (by rw [← hov]; exact ⟨hOv, hS, (by intro p hp; cases hp)⟩), (by intro p hp; cases hp), (by rw [← hov]; rfl), (((((((show Hp w0 wE ((b7, .cells [.slice Av (ntO o).length cv, .int .i64 (wtO o), .bool o.isSome].toArray 67 (0, 0)) :: (b6, .cells [.int .i64 (rdI (s.drop (s.length - 3)) 0), .int .i64 (rdI (s.drop (s.length - 3)) 1), .int .i64 (rdI (s.drop (s.length - 3)) 2), .int .i64 (s.length : Int)].toArray 73 (0, 0)) :: (b5, .cells [.int .i64 (s.length : Nat)].toArray 3 (0, 0)) :: (b4, .cells [.slice Av (ntO o).length cv, .int .i64 (wtO o), .bool o.isSome].toArray 67 (0, 0)) :: (b3, .cells [.map (some mb)].toArray 69 (0, 0)) :: (b2, .cells [.slice ag g.length cg, .slice as_ s.length cs].toArray 48 (0, 0)) :: (mb, .map es clock) :: []) w from h).tail hb7.2).tail hb6.2).tail hb5.2).tail hb4.2).tail hb3.2).tail hb2.2)⟩)

theorem isC_app {a b : List (Nat × Obj)} (h1 : ∀ p ∈ a, IsC p) (h2 : ∀ p ∈ b, IsC p) : ∀ p ∈ a ++ b, IsC p := fun p hp => (List.mem_append.1 hp).elim (h1 p) (h2 p)
theorem rows_at {w0 w1 wE w : World} {m mq mm : List (Nat × Obj)} (h : Hp w0 w1 m w) (hmqC : ∀ p ∈ mq, IsC p) (hmm : ∀ p ∈ mm, ∃ c t f, p.2 = Obj.cells c t f ∧ wE.heap[p.1]? = some p.2) (hs : ∀ p ∈ mq, p ∈ m) (hk : KeepC wE w) :
    ∀ p ∈ mq ++ mm, ∃ c t f, p.2 = Obj.cells c t f ∧ w.heap[p.1]? = some p.2 := fun p hp => by
  rcases List.mem_append.1 hp with h_ | h_
  · have h2 := h.at_ p (hs p h_)
    obtain ⟨c, t, f, e⟩ := hmqC p h_
    exact ⟨c, t, f, e, h2⟩
  · obtain ⟨c, t, f, e, e2⟩ := hmm p h_
    exact ⟨c, t, f, e, by rw [e] at e2 ⊢; exact hk _ _ _ _ e2⟩
theorem rows_all {w0 w1 wE w : World} {m mq mm : List (Nat × Obj)} (h : Hp w0 w1 m w) (hs : ∀ p ∈ mq, w.heap[p.1]? = some p.2) (hmm : ∀ p ∈ mm, ∃ c t f, p.2 = Obj.cells c t f ∧ wE.heap[p.1]? = some p.2) (hk : KeepC wE w) : ∀ p ∈ mq ++ mm, w.heap[p.1]? = some p.2 := fun p hp => by
  rcases List.mem_append.1 hp with h_ | h_
  · exact hs p h_
  · obtain ⟨c, t, f, e, e2⟩ := hmm p h_
    rw [e] at e2 ⊢; exact hk _ _ _ _ e2

theorem best_new (g : List Int) (hgl : g.length ≤ 8) (hgn : ∀ x ∈ g, 0 ≤ x ∧ x ≤ 20) (ag as_ : Option Addr) (cg cs : Nat) (s : List Int) (mb : Nat) (es : Array MapEntry) (clock : Nat) (mm : List (Nat × Obj)) (w0 wE : World) (kk : Nat) (hle : s.length + (kk + 1) = g.length) (hsn : ∀ x ∈ s, 0 ≤ x ∧ x ≤ 20) (hb0 : Below w0.heap.size w0 wE) (hge : w0.heap.size ≤ mb) (hmb : wE.heap[mb]? = some (.map es clock)) (hmm : ∀ p ∈ mm, ∃ c t f, p.2 = Obj.cells c t f ∧ wE.heap[p.1]? = some p.2) (hS : SoundB g es mm) (hg : RdV (Value.int .i64) wE (.slice ag g.length cg) g) (hs : RdV (Value.int .i64) wE (.slice as_ s.length cs) s) (F : TK → Option Value) (hM_ : MapG tkV tkok es F) (hF : F (tailK s) = none) (IH : BestAt g kk) :
    Calls Try.prog 62 [.agg #[.slice ag g.length cg, .slice as_ s.length cs], .map (some mb)].toArray wE fun e w' => ∃ y : BY, BOk g (bestR g ((kk + 1)) s) mm y ∧ (∀ p ∈ y.2.2.2.2, wE.heap.size ≤ p.1) ∧ e = .returned (bV (bestR g ((kk + 1)) s) y) ∧ Hp w0 wE ((mb, .map y.2.2.1 y.2.2.2.1) :: (y.2.2.2.2 ++ [])) w' := by
  obtain ⟨ie3, hi3⟩ := inf_3
  refine enterM (N := 80) Try.func62 rfl rfl rfl (Hp.start hb0 hge hmb) ?_
  refine g_seq ?_
  refine g_region ?_
  refine s_tr (t_box rfl rfl) rfl rfl rfl rfl (fun b2 hb2 => ?_)
  refine s_tr (t_box rfl rfl) rfl rfl rfl rfl (fun b3 hb3 => ?_)
  refine s_tr (t_alloc zero_67 rfl) rfl rfl rfl rfl (fun b4 hb4 => ?_)
  refine s_nil ?_
  refine g_then ?_
  refine g_seq ?_
  refine g_region ?_
  refine s_y (y_fld rfl (fun w => fld_48_1 _ _ w)) rfl rfl rfl rfl ?_
  refine s_y (y_ld1 2 rfl rfl agg_22 rfl) rfl rfl rfl rfl ?_
  refine s_y (y_lenV (n := s.length) rfl (by obtain ⟨A, c, h1, _⟩ := hs; exact ⟨A, c, h1⟩) sle_22) rfl rfl rfl rfl ?_
  refine s_tr (t_alloc zero_3 rfl) rfl rfl rfl rfl (fun b5 hb5 => ?_)
  refine s_tr0 (t_store 0 rfl rfl rfl rfl size_3 rfl rfl) rfl rfl rfl (fun _ _ => ?_)
  refine s_nil ?_
  refine g_then ?_
  refine g_seq ?_
  refine g_seq ?_
  refine g_region ?_
  refine s_y (y_ld1 0 rfl rfl agg_3 rfl) rfl rfl rfl rfl ?_
  refine s_y (y_fld rfl (fun w => fld_48_0 _ _ w)) rfl rfl rfl rfl ?_
  refine s_y (y_ld1 3 rfl rfl agg_22 rfl) rfl rfl rfl rfl ?_
  refine s_y (y_lenV (n := g.length) rfl (by obtain ⟨A, c, h1, _⟩ := hg; exact ⟨A, c, h1⟩) sle_22) rfl rfl rfl rfl ?_
  refine s_y (y_eql_f rfl rfl (by omega)) rfl rfl rfl rfl ?_
  refine s_nil ?_
  refine g_then ?_
  refine g_cond_f rfl ?_
  refine g_skip ?_
  refine g_then ?_
  refine g_seq ?_
  refine g_region ?_
  refine s_y (y_ldn 3 rfl rfl agg_48 size_48 rfl rfl) rfl rfl rfl rfl ?_
  refine s_tr (t_call rfl rfl ent_67 (fun w h => tail_any w ag as_ cg cs g s (hg.keepC (h.toHq.kc (KeepC.refl _) hmb (sd_cons hb5.2 (sd_cons hb4.2 (sd_cons hb3.2 (sd_cons hb2.2 (sd_mb sd_nil))))))) (hs.keepC (h.toHq.kc (KeepC.refl _) hmb (sd_cons hb5.2 (sd_cons hb4.2 (sd_cons hb3.2 (sd_cons hb2.2 (sd_mb sd_nil))))))) (by omega))) rfl rfl rfl rfl (fun _ _ => ?_)
  refine s_tr (t_alloc zero_73 rfl) rfl rfl rfl rfl (fun b6 hb6 => ?_)
  refine s_tr0 (t_store 0 rfl rfl rfl rfl size_73 rfl rfl) rfl rfl rfl (fun _ _ => ?_)
  refine s_nil ?_
  refine g_then ?_
  refine g_seq ?_
  refine g_seq ?_
  refine g_region ?_
  refine s_y (y_ld1 3 rfl rfl agg_69 rfl) rfl rfl rfl rfl ?_
  refine s_y (y_ldn 0 rfl rfl agg_73 size_73 rfl rfl) rfl rfl rfl rfl ?_
  refine s_y (y_lookN hF best_map hM_ (fun w h => h.at_ _ (List.mem_cons_of_mem _ (List.mem_cons_of_mem _ (List.mem_cons_of_mem _ (List.mem_cons_of_mem _ (List.mem_cons_of_mem _ (List.mem_cons_self ..))))))) rfl rfl rfl (tailK_ok hsn (by omega))) rfl rfl rfl rfl ?_
  refine s_y (y_move rfl) rfl rfl rfl rfl ?_
  refine s_y (y_extract rfl rfl) rfl rfl rfl rfl ?_
  refine s_y (y_extract rfl rfl) rfl rfl rfl rfl ?_
  refine s_tr (t_alloc zero_67 rfl) rfl rfl rfl rfl (fun b7 hb7 => ?_)
  refine s_tr0 (t_store 0 rfl rfl rfl rfl size_67 rfl rfl) rfl rfl rfl (fun _ _ => ?_)
  refine s_y (y_assign rfl) rfl rfl rfl rfl ?_
  refine s_nil ?_
  refine g_then ?_
  refine g_seq ?_
  refine g_region ?_
  refine s_y (y_move rfl) rfl rfl rfl rfl ?_
  refine s_nil ?_
  refine g_then ?_
  refine g_cond_f rfl ?_
  refine g_skip ?_
  refine g_then ?_
  refine g_seq ?_
  refine g_region ?_
  refine s_tr (t_alloc zero_67 rfl) rfl rfl rfl rfl (fun b9 hb9 => ?_)
  refine s_nil ?_
  refine g_then ?_
  refine g_seq ?_
  refine g_seq ?_
  refine g_region ?_
  refine s_y (y_ldn 6 rfl rfl agg_48 size_48 rfl rfl) rfl rfl rfl rfl ?_
  refine s_y (y_func rfl rfl) rfl rfl rfl rfl ?_
  refine s_nil ?_
  refine g_then ?_
  refine g_block ?_
  refine g_rangeF (gf := 55) (fs := [.agg #[.slice ag g.length cg, .slice as_ s.length cs]]) (lb := []) (encs := (fun x : Int => [.int .i64 x])) (xs := nxL g s) rfl ent_55 (fun _ => rfl) (by decide) (fun _ W => RdV (Value.int .i64) W (.slice ag g.length cg) g ∧ RdV (Value.int .i64) W (.slice as_ s.length cs) s)
    (fun k m' => ∃ (o : Option (List Int × Int)) (Ao : Option Addr) (co : Nat) (es' : Array MapEntry) (clock' : Nat) (mq : List (Nat × Obj)), (o = ((nxL g s).take k).foldl (bstep (fun x => bestR g kk (s ++ [x])) fun x => wrt g (s ++ [x]) s.length) none) ∧ OwnV (Value.int .i64) (.slice Ao (ntO o).length co) (ntO o) (mq ++ mm) ∧ SoundB g es' (mq ++ mm) ∧ (∀ p ∈ mq, wE.heap.size ≤ p.1) ∧ (∀ p ∈ mq, IsC p) ∧ m' = (b9, .cells [.slice Ao (ntO o).length co, .int .i64 (wtO o), .bool o.isSome].toArray 67 (0, 0)) :: (b7, .cells [.slice none 0 0, .int .i64 0, .bool false].toArray 67 (0, 0)) :: (b6, .cells [.int .i64 (rdI (s.drop (s.length - 3)) 0), .int .i64 (rdI (s.drop (s.length - 3)) 1), .int .i64 (rdI (s.drop (s.length - 3)) 2), .int .i64 (s.length : Int)].toArray 73 (0, 0)) :: (b5, .cells [.int .i64 (s.length : Nat)].toArray 3 (0, 0)) :: (b4, .cells [.slice none 0 0, .int .i64 0, .bool false].toArray 67 (0, 0)) :: (b3, .cells [.map (some mb)].toArray 69 (0, 0)) :: (b2, .cells [.slice ag g.length cg, .slice as_ s.length cs].toArray 48 (0, 0)) :: (mb, .map es' clock') :: (mq ++ ([]))) (fun _ _ _ => False) (fun we hwe => next_iter ag as_ cg cs g s (by omega) (by omega) hgn hsn)
    (by rintro we k _ W hwe ⟨o, Ao, co, es', clock', mq, ho, hOo, hSo, hmq, hmqC, rfl⟩ h; have hk1 := h.kc (hwe.toHq.kc (KeepC.refl _) hmb (sd_cons hb9.2 (sd_cons hb7.2 (sd_cons hb6.2 (sd_cons hb5.2 (sd_cons hb4.2 (sd_cons hb3.2 (sd_cons hb2.2 (sd_mb sd_nil))))))))) hmb (sd_cons hb9.2 (sd_cons hb7.2 (sd_cons hb6.2 (sd_cons hb5.2 (sd_cons hb4.2 (sd_cons hb3.2 (sd_cons hb2.2 (sd_mb (sd_all hmq))))))))); exact ⟨hg.keepC hk1, hs.keepC hk1⟩) ⟨none, none, 0, es, clock, [], rfl, ⟨⟨none, 0, rfl⟩, fun _ _ => RdV.nil⟩, hS, (by intro p hp; cases hp), (by intro p hp; cases hp), rfl⟩ ?_ ?_ ?_
  · skip
    rintro we W1 hwe lp k x _ hx ⟨o, Ao, co, es', clock', mq, ho, hOo, hSo, hmq, hmqC, rfl⟩ hq K hK
    obtain ⟨hx0, hx1, hxb⟩ := nxL_mem (List.mem_of_getElem? hx)
    refine g_region ?_
    refine s_y (y_assign rfl) rfl rfl rfl rfl ?_
    refine s_nil ?_
    refine g_then ?_
    refine hK _ _ (fun W2 hW2 => ?_)
    have hk2 : KeepC wE W2 := hW2.kc (hq.kc (hwe.toHq.kc (KeepC.refl _) hmb (sd_cons hb9.2 (sd_cons hb7.2 (sd_cons hb6.2 (sd_cons hb5.2 (sd_cons hb4.2 (sd_cons hb3.2 (sd_cons hb2.2 (sd_mb sd_nil))))))))) hmb (sd_cons hb9.2 (sd_cons hb7.2 (sd_cons hb6.2 (sd_cons hb5.2 (sd_cons hb4.2 (sd_cons hb3.2 (sd_cons hb2.2 (sd_mb (sd_all hmq)))))))))) hmb (sd_cons hb9.2 (sd_cons hb7.2 (sd_cons hb6.2 (sd_cons hb5.2 (sd_cons hb4.2 (sd_cons hb3.2 (sd_cons hb2.2 (sd_mb (sd_all hmq)))))))))
    have hsz2 : wE.heap.size ≤ W2.heap.size := Nat.le_trans hwe.size (Nat.le_trans hq.size hW2.size)
    obtain ⟨hcp, hvf⟩ := full_of hs
    have hwr := wrt_range g (s ++ [x]) s.length
    refine g_block ?_
    refine g_seq ?_
    refine g_draw 12 (by kernel_rfl) ?_
    refine j_p (i := 0) rfl (y_fld rfl (fun w => fld_48_0 _ _ w)) (by kernel_rfl) (by kernel_rfl) (by kernel_rfl) rfl rfl rfl rfl rfl (.inr (fun _ h => h)) ?_
    refine j_l (i := 1) rfl (y_ld1 6 rfl rfl agg_22 rfl) (by kernel_rfl) (by kernel_rfl) (by kernel_rfl) (by kernel_rfl) rfl rfl rfl rfl rfl (.inr (fun _ h => h)) ?_
    refine j_p (i := 2) rfl (y_fld rfl (fun w => fld_48_1 _ _ w)) (by kernel_rfl) (by kernel_rfl) (by kernel_rfl) rfl rfl rfl rfl rfl (.inr (fun _ h => h)) ?_
    refine j_l (i := 3) rfl (y_ld1 6 rfl rfl agg_22 rfl) (by kernel_rfl) (by kernel_rfl) (by kernel_rfl) (by kernel_rfl) rfl rfl rfl rfl rfl (.inr (fun _ h => h)) ?_
    refine j_l (i := 4) rfl (y_ld1 3 rfl rfl agg_3 rfl) (by kernel_rfl) (by kernel_rfl) (by kernel_rfl) (by kernel_rfl) rfl rfl rfl rfl rfl (.inr (fun _ h => h)) ?_
    refine j_l (i := 5) rfl (y_ld1 3 rfl rfl agg_3 rfl) (by kernel_rfl) (by kernel_rfl) (by kernel_rfl) (by kernel_rfl) rfl rfl rfl rfl rfl (.inr (fun _ h => h)) ?_
    refine j_p (i := 6) rfl (y_full rfl rfl rfl hcp Try.underlying22 hi3.1 hi3.2.2.1) (by kernel_rfl) (by kernel_rfl) (by kernel_rfl) rfl rfl rfl rfl rfl (.inr (fun _ h => h)) ?_
    refine j_p (i := 7) rfl (y_move rfl) (by kernel_rfl) (by kernel_rfl) (by kernel_rfl) rfl rfl rfl rfl rfl (.inr (fun _ h => h)) ?_
    refine j_two 8 11 (by kernel_rfl) ?_ ?_
    · skip
      refine i_tr (i := 8) rfl (t_build (vs := [(0, .int .i64 x)]) (cells := [.int .i64 x]) rfl rfl Try.underlying22 hi3.1 hi3.2.1 (by rw [hi3.2.2.1]; rfl) (by rw [hi3.2.2.1]; rfl) (by rw [hi3.2.2.1]; kernel_rfl)) rfl rfl rfl rfl (.inr (fun x w hb h => (h.tail hb.2))) (fun b44 hb44 => ?_)
      refine j_two 9 11 (by kernel_rfl) ?_ ?_
      · skip
        refine i_tr (i := 9) rfl (t_appendN (enc := (Value.int .i64)) (xs := s) (v := x) rfl rfl Try.underlying22 hi3.1 hi3.2.1 hi3.2.2.1 hi3.2.2.2 rfl (fun w h => hvf.keepC (h.toHq.kc hk2 hmb (sd_cons (Nat.le_trans hsz2 hb44.2) (sd_cons hb9.2 (sd_cons hb7.2 (sd_cons hb6.2 (sd_cons hb5.2 (sd_cons hb4.2 (sd_cons hb3.2 (sd_cons hb2.2 (sd_mb (sd_all hmq)))))))))))) (fun w h => h.toHq.cell (i := 0) rfl rfl) rfl (by omega) (by unfold maxLen; omega)) rfl rfl rfl rfl (.inr (fun x w hb h => ((sv_tail hb.2 h).tail hb44.2))) (fun svn hokn' => ?_)
        obtain ⟨hokn, bN, capN, jN, rfl, hgeN⟩ := hokn'
        have hln : (s ++ [x]).length = s.length + 1 := by simp
        refine j_p (i := 10) rfl (y_build (vs := [(0, _), (1, _)]) rfl rfl (fun w => bld_48_0_1 _ _ _ _ _ _ w)) (by kernel_rfl) (by kernel_rfl) (by kernel_rfl) rfl rfl rfl rfl rfl (.inr (fun _ h => ((h.tail hgeN).tail hb44.2))) ?_
        refine j_tr (i := 11) rfl (t_alloc zero_48 rfl) (by kernel_rfl) rfl rfl rfl rfl (.inr (fun x w hb h => (((h.tail hb.2).tail hgeN).tail hb44.2))) (fun b11 hb11 => ?_)
        refine j_tr0 (i := 12) rfl (t_store 0 rfl rfl rfl rfl size_48 rfl rfl) (by kernel_rfl) rfl rfl rfl (.inl rfl) (fun _ _ => ?_)
        refine j_nil (by kernel_rfl) ?_
        refine g_then ?_
        refine g_seq ?_
        refine g_region ?_
        refine s_y (y_ldn 0 rfl rfl agg_48 size_48 rfl rfl) rfl rfl rfl rfl ?_
        refine s_y (y_ld1 8 rfl rfl agg_69 rfl) rfl rfl rfl rfl ?_
        refine s_tr (t_callB (A := BOk g (bestR g kk (s ++ [x])) (mq ++ mm)) (fo := fun y => .map y.2.2.1 y.2.2.2.1) (vf := bV (bestR g kk (s ++ [x]))) (mm := fun y => y.2.2.2.2) (pre := [(b11, .cells [.slice ag g.length cg, .slice (some ⟨bN, 0, none⟩) (s.length + 1) capN].toArray 48 (0, 0)), (bN, .cells ((s ++ [x]).map (Value.int .i64) ++ jN).toArray 3 (0, 0)), (b44, .cells [.int .i64 x].toArray 3 (0, 0)), (b9, .cells [.slice Ao (ntO o).length co, .int .i64 (wtO o), .bool o.isSome].toArray 67 (0, 0)), (b7, .cells [.slice none 0 0, .int .i64 0, .bool false].toArray 67 (0, 0)), (b6, .cells [.int .i64 (rdI (s.drop (s.length - 3)) 0), .int .i64 (rdI (s.drop (s.length - 3)) 1), .int .i64 (rdI (s.drop (s.length - 3)) 2), .int .i64 (s.length : Int)].toArray 73 (0, 0)), (b5, .cells [.int .i64 (s.length : Nat)].toArray 3 (0, 0)), (b4, .cells [.slice none 0 0, .int .i64 0, .bool false].toArray 67 (0, 0)), (b3, .cells [.map (some mb)].toArray 69 (0, 0)), (b2, .cells [.slice ag g.length cg, .slice as_ s.length cs].toArray 48 (0, 0)), (mb, .map es' clock')]) (mq := mq) 10 rfl rfl rfl rfl ent_62 (fun w h => ?_)) rfl rfl rfl rfl (fun yB hyB => ?_)
        · skip
          have h_ := IH ag (some ⟨bN, 0, none⟩) cg capN (s ++ [x]) mb es' clock' (mq ++ mm) w0 w (by omega) (notes_snoc hsn hx0 hx1) h.below hge (at_of (i := 10) h rfl) (rows_at h hmqC hmm (fun p hp => (List.mem_cons_of_mem _ (List.mem_cons_of_mem _ (List.mem_cons_of_mem _ (List.mem_cons_of_mem _ (List.mem_cons_of_mem _ (List.mem_cons_of_mem _ (List.mem_cons_of_mem _ (List.mem_cons_of_mem _ (List.mem_cons_of_mem _ (List.mem_cons_of_mem _ (List.mem_cons_of_mem _ (mem_al mq hp))))))))))))) (h.toHq.kc hk2 hmb (sd_cons (Nat.le_trans hsz2 hb11.2) (sd_cons (Nat.le_trans hsz2 hgeN) (sd_cons (Nat.le_trans hsz2 hb44.2) (sd_cons hb9.2 (sd_cons hb7.2 (sd_cons hb6.2 (sd_cons hb5.2 (sd_cons hb4.2 (sd_cons hb3.2 (sd_cons hb2.2 (sd_mb (sd_all hmq)))))))))))))) hSo (hg.keepC (h.toHq.kc hk2 hmb (sd_cons (Nat.le_trans hsz2 hb11.2) (sd_cons (Nat.le_trans hsz2 hgeN) (sd_cons (Nat.le_trans hsz2 hb44.2) (sd_cons hb9.2 (sd_cons hb7.2 (sd_cons hb6.2 (sd_cons hb5.2 (sd_cons hb4.2 (sd_cons hb3.2 (sd_cons hb2.2 (sd_mb (sd_all hmq)))))))))))))) (by rw [hln]; exact RdV.own (jk := jN) (at_of (i := 1) h rfl) hln.symm hokn.1)
          rw [hln] at h_
          exact h_
        obtain ⟨A2, c2, es2, clock2, mq2⟩ := yB
        obtain ⟨⟨hO2, hS2, hC2⟩, hmq2⟩ := hyB
        simp only at hO2 hS2 hC2 hmq2
        rcases ho2 : bestR g kk (s ++ [x]) with _ | ⟨t2, w2⟩
        · skip
          rw [ho2] at hO2
          rcases o with _ | ⟨t0, w0_⟩
          · skip
            show G _ _ ((49, .agg #[.slice A2 0 c2, .int .i64 0, .bool false]) :: _) _ _ ((b11, .cells [.slice ag g.length cg, .slice (some ⟨bN, 0, none⟩) (s.length + 1) capN].toArray 48 (0, 0)) :: (bN, .cells ((s ++ [x]).map (Value.int .i64) ++ jN).toArray 3 (0, 0)) :: (b44, .cells [.int .i64 x].toArray 3 (0, 0)) :: (b9, .cells [.slice Ao 0 co, .int .i64 0, .bool false].toArray 67 (0, 0)) :: (b7, .cells [.slice none 0 0, .int .i64 0, .bool false].toArray 67 (0, 0)) :: (b6, .cells [.int .i64 (rdI (s.drop (s.length - 3)) 0), .int .i64 (rdI (s.drop (s.length - 3)) 1), .int .i64 (rdI (s.drop (s.length - 3)) 2), .int .i64 (s.length : Int)].toArray 73 (0, 0)) :: (b5, .cells [.int .i64 (s.length : Nat)].toArray 3 (0, 0)) :: (b4, .cells [.slice none 0 0, .int .i64 0, .bool false].toArray 67 (0, 0)) :: (b3, .cells [.map (some mb)].toArray 69 (0, 0)) :: (b2, .cells [.slice ag g.length cg, .slice as_ s.length cs].toArray 48 (0, 0)) :: (mb, .map es2 clock2) :: ((mq2 ++ mq) ++ ([]))) _
            refine s_tr (t_alloc zero_67 rfl) rfl rfl rfl rfl (fun b12 hb12 => ?_)
            refine s_tr0 (t_store 0 rfl rfl rfl rfl size_67 rfl rfl) rfl rfl rfl (fun _ _ => ?_)
            refine s_nil ?_
            refine g_then ?_
            refine g_seq ?_
            refine g_draw 7 (by kernel_rfl) ?_
            refine j_p (i := 0) rfl (y_fld rfl (fun w => fld_67_1 _ _ w)) (by kernel_rfl) (by kernel_rfl) (by kernel_rfl) rfl rfl rfl rfl rfl (.inr (fun _ h => h)) ?_
            refine j_l (i := 1) rfl (y_ld1 0 rfl rfl agg_3 rfl) (by kernel_rfl) (by kernel_rfl) (by kernel_rfl) (by kernel_rfl) rfl rfl rfl rfl rfl (.inr (fun _ h => h)) ?_
            refine j_l (i := 2) rfl (y_ldn 1 rfl rfl agg_48 size_48 rfl rfl) (by kernel_rfl) (by kernel_rfl) (by kernel_rfl) (by kernel_rfl) rfl rfl rfl rfl rfl (.inr (fun _ h => h)) ?_
            refine j_l (i := 3) rfl (y_ld1 7 rfl rfl agg_3 rfl) (by kernel_rfl) (by kernel_rfl) (by kernel_rfl) (by kernel_rfl) rfl rfl rfl rfl rfl (.inr (fun _ h => h)) ?_
            refine j_tr (i := 4) rfl (t_call rfl rfl ent_61 (fun w h => by have h_ := worth_any w ag (some ⟨bN, 0, none⟩) cg capN g (s ++ [x]) (hg.keepC (h.toHq.kc hk2 hmb (sd_cons (Nat.le_trans hsz2 hb12.2) (sd_cons (Nat.le_trans hsz2 hb11.2) (sd_cons (Nat.le_trans hsz2 hgeN) (sd_cons (Nat.le_trans hsz2 hb44.2) (sd_cons hb9.2 (sd_cons hb7.2 (sd_cons hb6.2 (sd_cons hb5.2 (sd_cons hb4.2 (sd_cons hb3.2 (sd_cons hb2.2 (sd_mb (sd_all (ge_app (ge_mono hmq2 hsz2) hmq)))))))))))))))) (by rw [hln]; exact RdV.own (jk := jN) (at_of (i := 2) h rfl) hln.symm hokn.1) s.length (by omega) (by omega) (by omega) hgn (notes_snoc hsn hx0 hx1); rw [hln] at h_; exact h_)) (by kernel_rfl) rfl rfl rfl rfl (.inr (fun x w hb h => h)) (fun _ _ => ?_)
            refine j_p (i := 5) rfl (y_add rfl rfl (by omega) (by omega)) (by kernel_rfl) (by kernel_rfl) (by kernel_rfl) rfl rfl rfl rfl rfl (.inr (fun _ h => h)) ?_
            refine j_p (i := 6) rfl (y_assign rfl) (by kernel_rfl) (by kernel_rfl) (by kernel_rfl) rfl rfl rfl rfl rfl (.inr (fun _ h => h)) ?_
            refine j_nil (by kernel_rfl) ?_
            refine g_then ?_
            refine g_seq ?_
            refine g_region ?_
            refine s_y (y_fld rfl (fun w => fld_67_2 _ _ w)) rfl rfl rfl rfl ?_
            refine s_y (y_ld1 0 rfl rfl agg_4 rfl) rfl rfl rfl rfl ?_
            refine s_y (y_move rfl) rfl rfl rfl rfl ?_
            refine s_no rfl rfl rfl ?_
            refine s_no rfl rfl rfl ?_
            refine s_no rfl rfl rfl ?_
            refine s_no rfl rfl rfl ?_
            refine s_noU rfl rfl rfl rfl rfl ?_
            refine s_noU rfl rfl rfl rfl rfl ?_
            refine s_noU rfl rfl rfl rfl rfl ?_
            refine s_noU rfl rfl rfl rfl rfl ?_
            refine s_no rfl rfl rfl ?_
            refine s_y (y_pick_f rfl rfl) rfl rfl rfl rfl ?_
            refine s_nil ?_
            refine g_then ?_
            refine g_cond_f rfl ?_
            refine g_skip ?_
            refine g_inb ?_
            exact fun act W _ hW => (have hc_ := rf_close2 hq hW2 (((((show Hp w0 W2 ((b12, .cells [.slice A2 0 c2, .int .i64 0, .bool false].toArray 67 (0, 0)) :: (b11, .cells [.slice ag g.length cg, .slice (some ⟨bN, 0, none⟩) (s.length + 1) capN].toArray 48 (0, 0)) :: (bN, .cells ((s ++ [x]).map (Value.int .i64) ++ jN).toArray 3 (0, 0)) :: (b44, .cells [.int .i64 x].toArray 3 (0, 0)) :: (b9, .cells [.slice Ao 0 co, .int .i64 0, .bool false].toArray 67 (0, 0)) :: (b7, .cells [.slice none 0 0, .int .i64 0, .bool false].toArray 67 (0, 0)) :: (b6, .cells [.int .i64 (rdI (s.drop (s.length - 3)) 0), .int .i64 (rdI (s.drop (s.length - 3)) 1), .int .i64 (rdI (s.drop (s.length - 3)) 2), .int .i64 (s.length : Int)].toArray 73 (0, 0)) :: (b5, .cells [.int .i64 (s.length : Nat)].toArray 3 (0, 0)) :: (b4, .cells [.slice none 0 0, .int .i64 0, .bool false].toArray 67 (0, 0)) :: (b3, .cells [.map (some mb)].toArray 69 (0, 0)) :: (b2, .cells [.slice ag g.length cg, .slice as_ s.length cs].toArray 48 (0, 0)) :: (mb, .map es2 clock2) :: ((mq2 ++ mq) ++ ([]))) W from hW).tail hb12.2).tail hb11.2).tail hgeN).tail hb44.2) (ids_mq (n := W2.heap.size) (l1 := [(b9, _), (b7, _), (b6, _), (b5, _), (b4, _), (b3, _), (b2, _), (mb, _)]) (l2 := [(b9, .cells [.slice Ao 0 co, .int .i64 0, .bool false].toArray 67 (0, 0)), (b7, .cells [.slice none 0 0, .int .i64 0, .bool false].toArray 67 (0, 0)), (b6, .cells [.int .i64 (rdI (s.drop (s.length - 3)) 0), .int .i64 (rdI (s.drop (s.length - 3)) 1), .int .i64 (rdI (s.drop (s.length - 3)) 2), .int .i64 (s.length : Int)].toArray 73 (0, 0)), (b5, .cells [.int .i64 (s.length : Nat)].toArray 3 (0, 0)), (b4, .cells [.slice none 0 0, .int .i64 0, .bool false].toArray 67 (0, 0)), (b3, .cells [.map (some mb)].toArray 69 (0, 0)), (b2, .cells [.slice ag g.length cg, .slice as_ s.length cs].toArray 48 (0, 0)), (mb, .map es2 clock2)]) (mq := mq) (nw := mq2) rfl hmq2).1 (ids_mq (n := W2.heap.size) (l1 := [(b9, _), (b7, _), (b6, _), (b5, _), (b4, _), (b3, _), (b2, _), (mb, _)]) (l2 := [(b9, .cells [.slice Ao 0 co, .int .i64 0, .bool false].toArray 67 (0, 0)), (b7, .cells [.slice none 0 0, .int .i64 0, .bool false].toArray 67 (0, 0)), (b6, .cells [.int .i64 (rdI (s.drop (s.length - 3)) 0), .int .i64 (rdI (s.drop (s.length - 3)) 1), .int .i64 (rdI (s.drop (s.length - 3)) 2), .int .i64 (s.length : Int)].toArray 73 (0, 0)), (b5, .cells [.int .i64 (s.length : Nat)].toArray 3 (0, 0)), (b4, .cells [.slice none 0 0, .int .i64 0, .bool false].toArray 67 (0, 0)), (b3, .cells [.map (some mb)].toArray 69 (0, 0)), (b2, .cells [.slice ag g.length cg, .slice as_ s.length cs].toArray 48 (0, 0)), (mb, .map es2 clock2)]) (mq := mq) (nw := mq2) rfl hmq2).2; ⟨hc_.1, _, ⟨none, Ao, co, es2, clock2, (mq2 ++ mq), (by rw [List.take_add_one, hx, List.foldl_append, ← ho]; simp only [Option.toList, List.foldl_cons, List.foldl_nil, bstep, ho2]), (hOo.mono fun p hp => by rcases List.mem_append.1 hp with h_ | h_; exact List.mem_append_left _ (List.mem_append_right _ h_); exact List.mem_append_right _ h_), (hS2.mono fun p hp => by simp only [List.mem_append] at hp ⊢; rcases hp with h_ | h_ | h_ <;> simp [h_]), ge_app (ge_mono hmq2 hsz2) hmq, (isC_app hC2 hmqC), rfl⟩, hc_.2⟩)
          · skip
            show G _ _ ((49, .agg #[.slice A2 0 c2, .int .i64 0, .bool false]) :: _) _ _ ((b11, .cells [.slice ag g.length cg, .slice (some ⟨bN, 0, none⟩) (s.length + 1) capN].toArray 48 (0, 0)) :: (bN, .cells ((s ++ [x]).map (Value.int .i64) ++ jN).toArray 3 (0, 0)) :: (b44, .cells [.int .i64 x].toArray 3 (0, 0)) :: (b9, .cells [.slice Ao t0.length co, .int .i64 w0_, .bool true].toArray 67 (0, 0)) :: (b7, .cells [.slice none 0 0, .int .i64 0, .bool false].toArray 67 (0, 0)) :: (b6, .cells [.int .i64 (rdI (s.drop (s.length - 3)) 0), .int .i64 (rdI (s.drop (s.length - 3)) 1), .int .i64 (rdI (s.drop (s.length - 3)) 2), .int .i64 (s.length : Int)].toArray 73 (0, 0)) :: (b5, .cells [.int .i64 (s.length : Nat)].toArray 3 (0, 0)) :: (b4, .cells [.slice none 0 0, .int .i64 0, .bool false].toArray 67 (0, 0)) :: (b3, .cells [.map (some mb)].toArray 69 (0, 0)) :: (b2, .cells [.slice ag g.length cg, .slice as_ s.length cs].toArray 48 (0, 0)) :: (mb, .map es2 clock2) :: ((mq2 ++ mq) ++ ([]))) _
            refine s_tr (t_alloc zero_67 rfl) rfl rfl rfl rfl (fun b12 hb12 => ?_)
            refine s_tr0 (t_store 0 rfl rfl rfl rfl size_67 rfl rfl) rfl rfl rfl (fun _ _ => ?_)
            refine s_nil ?_
            refine g_then ?_
            refine g_seq ?_
            refine g_draw 7 (by kernel_rfl) ?_
            refine j_p (i := 0) rfl (y_fld rfl (fun w => fld_67_1 _ _ w)) (by kernel_rfl) (by kernel_rfl) (by kernel_rfl) rfl rfl rfl rfl rfl (.inr (fun _ h => h)) ?_
            refine j_l (i := 1) rfl (y_ld1 0 rfl rfl agg_3 rfl) (by kernel_rfl) (by kernel_rfl) (by kernel_rfl) (by kernel_rfl) rfl rfl rfl rfl rfl (.inr (fun _ h => h)) ?_
            refine j_l (i := 2) rfl (y_ldn 1 rfl rfl agg_48 size_48 rfl rfl) (by kernel_rfl) (by kernel_rfl) (by kernel_rfl) (by kernel_rfl) rfl rfl rfl rfl rfl (.inr (fun _ h => h)) ?_
            refine j_l (i := 3) rfl (y_ld1 7 rfl rfl agg_3 rfl) (by kernel_rfl) (by kernel_rfl) (by kernel_rfl) (by kernel_rfl) rfl rfl rfl rfl rfl (.inr (fun _ h => h)) ?_
            refine j_tr (i := 4) rfl (t_call rfl rfl ent_61 (fun w h => by have h_ := worth_any w ag (some ⟨bN, 0, none⟩) cg capN g (s ++ [x]) (hg.keepC (h.toHq.kc hk2 hmb (sd_cons (Nat.le_trans hsz2 hb12.2) (sd_cons (Nat.le_trans hsz2 hb11.2) (sd_cons (Nat.le_trans hsz2 hgeN) (sd_cons (Nat.le_trans hsz2 hb44.2) (sd_cons hb9.2 (sd_cons hb7.2 (sd_cons hb6.2 (sd_cons hb5.2 (sd_cons hb4.2 (sd_cons hb3.2 (sd_cons hb2.2 (sd_mb (sd_all (ge_app (ge_mono hmq2 hsz2) hmq)))))))))))))))) (by rw [hln]; exact RdV.own (jk := jN) (at_of (i := 2) h rfl) hln.symm hokn.1) s.length (by omega) (by omega) (by omega) hgn (notes_snoc hsn hx0 hx1); rw [hln] at h_; exact h_)) (by kernel_rfl) rfl rfl rfl rfl (.inr (fun x w hb h => h)) (fun _ _ => ?_)
            refine j_p (i := 5) rfl (y_add rfl rfl (by omega) (by omega)) (by kernel_rfl) (by kernel_rfl) (by kernel_rfl) rfl rfl rfl rfl rfl (.inr (fun _ h => h)) ?_
            refine j_p (i := 6) rfl (y_assign rfl) (by kernel_rfl) (by kernel_rfl) (by kernel_rfl) rfl rfl rfl rfl rfl (.inr (fun _ h => h)) ?_
            refine j_nil (by kernel_rfl) ?_
            refine g_then ?_
            refine g_seq ?_
            refine g_region ?_
            refine s_y (y_fld rfl (fun w => fld_67_2 _ _ w)) rfl rfl rfl rfl ?_
            refine s_y (y_ld1 0 rfl rfl agg_4 rfl) rfl rfl rfl rfl ?_
            refine s_y (y_move rfl) rfl rfl rfl rfl ?_
            refine s_no rfl rfl rfl ?_
            refine s_no rfl rfl rfl ?_
            refine s_no rfl rfl rfl ?_
            refine s_no rfl rfl rfl ?_
            refine s_noU rfl rfl rfl rfl rfl ?_
            refine s_noU rfl rfl rfl rfl rfl ?_
            refine s_noU rfl rfl rfl rfl rfl ?_
            refine s_noU rfl rfl rfl rfl rfl ?_
            refine s_no rfl rfl rfl ?_
            refine s_y (y_pick_f rfl rfl) rfl rfl rfl rfl ?_
            refine s_nil ?_
            refine g_then ?_
            refine g_cond_f rfl ?_
            refine g_skip ?_
            refine g_inb ?_
            exact fun act W _ hW => (have hc_ := rf_close2 hq hW2 (((((show Hp w0 W2 ((b12, .cells [.slice A2 0 c2, .int .i64 0, .bool false].toArray 67 (0, 0)) :: (b11, .cells [.slice ag g.length cg, .slice (some ⟨bN, 0, none⟩) (s.length + 1) capN].toArray 48 (0, 0)) :: (bN, .cells ((s ++ [x]).map (Value.int .i64) ++ jN).toArray 3 (0, 0)) :: (b44, .cells [.int .i64 x].toArray 3 (0, 0)) :: (b9, .cells [.slice Ao t0.length co, .int .i64 w0_, .bool true].toArray 67 (0, 0)) :: (b7, .cells [.slice none 0 0, .int .i64 0, .bool false].toArray 67 (0, 0)) :: (b6, .cells [.int .i64 (rdI (s.drop (s.length - 3)) 0), .int .i64 (rdI (s.drop (s.length - 3)) 1), .int .i64 (rdI (s.drop (s.length - 3)) 2), .int .i64 (s.length : Int)].toArray 73 (0, 0)) :: (b5, .cells [.int .i64 (s.length : Nat)].toArray 3 (0, 0)) :: (b4, .cells [.slice none 0 0, .int .i64 0, .bool false].toArray 67 (0, 0)) :: (b3, .cells [.map (some mb)].toArray 69 (0, 0)) :: (b2, .cells [.slice ag g.length cg, .slice as_ s.length cs].toArray 48 (0, 0)) :: (mb, .map es2 clock2) :: ((mq2 ++ mq) ++ ([]))) W from hW).tail hb12.2).tail hb11.2).tail hgeN).tail hb44.2) (ids_mq (n := W2.heap.size) (l1 := [(b9, _), (b7, _), (b6, _), (b5, _), (b4, _), (b3, _), (b2, _), (mb, _)]) (l2 := [(b9, .cells [.slice Ao t0.length co, .int .i64 w0_, .bool true].toArray 67 (0, 0)), (b7, .cells [.slice none 0 0, .int .i64 0, .bool false].toArray 67 (0, 0)), (b6, .cells [.int .i64 (rdI (s.drop (s.length - 3)) 0), .int .i64 (rdI (s.drop (s.length - 3)) 1), .int .i64 (rdI (s.drop (s.length - 3)) 2), .int .i64 (s.length : Int)].toArray 73 (0, 0)), (b5, .cells [.int .i64 (s.length : Nat)].toArray 3 (0, 0)), (b4, .cells [.slice none 0 0, .int .i64 0, .bool false].toArray 67 (0, 0)), (b3, .cells [.map (some mb)].toArray 69 (0, 0)), (b2, .cells [.slice ag g.length cg, .slice as_ s.length cs].toArray 48 (0, 0)), (mb, .map es2 clock2)]) (mq := mq) (nw := mq2) rfl hmq2).1 (ids_mq (n := W2.heap.size) (l1 := [(b9, _), (b7, _), (b6, _), (b5, _), (b4, _), (b3, _), (b2, _), (mb, _)]) (l2 := [(b9, .cells [.slice Ao t0.length co, .int .i64 w0_, .bool true].toArray 67 (0, 0)), (b7, .cells [.slice none 0 0, .int .i64 0, .bool false].toArray 67 (0, 0)), (b6, .cells [.int .i64 (rdI (s.drop (s.length - 3)) 0), .int .i64 (rdI (s.drop (s.length - 3)) 1), .int .i64 (rdI (s.drop (s.length - 3)) 2), .int .i64 (s.length : Int)].toArray 73 (0, 0)), (b5, .cells [.int .i64 (s.length : Nat)].toArray 3 (0, 0)), (b4, .cells [.slice none 0 0, .int .i64 0, .bool false].toArray 67 (0, 0)), (b3, .cells [.map (some mb)].toArray 69 (0, 0)), (b2, .cells [.slice ag g.length cg, .slice as_ s.length cs].toArray 48 (0, 0)), (mb, .map es2 clock2)]) (mq := mq) (nw := mq2) rfl hmq2).2; ⟨hc_.1, _, ⟨some (t0, w0_), Ao, co, es2, clock2, (mq2 ++ mq), (by rw [List.take_add_one, hx, List.foldl_append, ← ho]; simp only [Option.toList, List.foldl_cons, List.foldl_nil, bstep, ho2]), (hOo.mono fun p hp => by rcases List.mem_append.1 hp with h_ | h_; exact List.mem_append_left _ (List.mem_append_right _ h_); exact List.mem_append_right _ h_), (hS2.mono fun p hp => by simp only [List.mem_append] at hp ⊢; rcases hp with h_ | h_ | h_ <;> simp [h_]), ge_app (ge_mono hmq2 hsz2) hmq, (isC_app hC2 hmqC), rfl⟩, hc_.2⟩)
        · skip
          rw [ho2] at hO2
          have hr2 := bestR_range _ _ _ ho2
          simp only at hr2
          have hO2' : OwnV (Value.int .i64) (.slice A2 t2.length c2) t2 (mq2 ++ (mq ++ mm)) := hO2
          rcases o with _ | ⟨t0, w0_⟩
          · skip
            show G _ _ ((49, .agg #[.slice A2 t2.length c2, .int .i64 w2, .bool true]) :: _) _ _ ((b11, .cells [.slice ag g.length cg, .slice (some ⟨bN, 0, none⟩) (s.length + 1) capN].toArray 48 (0, 0)) :: (bN, .cells ((s ++ [x]).map (Value.int .i64) ++ jN).toArray 3 (0, 0)) :: (b44, .cells [.int .i64 x].toArray 3 (0, 0)) :: (b9, .cells [.slice Ao 0 co, .int .i64 0, .bool false].toArray 67 (0, 0)) :: (b7, .cells [.slice none 0 0, .int .i64 0, .bool false].toArray 67 (0, 0)) :: (b6, .cells [.int .i64 (rdI (s.drop (s.length - 3)) 0), .int .i64 (rdI (s.drop (s.length - 3)) 1), .int .i64 (rdI (s.drop (s.length - 3)) 2), .int .i64 (s.length : Int)].toArray 73 (0, 0)) :: (b5, .cells [.int .i64 (s.length : Nat)].toArray 3 (0, 0)) :: (b4, .cells [.slice none 0 0, .int .i64 0, .bool false].toArray 67 (0, 0)) :: (b3, .cells [.map (some mb)].toArray 69 (0, 0)) :: (b2, .cells [.slice ag g.length cg, .slice as_ s.length cs].toArray 48 (0, 0)) :: (mb, .map es2 clock2) :: ((mq2 ++ mq) ++ ([]))) _
            refine s_tr (t_alloc zero_67 rfl) rfl rfl rfl rfl (fun b12 hb12 => ?_)
            refine s_tr0 (t_store 0 rfl rfl rfl rfl size_67 rfl rfl) rfl rfl rfl (fun _ _ => ?_)
            refine s_nil ?_
            refine g_then ?_
            refine g_seq ?_
            refine g_draw 7 (by kernel_rfl) ?_
            refine j_p (i := 0) rfl (y_fld rfl (fun w => fld_67_1 _ _ w)) (by kernel_rfl) (by kernel_rfl) (by kernel_rfl) rfl rfl rfl rfl rfl (.inr (fun _ h => h)) ?_
            refine j_l (i := 1) rfl (y_ld1 0 rfl rfl agg_3 rfl) (by kernel_rfl) (by kernel_rfl) (by kernel_rfl) (by kernel_rfl) rfl rfl rfl rfl rfl (.inr (fun _ h => h)) ?_
            refine j_l (i := 2) rfl (y_ldn 1 rfl rfl agg_48 size_48 rfl rfl) (by kernel_rfl) (by kernel_rfl) (by kernel_rfl) (by kernel_rfl) rfl rfl rfl rfl rfl (.inr (fun _ h => h)) ?_
            refine j_l (i := 3) rfl (y_ld1 7 rfl rfl agg_3 rfl) (by kernel_rfl) (by kernel_rfl) (by kernel_rfl) (by kernel_rfl) rfl rfl rfl rfl rfl (.inr (fun _ h => h)) ?_
            refine j_tr (i := 4) rfl (t_call rfl rfl ent_61 (fun w h => by have h_ := worth_any w ag (some ⟨bN, 0, none⟩) cg capN g (s ++ [x]) (hg.keepC (h.toHq.kc hk2 hmb (sd_cons (Nat.le_trans hsz2 hb12.2) (sd_cons (Nat.le_trans hsz2 hb11.2) (sd_cons (Nat.le_trans hsz2 hgeN) (sd_cons (Nat.le_trans hsz2 hb44.2) (sd_cons hb9.2 (sd_cons hb7.2 (sd_cons hb6.2 (sd_cons hb5.2 (sd_cons hb4.2 (sd_cons hb3.2 (sd_cons hb2.2 (sd_mb (sd_all (ge_app (ge_mono hmq2 hsz2) hmq)))))))))))))))) (by rw [hln]; exact RdV.own (jk := jN) (at_of (i := 2) h rfl) hln.symm hokn.1) s.length (by omega) (by omega) (by omega) hgn (notes_snoc hsn hx0 hx1); rw [hln] at h_; exact h_)) (by kernel_rfl) rfl rfl rfl rfl (.inr (fun x w hb h => h)) (fun _ _ => ?_)
            refine j_p (i := 5) rfl (y_add rfl rfl (by omega) (by omega)) (by kernel_rfl) (by kernel_rfl) (by kernel_rfl) rfl rfl rfl rfl rfl (.inr (fun _ h => h)) ?_
            refine j_p (i := 6) rfl (y_assign rfl) (by kernel_rfl) (by kernel_rfl) (by kernel_rfl) rfl rfl rfl rfl rfl (.inr (fun _ h => h)) ?_
            refine j_nil (by kernel_rfl) ?_
            refine g_then ?_
            refine g_seq ?_
            refine g_region ?_
            refine s_y (y_fld rfl (fun w => fld_67_2 _ _ w)) rfl rfl rfl rfl ?_
            refine s_y (y_ld1 0 rfl rfl agg_4 rfl) rfl rfl rfl rfl ?_
            refine s_y (y_move rfl) rfl rfl rfl rfl ?_
            refine s_y (y_fld rfl (fun w => fld_67_2 _ _ w)) rfl rfl rfl rfl ?_
            refine s_y (y_ld1 4 rfl rfl agg_4 rfl) rfl rfl rfl rfl ?_
            refine s_y (y_not_f rfl) rfl rfl rfl rfl ?_
            refine s_y (y_move rfl) rfl rfl rfl rfl ?_
            refine s_no rfl rfl rfl ?_
            refine s_no rfl rfl rfl ?_
            refine s_no rfl rfl rfl ?_
            refine s_no rfl rfl rfl ?_
            refine s_y (y_pick_t rfl rfl) rfl rfl rfl rfl ?_
            refine s_y (y_pick_t rfl rfl) rfl rfl rfl rfl ?_
            refine s_nil ?_
            refine g_then ?_
            refine g_cond_t rfl ?_
            refine g_region ?_
            refine s_y (y_move rfl) rfl rfl rfl rfl ?_
            refine s_tr (t_build (vs := [(0, .int .i64 x)]) (cells := [.int .i64 x]) rfl rfl Try.underlying22 hi3.1 hi3.2.1 (by rw [hi3.2.2.1]; rfl) (by rw [hi3.2.2.1]; rfl) (by rw [hi3.2.2.1]; kernel_rfl)) rfl rfl rfl rfl (fun b70 hb70 => ?_)
            refine s_y (y_fld rfl (fun w => fld_67_0 _ _ w)) rfl rfl rfl rfl ?_
            refine s_y (y_ld1 1 rfl rfl agg_22 rfl) rfl rfl rfl rfl ?_
            refine s_tr (t_consR (enc := (Value.int .i64)) (x := x) (ys := t2) _ rfl rfl rfl Try.underlying22 hi3.1 hi3.2.1 hi3.2.2.1 hi3.2.2.2 rfl (fun _ => rfl) (fun w h => hO2'.rd (fun p hp => (rows_all h (fun p hp => h.at_ p (List.mem_cons_of_mem _ (List.mem_cons_of_mem _ (List.mem_cons_of_mem _ (List.mem_cons_of_mem _ (List.mem_cons_of_mem _ (List.mem_cons_of_mem _ (List.mem_cons_of_mem _ (List.mem_cons_of_mem _ (List.mem_cons_of_mem _ (List.mem_cons_of_mem _ (List.mem_cons_of_mem _ (List.mem_cons_of_mem _ (List.mem_cons_of_mem _ (mem_al (mq2 ++ mq) hp))))))))))))))) hmm (h.toHq.kc hk2 hmb (sd_cons (Nat.le_trans hsz2 hb70.2) (sd_cons (Nat.le_trans hsz2 hb12.2) (sd_cons (Nat.le_trans hsz2 hb11.2) (sd_cons (Nat.le_trans hsz2 hgeN) (sd_cons (Nat.le_trans hsz2 hb44.2) (sd_cons hb9.2 (sd_cons hb7.2 (sd_cons hb6.2 (sd_cons hb5.2 (sd_cons hb4.2 (sd_cons hb3.2 (sd_cons hb2.2 (sd_mb (sd_all (ge_app (ge_mono hmq2 hsz2) hmq))))))))))))))))) p (by simpa only [List.append_assoc] using hp))) (by omega) (by unfold maxLen; omega) hb70.2) rfl rfl rfl rfl (fun y3 hy3 => ?_)
            obtain ⟨A3, c3, m3⟩ := y3
            obtain ⟨⟨hO3, hC3⟩, hm3⟩ := hy3
            simp only at hO3 hC3 hm3
            refine g_perm' (show ((b12, .cells [.slice A2 t2.length c2, .int .i64 w2, .bool true].toArray 67 (0, 0)) :: (b11, .cells [.slice ag g.length cg, .slice (some ⟨bN, 0, none⟩) (s.length + 1) capN].toArray 48 (0, 0)) :: (bN, .cells ((s ++ [x]).map (Value.int .i64) ++ jN).toArray 3 (0, 0)) :: (b44, .cells [.int .i64 x].toArray 3 (0, 0)) :: (b9, .cells [.slice Ao 0 co, .int .i64 0, .bool false].toArray 67 (0, 0)) :: (b7, .cells [.slice none 0 0, .int .i64 0, .bool false].toArray 67 (0, 0)) :: (b6, .cells [.int .i64 (rdI (s.drop (s.length - 3)) 0), .int .i64 (rdI (s.drop (s.length - 3)) 1), .int .i64 (rdI (s.drop (s.length - 3)) 2), .int .i64 (s.length : Int)].toArray 73 (0, 0)) :: (b5, .cells [.int .i64 (s.length : Nat)].toArray 3 (0, 0)) :: (b4, .cells [.slice none 0 0, .int .i64 0, .bool false].toArray 67 (0, 0)) :: (b3, .cells [.map (some mb)].toArray 69 (0, 0)) :: (b2, .cells [.slice ag g.length cg, .slice as_ s.length cs].toArray 48 (0, 0)) :: (mb, .map es2 clock2) :: (((m3 ++ mq2) ++ mq) ++ ([]))).Perm _ from by have h_ := perm_mv m3 (mq2 ++ mq) [(b12, .cells [.slice A2 t2.length c2, .int .i64 w2, .bool true].toArray 67 (0, 0)), (b11, .cells [.slice ag g.length cg, .slice (some ⟨bN, 0, none⟩) (s.length + 1) capN].toArray 48 (0, 0)), (bN, .cells ((s ++ [x]).map (Value.int .i64) ++ jN).toArray 3 (0, 0)), (b44, .cells [.int .i64 x].toArray 3 (0, 0)), (b9, .cells [.slice Ao 0 co, .int .i64 0, .bool false].toArray 67 (0, 0)), (b7, .cells [.slice none 0 0, .int .i64 0, .bool false].toArray 67 (0, 0)), (b6, .cells [.int .i64 (rdI (s.drop (s.length - 3)) 0), .int .i64 (rdI (s.drop (s.length - 3)) 1), .int .i64 (rdI (s.drop (s.length - 3)) 2), .int .i64 (s.length : Int)].toArray 73 (0, 0)), (b5, .cells [.int .i64 (s.length : Nat)].toArray 3 (0, 0)), (b4, .cells [.slice none 0 0, .int .i64 0, .bool false].toArray 67 (0, 0)), (b3, .cells [.map (some mb)].toArray 69 (0, 0)), (b2, .cells [.slice ag g.length cg, .slice as_ s.length cs].toArray 48 (0, 0)), (mb, .map es2 clock2)]; rw [← List.append_assoc m3] at h_; exact h_) ?_
            refine s_y (y_move rfl) rfl rfl rfl rfl ?_
            refine s_y (y_build (vs := [(0, _), (1, _), (2, _)]) rfl rfl (fun w => bld_67_0_1_2 _ _ _ _ _ w)) rfl rfl rfl rfl ?_
            refine s_tr0 (t_store 4 rfl rfl rfl rfl size_67 rfl rfl) rfl rfl rfl (fun _ _ => ?_)
            refine s_nil ?_
            refine g_inb ?_
            exact fun act W _ hW => (have hc_ := rf_close2 hq hW2 (((((show Hp w0 W2 ((b12, .cells [.slice A2 t2.length c2, .int .i64 w2, .bool true].toArray 67 (0, 0)) :: (b11, .cells [.slice ag g.length cg, .slice (some ⟨bN, 0, none⟩) (s.length + 1) capN].toArray 48 (0, 0)) :: (bN, .cells ((s ++ [x]).map (Value.int .i64) ++ jN).toArray 3 (0, 0)) :: (b44, .cells [.int .i64 x].toArray 3 (0, 0)) :: (b9, .cells [.slice A3 (t2.length + 1) c3, .int .i64 (w2 + (wrt g (s ++ [x]) s.length)), .bool true].toArray 67 (0, 0)) :: (b7, .cells [.slice none 0 0, .int .i64 0, .bool false].toArray 67 (0, 0)) :: (b6, .cells [.int .i64 (rdI (s.drop (s.length - 3)) 0), .int .i64 (rdI (s.drop (s.length - 3)) 1), .int .i64 (rdI (s.drop (s.length - 3)) 2), .int .i64 (s.length : Int)].toArray 73 (0, 0)) :: (b5, .cells [.int .i64 (s.length : Nat)].toArray 3 (0, 0)) :: (b4, .cells [.slice none 0 0, .int .i64 0, .bool false].toArray 67 (0, 0)) :: (b3, .cells [.map (some mb)].toArray 69 (0, 0)) :: (b2, .cells [.slice ag g.length cg, .slice as_ s.length cs].toArray 48 (0, 0)) :: (mb, .map es2 clock2) :: (((m3 ++ mq2) ++ mq) ++ ([]))) W from hW).tail hb12.2).tail hb11.2).tail hgeN).tail hb44.2) (ids_mq (n := W2.heap.size) (l1 := [(b9, _), (b7, _), (b6, _), (b5, _), (b4, _), (b3, _), (b2, _), (mb, _)]) (l2 := [(b9, .cells [.slice A3 (t2.length + 1) c3, .int .i64 (w2 + (wrt g (s ++ [x]) s.length)), .bool true].toArray 67 (0, 0)), (b7, .cells [.slice none 0 0, .int .i64 0, .bool false].toArray 67 (0, 0)), (b6, .cells [.int .i64 (rdI (s.drop (s.length - 3)) 0), .int .i64 (rdI (s.drop (s.length - 3)) 1), .int .i64 (rdI (s.drop (s.length - 3)) 2), .int .i64 (s.length : Int)].toArray 73 (0, 0)), (b5, .cells [.int .i64 (s.length : Nat)].toArray 3 (0, 0)), (b4, .cells [.slice none 0 0, .int .i64 0, .bool false].toArray 67 (0, 0)), (b3, .cells [.map (some mb)].toArray 69 (0, 0)), (b2, .cells [.slice ag g.length cg, .slice as_ s.length cs].toArray 48 (0, 0)), (mb, .map es2 clock2)]) (mq := mq) (nw := (m3 ++ mq2)) rfl (ge_app hm3 hmq2)).1 (ids_mq (n := W2.heap.size) (l1 := [(b9, _), (b7, _), (b6, _), (b5, _), (b4, _), (b3, _), (b2, _), (mb, _)]) (l2 := [(b9, .cells [.slice A3 (t2.length + 1) c3, .int .i64 (w2 + (wrt g (s ++ [x]) s.length)), .bool true].toArray 67 (0, 0)), (b7, .cells [.slice none 0 0, .int .i64 0, .bool false].toArray 67 (0, 0)), (b6, .cells [.int .i64 (rdI (s.drop (s.length - 3)) 0), .int .i64 (rdI (s.drop (s.length - 3)) 1), .int .i64 (rdI (s.drop (s.length - 3)) 2), .int .i64 (s.length : Int)].toArray 73 (0, 0)), (b5, .cells [.int .i64 (s.length : Nat)].toArray 3 (0, 0)), (b4, .cells [.slice none 0 0, .int .i64 0, .bool false].toArray 67 (0, 0)), (b3, .cells [.map (some mb)].toArray 69 (0, 0)), (b2, .cells [.slice ag g.length cg, .slice as_ s.length cs].toArray 48 (0, 0)), (mb, .map es2 clock2)]) (mq := mq) (nw := (m3 ++ mq2)) rfl (ge_app hm3 hmq2)).2; ⟨hc_.1, _, ⟨some (x :: t2, w2 + wrt g (s ++ [x]) s.length), A3, c3, es2, clock2, ((m3 ++ mq2) ++ mq), (by rw [List.take_add_one, hx, List.foldl_append, ← ho]; simp only [Option.toList, List.foldl_cons, List.foldl_nil, bstep, ho2]), (hO3.mono fun p hp => List.mem_append_left _ (List.mem_append_left _ (List.mem_append_left _ hp))), (hS2.mono fun p hp => by simp only [List.mem_append] at hp ⊢; rcases hp with h_ | h_ | h_ <;> simp [h_]), ge_app (ge_mono (ge_app hm3 hmq2) hsz2) hmq, (isC_app (isC_app hC3 hC2) hmqC), rfl⟩, hc_.2⟩)
          · skip
            show G _ _ ((49, .agg #[.slice A2 t2.length c2, .int .i64 w2, .bool true]) :: _) _ _ ((b11, .cells [.slice ag g.length cg, .slice (some ⟨bN, 0, none⟩) (s.length + 1) capN].toArray 48 (0, 0)) :: (bN, .cells ((s ++ [x]).map (Value.int .i64) ++ jN).toArray 3 (0, 0)) :: (b44, .cells [.int .i64 x].toArray 3 (0, 0)) :: (b9, .cells [.slice Ao t0.length co, .int .i64 w0_, .bool true].toArray 67 (0, 0)) :: (b7, .cells [.slice none 0 0, .int .i64 0, .bool false].toArray 67 (0, 0)) :: (b6, .cells [.int .i64 (rdI (s.drop (s.length - 3)) 0), .int .i64 (rdI (s.drop (s.length - 3)) 1), .int .i64 (rdI (s.drop (s.length - 3)) 2), .int .i64 (s.length : Int)].toArray 73 (0, 0)) :: (b5, .cells [.int .i64 (s.length : Nat)].toArray 3 (0, 0)) :: (b4, .cells [.slice none 0 0, .int .i64 0, .bool false].toArray 67 (0, 0)) :: (b3, .cells [.map (some mb)].toArray 69 (0, 0)) :: (b2, .cells [.slice ag g.length cg, .slice as_ s.length cs].toArray 48 (0, 0)) :: (mb, .map es2 clock2) :: ((mq2 ++ mq) ++ ([]))) _
            refine s_tr (t_alloc zero_67 rfl) rfl rfl rfl rfl (fun b12 hb12 => ?_)
            refine s_tr0 (t_store 0 rfl rfl rfl rfl size_67 rfl rfl) rfl rfl rfl (fun _ _ => ?_)
            refine s_nil ?_
            refine g_then ?_
            refine g_seq ?_
            refine g_draw 7 (by kernel_rfl) ?_
            refine j_p (i := 0) rfl (y_fld rfl (fun w => fld_67_1 _ _ w)) (by kernel_rfl) (by kernel_rfl) (by kernel_rfl) rfl rfl rfl rfl rfl (.inr (fun _ h => h)) ?_
            refine j_l (i := 1) rfl (y_ld1 0 rfl rfl agg_3 rfl) (by kernel_rfl) (by kernel_rfl) (by kernel_rfl) (by kernel_rfl) rfl rfl rfl rfl rfl (.inr (fun _ h => h)) ?_
            refine j_l (i := 2) rfl (y_ldn 1 rfl rfl agg_48 size_48 rfl rfl) (by kernel_rfl) (by kernel_rfl) (by kernel_rfl) (by kernel_rfl) rfl rfl rfl rfl rfl (.inr (fun _ h => h)) ?_
            refine j_l (i := 3) rfl (y_ld1 7 rfl rfl agg_3 rfl) (by kernel_rfl) (by kernel_rfl) (by kernel_rfl) (by kernel_rfl) rfl rfl rfl rfl rfl (.inr (fun _ h => h)) ?_
            refine j_tr (i := 4) rfl (t_call rfl rfl ent_61 (fun w h => by have h_ := worth_any w ag (some ⟨bN, 0, none⟩) cg capN g (s ++ [x]) (hg.keepC (h.toHq.kc hk2 hmb (sd_cons (Nat.le_trans hsz2 hb12.2) (sd_cons (Nat.le_trans hsz2 hb11.2) (sd_cons (Nat.le_trans hsz2 hgeN) (sd_cons (Nat.le_trans hsz2 hb44.2) (sd_cons hb9.2 (sd_cons hb7.2 (sd_cons hb6.2 (sd_cons hb5.2 (sd_cons hb4.2 (sd_cons hb3.2 (sd_cons hb2.2 (sd_mb (sd_all (ge_app (ge_mono hmq2 hsz2) hmq)))))))))))))))) (by rw [hln]; exact RdV.own (jk := jN) (at_of (i := 2) h rfl) hln.symm hokn.1) s.length (by omega) (by omega) (by omega) hgn (notes_snoc hsn hx0 hx1); rw [hln] at h_; exact h_)) (by kernel_rfl) rfl rfl rfl rfl (.inr (fun x w hb h => h)) (fun _ _ => ?_)
            refine j_p (i := 5) rfl (y_add rfl rfl (by omega) (by omega)) (by kernel_rfl) (by kernel_rfl) (by kernel_rfl) rfl rfl rfl rfl rfl (.inr (fun _ h => h)) ?_
            refine j_p (i := 6) rfl (y_assign rfl) (by kernel_rfl) (by kernel_rfl) (by kernel_rfl) rfl rfl rfl rfl rfl (.inr (fun _ h => h)) ?_
            refine j_nil (by kernel_rfl) ?_
            refine g_then ?_
            refine g_seq ?_
            refine g_region ?_
            refine s_y (y_fld rfl (fun w => fld_67_2 _ _ w)) rfl rfl rfl rfl ?_
            refine s_y (y_ld1 0 rfl rfl agg_4 rfl) rfl rfl rfl rfl ?_
            refine s_y (y_move rfl) rfl rfl rfl rfl ?_
            refine s_y (y_fld rfl (fun w => fld_67_2 _ _ w)) rfl rfl rfl rfl ?_
            refine s_y (y_ld1 4 rfl rfl agg_4 rfl) rfl rfl rfl rfl ?_
            refine s_y (y_not_t rfl) rfl rfl rfl rfl ?_
            refine s_y (y_move rfl) rfl rfl rfl rfl ?_
            refine s_y (y_move rfl) rfl rfl rfl rfl ?_
            refine s_y (y_fld rfl (fun w => fld_67_1 _ _ w)) rfl rfl rfl rfl ?_
            refine s_y (y_ld1 4 rfl rfl agg_3 rfl) rfl rfl rfl rfl ?_
            refine s_y (y_gtr rfl rfl) rfl rfl rfl rfl ?_
            refine s_y (y_pick_f rfl rfl) rfl rfl rfl rfl ?_
            refine s_y (y_pick_t rfl rfl) rfl rfl rfl rfl ?_
            refine s_nil ?_
            refine g_then ?_
            refine g_cond rfl (fun cq1 => ?_) (fun cq1 => ?_)
            · (try simp at cq1)
              refine g_region ?_
              refine s_y (y_move rfl) rfl rfl rfl rfl ?_
              refine s_tr (t_build (vs := [(0, .int .i64 x)]) (cells := [.int .i64 x]) rfl rfl Try.underlying22 hi3.1 hi3.2.1 (by rw [hi3.2.2.1]; rfl) (by rw [hi3.2.2.1]; rfl) (by rw [hi3.2.2.1]; kernel_rfl)) rfl rfl rfl rfl (fun b70 hb70 => ?_)
              refine s_y (y_fld rfl (fun w => fld_67_0 _ _ w)) rfl rfl rfl rfl ?_
              refine s_y (y_ld1 1 rfl rfl agg_22 rfl) rfl rfl rfl rfl ?_
              refine s_tr (t_consR (enc := (Value.int .i64)) (x := x) (ys := t2) _ rfl rfl rfl Try.underlying22 hi3.1 hi3.2.1 hi3.2.2.1 hi3.2.2.2 rfl (fun _ => rfl) (fun w h => hO2'.rd (fun p hp => (rows_all h (fun p hp => h.at_ p (List.mem_cons_of_mem _ (List.mem_cons_of_mem _ (List.mem_cons_of_mem _ (List.mem_cons_of_mem _ (List.mem_cons_of_mem _ (List.mem_cons_of_mem _ (List.mem_cons_of_mem _ (List.mem_cons_of_mem _ (List.mem_cons_of_mem _ (List.mem_cons_of_mem _ (List.mem_cons_of_mem _ (List.mem_cons_of_mem _ (List.mem_cons_of_mem _ (mem_al (mq2 ++ mq) hp))))))))))))))) hmm (h.toHq.kc hk2 hmb (sd_cons (Nat.le_trans hsz2 hb70.2) (sd_cons (Nat.le_trans hsz2 hb12.2) (sd_cons (Nat.le_trans hsz2 hb11.2) (sd_cons (Nat.le_trans hsz2 hgeN) (sd_cons (Nat.le_trans hsz2 hb44.2) (sd_cons hb9.2 (sd_cons hb7.2 (sd_cons hb6.2 (sd_cons hb5.2 (sd_cons hb4.2 (sd_cons hb3.2 (sd_cons hb2.2 (sd_mb (sd_all (ge_app (ge_mono hmq2 hsz2) hmq))))))))))))))))) p (by simpa only [List.append_assoc] using hp))) (by omega) (by unfold maxLen; omega) hb70.2) rfl rfl rfl rfl (fun y3 hy3 => ?_)
              obtain ⟨A3, c3, m3⟩ := y3
              obtain ⟨⟨hO3, hC3⟩, hm3⟩ := hy3
              simp only at hO3 hC3 hm3
              refine g_perm' (show ((b12, .cells [.slice A2 t2.length c2, .int .i64 w2, .bool true].toArray 67 (0, 0)) :: (b11, .cells [.slice ag g.length cg, .slice (some ⟨bN, 0, none⟩) (s.length + 1) capN].toArray 48 (0, 0)) :: (bN, .cells ((s ++ [x]).map (Value.int .i64) ++ jN).toArray 3 (0, 0)) :: (b44, .cells [.int .i64 x].toArray 3 (0, 0)) :: (b9, .cells [.slice Ao t0.length co, .int .i64 w0_, .bool true].toArray 67 (0, 0)) :: (b7, .cells [.slice none 0 0, .int .i64 0, .bool false].toArray 67 (0, 0)) :: (b6, .cells [.int .i64 (rdI (s.drop (s.length - 3)) 0), .int .i64 (rdI (s.drop (s.length - 3)) 1), .int .i64 (rdI (s.drop (s.length - 3)) 2), .int .i64 (s.length : Int)].toArray 73 (0, 0)) :: (b5, .cells [.int .i64 (s.length : Nat)].toArray 3 (0, 0)) :: (b4, .cells [.slice none 0 0, .int .i64 0, .bool false].toArray 67 (0, 0)) :: (b3, .cells [.map (some mb)].toArray 69 (0, 0)) :: (b2, .cells [.slice ag g.length cg, .slice as_ s.length cs].toArray 48 (0, 0)) :: (mb, .map es2 clock2) :: (((m3 ++ mq2) ++ mq) ++ ([]))).Perm _ from by have h_ := perm_mv m3 (mq2 ++ mq) [(b12, .cells [.slice A2 t2.length c2, .int .i64 w2, .bool true].toArray 67 (0, 0)), (b11, .cells [.slice ag g.length cg, .slice (some ⟨bN, 0, none⟩) (s.length + 1) capN].toArray 48 (0, 0)), (bN, .cells ((s ++ [x]).map (Value.int .i64) ++ jN).toArray 3 (0, 0)), (b44, .cells [.int .i64 x].toArray 3 (0, 0)), (b9, .cells [.slice Ao t0.length co, .int .i64 w0_, .bool true].toArray 67 (0, 0)), (b7, .cells [.slice none 0 0, .int .i64 0, .bool false].toArray 67 (0, 0)), (b6, .cells [.int .i64 (rdI (s.drop (s.length - 3)) 0), .int .i64 (rdI (s.drop (s.length - 3)) 1), .int .i64 (rdI (s.drop (s.length - 3)) 2), .int .i64 (s.length : Int)].toArray 73 (0, 0)), (b5, .cells [.int .i64 (s.length : Nat)].toArray 3 (0, 0)), (b4, .cells [.slice none 0 0, .int .i64 0, .bool false].toArray 67 (0, 0)), (b3, .cells [.map (some mb)].toArray 69 (0, 0)), (b2, .cells [.slice ag g.length cg, .slice as_ s.length cs].toArray 48 (0, 0)), (mb, .map es2 clock2)]; rw [← List.append_assoc m3] at h_; exact h_) ?_
              refine s_y (y_move rfl) rfl rfl rfl rfl ?_
              refine s_y (y_build (vs := [(0, _), (1, _), (2, _)]) rfl rfl (fun w => bld_67_0_1_2 _ _ _ _ _ w)) rfl rfl rfl rfl ?_
              refine s_tr0 (t_store 4 rfl rfl rfl rfl size_67 rfl rfl) rfl rfl rfl (fun _ _ => ?_)
              refine s_nil ?_
              refine g_inb ?_
              exact fun act W _ hW => (have hc_ := rf_close2 hq hW2 (((((show Hp w0 W2 ((b12, .cells [.slice A2 t2.length c2, .int .i64 w2, .bool true].toArray 67 (0, 0)) :: (b11, .cells [.slice ag g.length cg, .slice (some ⟨bN, 0, none⟩) (s.length + 1) capN].toArray 48 (0, 0)) :: (bN, .cells ((s ++ [x]).map (Value.int .i64) ++ jN).toArray 3 (0, 0)) :: (b44, .cells [.int .i64 x].toArray 3 (0, 0)) :: (b9, .cells [.slice A3 (t2.length + 1) c3, .int .i64 (w2 + (wrt g (s ++ [x]) s.length)), .bool true].toArray 67 (0, 0)) :: (b7, .cells [.slice none 0 0, .int .i64 0, .bool false].toArray 67 (0, 0)) :: (b6, .cells [.int .i64 (rdI (s.drop (s.length - 3)) 0), .int .i64 (rdI (s.drop (s.length - 3)) 1), .int .i64 (rdI (s.drop (s.length - 3)) 2), .int .i64 (s.length : Int)].toArray 73 (0, 0)) :: (b5, .cells [.int .i64 (s.length : Nat)].toArray 3 (0, 0)) :: (b4, .cells [.slice none 0 0, .int .i64 0, .bool false].toArray 67 (0, 0)) :: (b3, .cells [.map (some mb)].toArray 69 (0, 0)) :: (b2, .cells [.slice ag g.length cg, .slice as_ s.length cs].toArray 48 (0, 0)) :: (mb, .map es2 clock2) :: (((m3 ++ mq2) ++ mq) ++ ([]))) W from hW).tail hb12.2).tail hb11.2).tail hgeN).tail hb44.2) (ids_mq (n := W2.heap.size) (l1 := [(b9, _), (b7, _), (b6, _), (b5, _), (b4, _), (b3, _), (b2, _), (mb, _)]) (l2 := [(b9, .cells [.slice A3 (t2.length + 1) c3, .int .i64 (w2 + (wrt g (s ++ [x]) s.length)), .bool true].toArray 67 (0, 0)), (b7, .cells [.slice none 0 0, .int .i64 0, .bool false].toArray 67 (0, 0)), (b6, .cells [.int .i64 (rdI (s.drop (s.length - 3)) 0), .int .i64 (rdI (s.drop (s.length - 3)) 1), .int .i64 (rdI (s.drop (s.length - 3)) 2), .int .i64 (s.length : Int)].toArray 73 (0, 0)), (b5, .cells [.int .i64 (s.length : Nat)].toArray 3 (0, 0)), (b4, .cells [.slice none 0 0, .int .i64 0, .bool false].toArray 67 (0, 0)), (b3, .cells [.map (some mb)].toArray 69 (0, 0)), (b2, .cells [.slice ag g.length cg, .slice as_ s.length cs].toArray 48 (0, 0)), (mb, .map es2 clock2)]) (mq := mq) (nw := (m3 ++ mq2)) rfl (ge_app hm3 hmq2)).1 (ids_mq (n := W2.heap.size) (l1 := [(b9, _), (b7, _), (b6, _), (b5, _), (b4, _), (b3, _), (b2, _), (mb, _)]) (l2 := [(b9, .cells [.slice A3 (t2.length + 1) c3, .int .i64 (w2 + (wrt g (s ++ [x]) s.length)), .bool true].toArray 67 (0, 0)), (b7, .cells [.slice none 0 0, .int .i64 0, .bool false].toArray 67 (0, 0)), (b6, .cells [.int .i64 (rdI (s.drop (s.length - 3)) 0), .int .i64 (rdI (s.drop (s.length - 3)) 1), .int .i64 (rdI (s.drop (s.length - 3)) 2), .int .i64 (s.length : Int)].toArray 73 (0, 0)), (b5, .cells [.int .i64 (s.length : Nat)].toArray 3 (0, 0)), (b4, .cells [.slice none 0 0, .int .i64 0, .bool false].toArray 67 (0, 0)), (b3, .cells [.map (some mb)].toArray 69 (0, 0)), (b2, .cells [.slice ag g.length cg, .slice as_ s.length cs].toArray 48 (0, 0)), (mb, .map es2 clock2)]) (mq := mq) (nw := (m3 ++ mq2)) rfl (ge_app hm3 hmq2)).2; ⟨hc_.1, _, ⟨some (x :: t2, w2 + wrt g (s ++ [x]) s.length), A3, c3, es2, clock2, ((m3 ++ mq2) ++ mq), (by rw [List.take_add_one, hx, List.foldl_append, ← ho]; simp only [Option.toList, List.foldl_cons, List.foldl_nil, bstep, ho2]; rw [if_pos (by omega)]), (hO3.mono fun p hp => List.mem_append_left _ (List.mem_append_left _ (List.mem_append_left _ hp))), (hS2.mono fun p hp => by simp only [List.mem_append] at hp ⊢; rcases hp with h_ | h_ | h_ <;> simp [h_]), ge_app (ge_mono (ge_app hm3 hmq2) hsz2) hmq, (isC_app (isC_app hC3 hC2) hmqC), rfl⟩, hc_.2⟩)
            · (try simp at cq1)
              refine g_skip ?_
              refine g_inb ?_
              exact fun act W _ hW => (have hc_ := rf_close2 hq hW2 (((((show Hp w0 W2 ((b12, .cells [.slice A2 t2.length c2, .int .i64 w2, .bool true].toArray 67 (0, 0)) :: (b11, .cells [.slice ag g.length cg, .slice (some ⟨bN, 0, none⟩) (s.length + 1) capN].toArray 48 (0, 0)) :: (bN, .cells ((s ++ [x]).map (Value.int .i64) ++ jN).toArray 3 (0, 0)) :: (b44, .cells [.int .i64 x].toArray 3 (0, 0)) :: (b9, .cells [.slice Ao t0.length co, .int .i64 w0_, .bool true].toArray 67 (0, 0)) :: (b7, .cells [.slice none 0 0, .int .i64 0, .bool false].toArray 67 (0, 0)) :: (b6, .cells [.int .i64 (rdI (s.drop (s.length - 3)) 0), .int .i64 (rdI (s.drop (s.length - 3)) 1), .int .i64 (rdI (s.drop (s.length - 3)) 2), .int .i64 (s.length : Int)].toArray 73 (0, 0)) :: (b5, .cells [.int .i64 (s.length : Nat)].toArray 3 (0, 0)) :: (b4, .cells [.slice none 0 0, .int .i64 0, .bool false].toArray 67 (0, 0)) :: (b3, .cells [.map (some mb)].toArray 69 (0, 0)) :: (b2, .cells [.slice ag g.length cg, .slice as_ s.length cs].toArray 48 (0, 0)) :: (mb, .map es2 clock2) :: ((mq2 ++ mq) ++ ([]))) W from hW).tail hb12.2).tail hb11.2).tail hgeN).tail hb44.2) (ids_mq (n := W2.heap.size) (l1 := [(b9, _), (b7, _), (b6, _), (b5, _), (b4, _), (b3, _), (b2, _), (mb, _)]) (l2 := [(b9, .cells [.slice Ao t0.length co, .int .i64 w0_, .bool true].toArray 67 (0, 0)), (b7, .cells [.slice none 0 0, .int .i64 0, .bool false].toArray 67 (0, 0)), (b6, .cells [.int .i64 (rdI (s.drop (s.length - 3)) 0), .int .i64 (rdI (s.drop (s.length - 3)) 1), .int .i64 (rdI (s.drop (s.length - 3)) 2), .int .i64 (s.length : Int)].toArray 73 (0, 0)), (b5, .cells [.int .i64 (s.length : Nat)].toArray 3 (0, 0)), (b4, .cells [.slice none 0 0, .int .i64 0, .bool false].toArray 67 (0, 0)), (b3, .cells [.map (some mb)].toArray 69 (0, 0)), (b2, .cells [.slice ag g.length cg, .slice as_ s.length cs].toArray 48 (0, 0)), (mb, .map es2 clock2)]) (mq := mq) (nw := mq2) rfl hmq2).1 (ids_mq (n := W2.heap.size) (l1 := [(b9, _), (b7, _), (b6, _), (b5, _), (b4, _), (b3, _), (b2, _), (mb, _)]) (l2 := [(b9, .cells [.slice Ao t0.length co, .int .i64 w0_, .bool true].toArray 67 (0, 0)), (b7, .cells [.slice none 0 0, .int .i64 0, .bool false].toArray 67 (0, 0)), (b6, .cells [.int .i64 (rdI (s.drop (s.length - 3)) 0), .int .i64 (rdI (s.drop (s.length - 3)) 1), .int .i64 (rdI (s.drop (s.length - 3)) 2), .int .i64 (s.length : Int)].toArray 73 (0, 0)), (b5, .cells [.int .i64 (s.length : Nat)].toArray 3 (0, 0)), (b4, .cells [.slice none 0 0, .int .i64 0, .bool false].toArray 67 (0, 0)), (b3, .cells [.map (some mb)].toArray 69 (0, 0)), (b2, .cells [.slice ag g.length cg, .slice as_ s.length cs].toArray 48 (0, 0)), (mb, .map es2 clock2)]) (mq := mq) (nw := mq2) rfl hmq2).2; ⟨hc_.1, _, ⟨some (t0, w0_), Ao, co, es2, clock2, (mq2 ++ mq), (by rw [List.take_add_one, hx, List.foldl_append, ← ho]; simp only [Option.toList, List.foldl_cons, List.foldl_nil, bstep, ho2]; rw [if_neg (by omega)]), (hOo.mono fun p hp => by rcases List.mem_append.1 hp with h_ | h_; exact List.mem_append_left _ (List.mem_append_right _ h_); exact List.mem_append_right _ h_), (hS2.mono fun p hp => by simp only [List.mem_append] at hp ⊢; rcases hp with h_ | h_ | h_ <;> simp [h_]), ge_app (ge_mono hmq2 hsz2) hmq, (isC_app hC2 hmqC), rfl⟩, hc_.2⟩)
      · skip
        refine i_tr (i := 11) rfl (t_alloc zero_48 rfl) rfl rfl rfl rfl (.inr (fun x w hb h => ((h.tail hb.2).tail hb44.2))) (fun b11 hb11 => ?_)
        refine j_tr (i := 9) rfl (t_appendN (enc := (Value.int .i64)) (xs := s) (v := x) rfl rfl Try.underlying22 hi3.1 hi3.2.1 hi3.2.2.1 hi3.2.2.2 rfl (fun w h => hvf.keepC (h.toHq.kc hk2 hmb (sd_cons (Nat.le_trans hsz2 hb11.2) (sd_cons (Nat.le_trans hsz2 hb44.2) (sd_cons hb9.2 (sd_cons hb7.2 (sd_cons hb6.2 (sd_cons hb5.2 (sd_cons hb4.2 (sd_cons hb3.2 (sd_cons hb2.2 (sd_mb (sd_all hmq))))))))))))) (fun w h => h.toHq.cell (i := 1) rfl rfl) rfl (by omega) (by unfold maxLen; omega)) (by kernel_rfl) rfl rfl rfl rfl (.inr (fun x w hb h => (((sv_tail hb.2 h).tail hb11.2).tail hb44.2))) (fun svn hokn' => ?_)
        obtain ⟨hokn, bN, capN, jN, rfl, hgeN⟩ := hokn'
        have hln : (s ++ [x]).length = s.length + 1 := by simp
        refine j_p (i := 10) rfl (y_build (vs := [(0, _), (1, _)]) rfl rfl (fun w => bld_48_0_1 _ _ _ _ _ _ w)) (by kernel_rfl) (by kernel_rfl) (by kernel_rfl) rfl rfl rfl rfl rfl (.inr (fun _ h => (((h.tail hgeN).tail hb11.2).tail hb44.2))) ?_
        refine j_tr0 (i := 12) rfl (t_store 1 rfl rfl rfl rfl size_48 rfl rfl) (by kernel_rfl) rfl rfl rfl (.inl rfl) (fun _ _ => ?_)
        refine j_nil (by kernel_rfl) ?_
        refine g_then ?_
        refine g_seq ?_
        refine g_region ?_
        refine s_y (y_ldn 1 rfl rfl agg_48 size_48 rfl rfl) rfl rfl rfl rfl ?_
        refine s_y (y_ld1 8 rfl rfl agg_69 rfl) rfl rfl rfl rfl ?_
        refine s_tr (t_callB (A := BOk g (bestR g kk (s ++ [x])) (mq ++ mm)) (fo := fun y => .map y.2.2.1 y.2.2.2.1) (vf := bV (bestR g kk (s ++ [x]))) (mm := fun y => y.2.2.2.2) (pre := [(bN, .cells ((s ++ [x]).map (Value.int .i64) ++ jN).toArray 3 (0, 0)), (b11, .cells [.slice ag g.length cg, .slice (some ⟨bN, 0, none⟩) (s.length + 1) capN].toArray 48 (0, 0)), (b44, .cells [.int .i64 x].toArray 3 (0, 0)), (b9, .cells [.slice Ao (ntO o).length co, .int .i64 (wtO o), .bool o.isSome].toArray 67 (0, 0)), (b7, .cells [.slice none 0 0, .int .i64 0, .bool false].toArray 67 (0, 0)), (b6, .cells [.int .i64 (rdI (s.drop (s.length - 3)) 0), .int .i64 (rdI (s.drop (s.length - 3)) 1), .int .i64 (rdI (s.drop (s.length - 3)) 2), .int .i64 (s.length : Int)].toArray 73 (0, 0)), (b5, .cells [.int .i64 (s.length : Nat)].toArray 3 (0, 0)), (b4, .cells [.slice none 0 0, .int .i64 0, .bool false].toArray 67 (0, 0)), (b3, .cells [.map (some mb)].toArray 69 (0, 0)), (b2, .cells [.slice ag g.length cg, .slice as_ s.length cs].toArray 48 (0, 0)), (mb, .map es' clock')]) (mq := mq) 10 rfl rfl rfl rfl ent_62 (fun w h => ?_)) rfl rfl rfl rfl (fun yB hyB => ?_)
        · skip
          have h_ := IH ag (some ⟨bN, 0, none⟩) cg capN (s ++ [x]) mb es' clock' (mq ++ mm) w0 w (by omega) (notes_snoc hsn hx0 hx1) h.below hge (at_of (i := 10) h rfl) (rows_at h hmqC hmm (fun p hp => (List.mem_cons_of_mem _ (List.mem_cons_of_mem _ (List.mem_cons_of_mem _ (List.mem_cons_of_mem _ (List.mem_cons_of_mem _ (List.mem_cons_of_mem _ (List.mem_cons_of_mem _ (List.mem_cons_of_mem _ (List.mem_cons_of_mem _ (List.mem_cons_of_mem _ (List.mem_cons_of_mem _ (mem_al mq hp))))))))))))) (h.toHq.kc hk2 hmb (sd_cons (Nat.le_trans hsz2 hgeN) (sd_cons (Nat.le_trans hsz2 hb11.2) (sd_cons (Nat.le_trans hsz2 hb44.2) (sd_cons hb9.2 (sd_cons hb7.2 (sd_cons hb6.2 (sd_cons hb5.2 (sd_cons hb4.2 (sd_cons hb3.2 (sd_cons hb2.2 (sd_mb (sd_all hmq)))))))))))))) hSo (hg.keepC (h.toHq.kc hk2 hmb (sd_cons (Nat.le_trans hsz2 hgeN) (sd_cons (Nat.le_trans hsz2 hb11.2) (sd_cons (Nat.le_trans hsz2 hb44.2) (sd_cons hb9.2 (sd_cons hb7.2 (sd_cons hb6.2 (sd_cons hb5.2 (sd_cons hb4.2 (sd_cons hb3.2 (sd_cons hb2.2 (sd_mb (sd_all hmq)))))))))))))) (by rw [hln]; exact RdV.own (jk := jN) (at_of (i := 0) h rfl) hln.symm hokn.1)
          rw [hln] at h_
          exact h_
        obtain ⟨A2, c2, es2, clock2, mq2⟩ := yB
        obtain ⟨⟨hO2, hS2, hC2⟩, hmq2⟩ := hyB
        simp only at hO2 hS2 hC2 hmq2
        rcases ho2 : bestR g kk (s ++ [x]) with _ | ⟨t2, w2⟩
        · skip
          rw [ho2] at hO2
          rcases o with _ | ⟨t0, w0_⟩
          · skip
            show G _ _ ((49, .agg #[.slice A2 0 c2, .int .i64 0, .bool false]) :: _) _ _ ((bN, .cells ((s ++ [x]).map (Value.int .i64) ++ jN).toArray 3 (0, 0)) :: (b11, .cells [.slice ag g.length cg, .slice (some ⟨bN, 0, none⟩) (s.length + 1) capN].toArray 48 (0, 0)) :: (b44, .cells [.int .i64 x].toArray 3 (0, 0)) :: (b9, .cells [.slice Ao 0 co, .int .i64 0, .bool false].toArray 67 (0, 0)) :: (b7, .cells [.slice none 0 0, .int .i64 0, .bool false].toArray 67 (0, 0)) :: (b6, .cells [.int .i64 (rdI (s.drop (s.length - 3)) 0), .int .i64 (rdI (s.drop (s.length - 3)) 1), .int .i64 (rdI (s.drop (s.length - 3)) 2), .int .i64 (s.length : Int)].toArray 73 (0, 0)) :: (b5, .cells [.int .i64 (s.length : Nat)].toArray 3 (0, 0)) :: (b4, .cells [.slice none 0 0, .int .i64 0, .bool false].toArray 67 (0, 0)) :: (b3, .cells [.map (some mb)].toArray 69 (0, 0)) :: (b2, .cells [.slice ag g.length cg, .slice as_ s.length cs].toArray 48 (0, 0)) :: (mb, .map es2 clock2) :: ((mq2 ++ mq) ++ ([]))) _
            refine s_tr (t_alloc zero_67 rfl) rfl rfl rfl rfl (fun b12 hb12 => ?_)
            refine s_tr0 (t_store 0 rfl rfl rfl rfl size_67 rfl rfl) rfl rfl rfl (fun _ _ => ?_)
            refine s_nil ?_
            refine g_then ?_
            refine g_seq ?_
            refine g_draw 7 (by kernel_rfl) ?_
            refine j_p (i := 0) rfl (y_fld rfl (fun w => fld_67_1 _ _ w)) (by kernel_rfl) (by kernel_rfl) (by kernel_rfl) rfl rfl rfl rfl rfl (.inr (fun _ h => h)) ?_
            refine j_l (i := 1) rfl (y_ld1 0 rfl rfl agg_3 rfl) (by kernel_rfl) (by kernel_rfl) (by kernel_rfl) (by kernel_rfl) rfl rfl rfl rfl rfl (.inr (fun _ h => h)) ?_
            refine j_l (i := 2) rfl (y_ldn 2 rfl rfl agg_48 size_48 rfl rfl) (by kernel_rfl) (by kernel_rfl) (by kernel_rfl) (by kernel_rfl) rfl rfl rfl rfl rfl (.inr (fun _ h => h)) ?_
            refine j_l (i := 3) rfl (y_ld1 7 rfl rfl agg_3 rfl) (by kernel_rfl) (by kernel_rfl) (by kernel_rfl) (by kernel_rfl) rfl rfl rfl rfl rfl (.inr (fun _ h => h)) ?_
            refine j_tr (i := 4) rfl (t_call rfl rfl ent_61 (fun w h => by have h_ := worth_any w ag (some ⟨bN, 0, none⟩) cg capN g (s ++ [x]) (hg.keepC (h.toHq.kc hk2 hmb (sd_cons (Nat.le_trans hsz2 hb12.2) (sd_cons (Nat.le_trans hsz2 hgeN) (sd_cons (Nat.le_trans hsz2 hb11.2) (sd_cons (Nat.le_trans hsz2 hb44.2) (sd_cons hb9.2 (sd_cons hb7.2 (sd_cons hb6.2 (sd_cons hb5.2 (sd_cons hb4.2 (sd_cons hb3.2 (sd_cons hb2.2 (sd_mb (sd_all (ge_app (ge_mono hmq2 hsz2) hmq)))))))))))))))) (by rw [hln]; exact RdV.own (jk := jN) (at_of (i := 1) h rfl) hln.symm hokn.1) s.length (by omega) (by omega) (by omega) hgn (notes_snoc hsn hx0 hx1); rw [hln] at h_; exact h_)) (by kernel_rfl) rfl rfl rfl rfl (.inr (fun x w hb h => h)) (fun _ _ => ?_)
            refine j_p (i := 5) rfl (y_add rfl rfl (by omega) (by omega)) (by kernel_rfl) (by kernel_rfl) (by kernel_rfl) rfl rfl rfl rfl rfl (.inr (fun _ h => h)) ?_
            refine j_p (i := 6) rfl (y_assign rfl) (by kernel_rfl) (by kernel_rfl) (by kernel_rfl) rfl rfl rfl rfl rfl (.inr (fun _ h => h)) ?_
            refine j_nil (by kernel_rfl) ?_
            refine g_then ?_
            refine g_seq ?_
            refine g_region ?_
            refine s_y (y_fld rfl (fun w => fld_67_2 _ _ w)) rfl rfl rfl rfl ?_
            refine s_y (y_ld1 0 rfl rfl agg_4 rfl) rfl rfl rfl rfl ?_
            refine s_y (y_move rfl) rfl rfl rfl rfl ?_
            refine s_no rfl rfl rfl ?_
            refine s_no rfl rfl rfl ?_
            refine s_no rfl rfl rfl ?_
            refine s_no rfl rfl rfl ?_
            refine s_noU rfl rfl rfl rfl rfl ?_
            refine s_noU rfl rfl rfl rfl rfl ?_
            refine s_noU rfl rfl rfl rfl rfl ?_
            refine s_noU rfl rfl rfl rfl rfl ?_
            refine s_no rfl rfl rfl ?_
            refine s_y (y_pick_f rfl rfl) rfl rfl rfl rfl ?_
            refine s_nil ?_
            refine g_then ?_
            refine g_cond_f rfl ?_
            refine g_skip ?_
            refine g_inb ?_
            exact fun act W _ hW => (have hc_ := rf_close2 hq hW2 (((((show Hp w0 W2 ((b12, .cells [.slice A2 0 c2, .int .i64 0, .bool false].toArray 67 (0, 0)) :: (bN, .cells ((s ++ [x]).map (Value.int .i64) ++ jN).toArray 3 (0, 0)) :: (b11, .cells [.slice ag g.length cg, .slice (some ⟨bN, 0, none⟩) (s.length + 1) capN].toArray 48 (0, 0)) :: (b44, .cells [.int .i64 x].toArray 3 (0, 0)) :: (b9, .cells [.slice Ao 0 co, .int .i64 0, .bool false].toArray 67 (0, 0)) :: (b7, .cells [.slice none 0 0, .int .i64 0, .bool false].toArray 67 (0, 0)) :: (b6, .cells [.int .i64 (rdI (s.drop (s.length - 3)) 0), .int .i64 (rdI (s.drop (s.length - 3)) 1), .int .i64 (rdI (s.drop (s.length - 3)) 2), .int .i64 (s.length : Int)].toArray 73 (0, 0)) :: (b5, .cells [.int .i64 (s.length : Nat)].toArray 3 (0, 0)) :: (b4, .cells [.slice none 0 0, .int .i64 0, .bool false].toArray 67 (0, 0)) :: (b3, .cells [.map (some mb)].toArray 69 (0, 0)) :: (b2, .cells [.slice ag g.length cg, .slice as_ s.length cs].toArray 48 (0, 0)) :: (mb, .map es2 clock2) :: ((mq2 ++ mq) ++ ([]))) W from hW).tail hb12.2).tail hgeN).tail hb11.2).tail hb44.2) (ids_mq (n := W2.heap.size) (l1 := [(b9, _), (b7, _), (b6, _), (b5, _), (b4, _), (b3, _), (b2, _), (mb, _)]) (l2 := [(b9, .cells [.slice Ao 0 co, .int .i64 0, .bool false].toArray 67 (0, 0)), (b7, .cells [.slice none 0 0, .int .i64 0, .bool false].toArray 67 (0, 0)), (b6, .cells [.int .i64 (rdI (s.drop (s.length - 3)) 0), .int .i64 (rdI (s.drop (s.length - 3)) 1), .int .i64 (rdI (s.drop (s.length - 3)) 2), .int .i64 (s.length : Int)].toArray 73 (0, 0)), (b5, .cells [.int .i64 (s.length : Nat)].toArray 3 (0, 0)), (b4, .cells [.slice none 0 0, .int .i64 0, .bool false].toArray 67 (0, 0)), (b3, .cells [.map (some mb)].toArray 69 (0, 0)), (b2, .cells [.slice ag g.length cg, .slice as_ s.length cs].toArray 48 (0, 0)), (mb, .map es2 clock2)]) (mq := mq) (nw := mq2) rfl hmq2).1 (ids_mq (n := W2.heap.size) (l1 := [(b9, _), (b7, _), (b6, _), (b5, _), (b4, _), (b3, _), (b2, _), (mb, _)]) (l2 := [(b9, .cells [.slice Ao 0 co, .int .i64 0, .bool false].toArray 67 (0, 0)), (b7, .cells [.slice none 0 0, .int .i64 0, .bool false].toArray 67 (0, 0)), (b6, .cells [.int .i64 (rdI (s.drop (s.length - 3)) 0), .int .i64 (rdI (s.drop (s.length - 3)) 1), .int .i64 (rdI (s.drop (s.length - 3)) 2), .int .i64 (s.length : Int)].toArray 73 (0, 0)), (b5, .cells [.int .i64 (s.length : Nat)].toArray 3 (0, 0)), (b4, .cells [.slice none 0 0, .int .i64 0, .bool false].toArray 67 (0, 0)), (b3, .cells [.map (some mb)].toArray 69 (0, 0)), (b2, .cells [.slice ag g.length cg, .slice as_ s.length cs].toArray 48 (0, 0)), (mb, .map es2 clock2)]) (mq := mq) (nw := mq2) rfl hmq2).2; ⟨hc_.1, _, ⟨none, Ao, co, es2, clock2, (mq2 ++ mq), (by rw [List.take_add_one, hx, List.foldl_append, ← ho]; simp only [Option.toList, List.foldl_cons, List.foldl_nil, bstep, ho2]), (hOo.mono fun p hp => by rcases List.mem_append.1 hp with h_ | h_; exact List.mem_append_left _ (List.mem_append_right _ h_); exact List.mem_append_right _ h_), (hS2.mono fun p hp => by simp only [List.mem_append] at hp ⊢; rcases hp with h_ | h_ | h_ <;> simp [h_]), ge_app (ge_mono hmq2 hsz2) hmq, (isC_app hC2 hmqC), rfl⟩, hc_.2⟩)
          · skip
            show G _ _ ((49, .agg #[.slice A2 0 c2, .int .i64 0, .bool false]) :: _) _ _ ((bN, .cells ((s ++ [x]).map (Value.int .i64) ++ jN).toArray 3 (0, 0)) :: (b11, .cells [.slice ag g.length cg, .slice (some ⟨bN, 0, none⟩) (s.length + 1) capN].toArray 48 (0, 0)) :: (b44, .cells [.int .i64 x].toArray 3 (0, 0)) :: (b9, .cells [.slice Ao t0.length co, .int .i64 w0_, .bool true].toArray 67 (0, 0)) :: (b7, .cells [.slice none 0 0, .int .i64 0, .bool false].toArray 67 (0, 0)) :: (b6, .cells [.int .i64 (rdI (s.drop (s.length - 3)) 0), .int .i64 (rdI (s.drop (s.length - 3)) 1), .int .i64 (rdI (s.drop (s.length - 3)) 2), .int .i64 (s.length : Int)].toArray 73 (0, 0)) :: (b5, .cells [.int .i64 (s.length : Nat)].toArray 3 (0, 0)) :: (b4, .cells [.slice none 0 0, .int .i64 0, .bool false].toArray 67 (0, 0)) :: (b3, .cells [.map (some mb)].toArray 69 (0, 0)) :: (b2, .cells [.slice ag g.length cg, .slice as_ s.length cs].toArray 48 (0, 0)) :: (mb, .map es2 clock2) :: ((mq2 ++ mq) ++ ([]))) _
            refine s_tr (t_alloc zero_67 rfl) rfl rfl rfl rfl (fun b12 hb12 => ?_)
            refine s_tr0 (t_store 0 rfl rfl rfl rfl size_67 rfl rfl) rfl rfl rfl (fun _ _ => ?_)
            refine s_nil ?_
            refine g_then ?_
            refine g_seq ?_
            refine g_draw 7 (by kernel_rfl) ?_
            refine j_p (i := 0) rfl (y_fld rfl (fun w => fld_67_1 _ _ w)) (by kernel_rfl) (by kernel_rfl) (by kernel_rfl) rfl rfl rfl rfl rfl (.inr (fun _ h => h)) ?_
            refine j_l (i := 1) rfl (y_ld1 0 rfl rfl agg_3 rfl) (by kernel_rfl) (by kernel_rfl) (by kernel_rfl) (by kernel_rfl) rfl rfl rfl rfl rfl (.inr (fun _ h => h)) ?_
            refine j_l (i := 2) rfl (y_ldn 2 rfl rfl agg_48 size_48 rfl rfl) (by kernel_rfl) (by kernel_rfl) (by kernel_rfl) (by kernel_rfl) rfl rfl rfl rfl rfl (.inr (fun _ h => h)) ?_
            refine j_l (i := 3) rfl (y_ld1 7 rfl rfl agg_3 rfl) (by kernel_rfl) (by kernel_rfl) (by kernel_rfl) (by kernel_rfl) rfl rfl rfl rfl rfl (.inr (fun _ h => h)) ?_
            refine j_tr (i := 4) rfl (t_call rfl rfl ent_61 (fun w h => by have h_ := worth_any w ag (some ⟨bN, 0, none⟩) cg capN g (s ++ [x]) (hg.keepC (h.toHq.kc hk2 hmb (sd_cons (Nat.le_trans hsz2 hb12.2) (sd_cons (Nat.le_trans hsz2 hgeN) (sd_cons (Nat.le_trans hsz2 hb11.2) (sd_cons (Nat.le_trans hsz2 hb44.2) (sd_cons hb9.2 (sd_cons hb7.2 (sd_cons hb6.2 (sd_cons hb5.2 (sd_cons hb4.2 (sd_cons hb3.2 (sd_cons hb2.2 (sd_mb (sd_all (ge_app (ge_mono hmq2 hsz2) hmq)))))))))))))))) (by rw [hln]; exact RdV.own (jk := jN) (at_of (i := 1) h rfl) hln.symm hokn.1) s.length (by omega) (by omega) (by omega) hgn (notes_snoc hsn hx0 hx1); rw [hln] at h_; exact h_)) (by kernel_rfl) rfl rfl rfl rfl (.inr (fun x w hb h => h)) (fun _ _ => ?_)
            refine j_p (i := 5) rfl (y_add rfl rfl (by omega) (by omega)) (by kernel_rfl) (by kernel_rfl) (by kernel_rfl) rfl rfl rfl rfl rfl (.inr (fun _ h => h)) ?_
            refine j_p (i := 6) rfl (y_assign rfl) (by kernel_rfl) (by kernel_rfl) (by kernel_rfl) rfl rfl rfl rfl rfl (.inr (fun _ h => h)) ?_
            refine j_nil (by kernel_rfl) ?_
            refine g_then ?_
            refine g_seq ?_
            refine g_region ?_
            refine s_y (y_fld rfl (fun w => fld_67_2 _ _ w)) rfl rfl rfl rfl ?_
            refine s_y (y_ld1 0 rfl rfl agg_4 rfl) rfl rfl rfl rfl ?_
            refine s_y (y_move rfl) rfl rfl rfl rfl ?_
            refine s_no rfl rfl rfl ?_
            refine s_no rfl rfl rfl ?_
            refine s_no rfl rfl rfl ?_
            refine s_no rfl rfl rfl ?_
            refine s_noU rfl rfl rfl rfl rfl ?_
            refine s_noU rfl rfl rfl rfl rfl ?_
            refine s_noU rfl rfl rfl rfl rfl ?_
            refine s_noU rfl rfl rfl rfl rfl ?_
            refine s_no rfl rfl rfl ?_
            refine s_y (y_pick_f rfl rfl) rfl rfl rfl rfl ?_
            refine s_nil ?_
            refine g_then ?_
            refine g_cond_f rfl ?_
            refine g_skip ?_
            refine g_inb ?_
            exact fun act W _ hW => (have hc_ := rf_close2 hq hW2 (((((show Hp w0 W2 ((b12, .cells [.slice A2 0 c2, .int .i64 0, .bool false].toArray 67 (0, 0)) :: (bN, .cells ((s ++ [x]).map (Value.int .i64) ++ jN).toArray 3 (0, 0)) :: (b11, .cells [.slice ag g.length cg, .slice (some ⟨bN, 0, none⟩) (s.length + 1) capN].toArray 48 (0, 0)) :: (b44, .cells [.int .i64 x].toArray 3 (0, 0)) :: (b9, .cells [.slice Ao t0.length co, .int .i64 w0_, .bool true].toArray 67 (0, 0)) :: (b7, .cells [.slice none 0 0, .int .i64 0, .bool false].toArray 67 (0, 0)) :: (b6, .cells [.int .i64 (rdI (s.drop (s.length - 3)) 0), .int .i64 (rdI (s.drop (s.length - 3)) 1), .int .i64 (rdI (s.drop (s.length - 3)) 2), .int .i64 (s.length : Int)].toArray 73 (0, 0)) :: (b5, .cells [.int .i64 (s.length : Nat)].toArray 3 (0, 0)) :: (b4, .cells [.slice none 0 0, .int .i64 0, .bool false].toArray 67 (0, 0)) :: (b3, .cells [.map (some mb)].toArray 69 (0, 0)) :: (b2, .cells [.slice ag g.length cg, .slice as_ s.length cs].toArray 48 (0, 0)) :: (mb, .map es2 clock2) :: ((mq2 ++ mq) ++ ([]))) W from hW).tail hb12.2).tail hgeN).tail hb11.2).tail hb44.2) (ids_mq (n := W2.heap.size) (l1 := [(b9, _), (b7, _), (b6, _), (b5, _), (b4, _), (b3, _), (b2, _), (mb, _)]) (l2 := [(b9, .cells [.slice Ao t0.length co, .int .i64 w0_, .bool true].toArray 67 (0, 0)), (b7, .cells [.slice none 0 0, .int .i64 0, .bool false].toArray 67 (0, 0)), (b6, .cells [.int .i64 (rdI (s.drop (s.length - 3)) 0), .int .i64 (rdI (s.drop (s.length - 3)) 1), .int .i64 (rdI (s.drop (s.length - 3)) 2), .int .i64 (s.length : Int)].toArray 73 (0, 0)), (b5, .cells [.int .i64 (s.length : Nat)].toArray 3 (0, 0)), (b4, .cells [.slice none 0 0, .int .i64 0, .bool false].toArray 67 (0, 0)), (b3, .cells [.map (some mb)].toArray 69 (0, 0)), (b2, .cells [.slice ag g.length cg, .slice as_ s.length cs].toArray 48 (0, 0)), (mb, .map es2 clock2)]) (mq := mq) (nw := mq2) rfl hmq2).1 (ids_mq (n := W2.heap.size) (l1 := [(b9, _), (b7, _), (b6, _), (b5, _), (b4, _), (b3, _), (b2, _), (mb, _)]) (l2 := [(b9, .cells [.slice Ao t0.length co, .int .i64 w0_, .bool true].toArray 67 (0, 0)), (b7, .cells [.slice none 0 0, .int .i64 0, .bool false].toArray 67 (0, 0)), (b6, .cells [.int .i64 (rdI (s.drop (s.length - 3)) 0), .int .i64 (rdI (s.drop (s.length - 3)) 1), .int .i64 (rdI (s.drop (s.length - 3)) 2), .int .i64 (s.length : Int)].toArray 73 (0, 0)), (b5, .cells [.int .i64 (s.length : Nat)].toArray 3 (0, 0)), (b4, .cells [.slice none 0 0, .int .i64 0, .bool false].toArray 67 (0, 0)), (b3, .cells [.map (some mb)].toArray 69 (0, 0)), (b2, .cells [.slice ag g.length cg, .slice as_ s.length cs].toArray 48 (0, 0)), (mb, .map es2 clock2)]) (mq := mq) (nw := mq2) rfl hmq2).2; ⟨hc_.1, _, ⟨some (t0, w0_), Ao, co, es2, clock2, (mq2 ++ mq), (by rw [List.take_add_one, hx, List.foldl_append, ← ho]; simp only [Option.toList, List.foldl_cons, List.foldl_nil, bstep, ho2]), (hOo.mono fun p hp => by rcases List.mem_append.1 hp with h_ | h_; exact List.mem_append_left _ (List.mem_append_right _ h_); exact List.mem_append_right _ h_), (hS2.mono fun p hp => by simp only [List.mem_append] at hp ⊢; rcases hp with h_ | h_ | h_ <;> simp [h_]), ge_app (ge_mono hmq2 hsz2) hmq, (isC_app hC2 hmqC), rfl⟩, hc_.2⟩)
        · skip
          rw [ho2] at hO2
          have hr2 := bestR_range _ _ _ ho2
          simp only at hr2
          have hO2' : OwnV (Value.int .i64) (.slice A2 t2.length c2) t2 (mq2 ++ (mq ++ mm)) := hO2
          rcases o with _ | ⟨t0, w0_⟩
          · skip
            show G _ _ ((49, .agg #[.slice A2 t2.length c2, .int .i64 w2, .bool true]) :: _) _ _ ((bN, .cells ((s ++ [x]).map (Value.int .i64) ++ jN).toArray 3 (0, 0)) :: (b11, .cells [.slice ag g.length cg, .slice (some ⟨bN, 0, none⟩) (s.length + 1) capN].toArray 48 (0, 0)) :: (b44, .cells [.int .i64 x].toArray 3 (0, 0)) :: (b9, .cells [.slice Ao 0 co, .int .i64 0, .bool false].toArray 67 (0, 0)) :: (b7, .cells [.slice none 0 0, .int .i64 0, .bool false].toArray 67 (0, 0)) :: (b6, .cells [.int .i64 (rdI (s.drop (s.length - 3)) 0), .int .i64 (rdI (s.drop (s.length - 3)) 1), .int .i64 (rdI (s.drop (s.length - 3)) 2), .int .i64 (s.length : Int)].toArray 73 (0, 0)) :: (b5, .cells [.int .i64 (s.length : Nat)].toArray 3 (0, 0)) :: (b4, .cells [.slice none 0 0, .int .i64 0, .bool false].toArray 67 (0, 0)) :: (b3, .cells [.map (some mb)].toArray 69 (0, 0)) :: (b2, .cells [.slice ag g.length cg, .slice as_ s.length cs].toArray 48 (0, 0)) :: (mb, .map es2 clock2) :: ((mq2 ++ mq) ++ ([]))) _
            refine s_tr (t_alloc zero_67 rfl) rfl rfl rfl rfl (fun b12 hb12 => ?_)
            refine s_tr0 (t_store 0 rfl rfl rfl rfl size_67 rfl rfl) rfl rfl rfl (fun _ _ => ?_)
            refine s_nil ?_
            refine g_then ?_
            refine g_seq ?_
            refine g_draw 7 (by kernel_rfl) ?_
            refine j_p (i := 0) rfl (y_fld rfl (fun w => fld_67_1 _ _ w)) (by kernel_rfl) (by kernel_rfl) (by kernel_rfl) rfl rfl rfl rfl rfl (.inr (fun _ h => h)) ?_
            refine j_l (i := 1) rfl (y_ld1 0 rfl rfl agg_3 rfl) (by kernel_rfl) (by kernel_rfl) (by kernel_rfl) (by kernel_rfl) rfl rfl rfl rfl rfl (.inr (fun _ h => h)) ?_
            refine j_l (i := 2) rfl (y_ldn 2 rfl rfl agg_48 size_48 rfl rfl) (by kernel_rfl) (by kernel_rfl) (by kernel_rfl) (by kernel_rfl) rfl rfl rfl rfl rfl (.inr (fun _ h => h)) ?_
            refine j_l (i := 3) rfl (y_ld1 7 rfl rfl agg_3 rfl) (by kernel_rfl) (by kernel_rfl) (by kernel_rfl) (by kernel_rfl) rfl rfl rfl rfl rfl (.inr (fun _ h => h)) ?_
            refine j_tr (i := 4) rfl (t_call rfl rfl ent_61 (fun w h => by have h_ := worth_any w ag (some ⟨bN, 0, none⟩) cg capN g (s ++ [x]) (hg.keepC (h.toHq.kc hk2 hmb (sd_cons (Nat.le_trans hsz2 hb12.2) (sd_cons (Nat.le_trans hsz2 hgeN) (sd_cons (Nat.le_trans hsz2 hb11.2) (sd_cons (Nat.le_trans hsz2 hb44.2) (sd_cons hb9.2 (sd_cons hb7.2 (sd_cons hb6.2 (sd_cons hb5.2 (sd_cons hb4.2 (sd_cons hb3.2 (sd_cons hb2.2 (sd_mb (sd_all (ge_app (ge_mono hmq2 hsz2) hmq)))))))))))))))) (by rw [hln]; exact RdV.own (jk := jN) (at_of (i := 1) h rfl) hln.symm hokn.1) s.length (by omega) (by omega) (by omega) hgn (notes_snoc hsn hx0 hx1); rw [hln] at h_; exact h_)) (by kernel_rfl) rfl rfl rfl rfl (.inr (fun x w hb h => h)) (fun _ _ => ?_)
            refine j_p (i := 5) rfl (y_add rfl rfl (by omega) (by omega)) (by kernel_rfl) (by kernel_rfl) (by kernel_rfl) rfl rfl rfl rfl rfl (.inr (fun _ h => h)) ?_
            refine j_p (i := 6) rfl (y_assign rfl) (by kernel_rfl) (by kernel_rfl) (by kernel_rfl) rfl rfl rfl rfl rfl (.inr (fun _ h => h)) ?_
            refine j_nil (by kernel_rfl) ?_
            refine g_then ?_
            refine g_seq ?_
            refine g_region ?_
            refine s_y (y_fld rfl (fun w => fld_67_2 _ _ w)) rfl rfl rfl rfl ?_
            refine s_y (y_ld1 0 rfl rfl agg_4 rfl) rfl rfl rfl rfl ?_
            refine s_y (y_move rfl) rfl rfl rfl rfl ?_
            refine s_y (y_fld rfl (fun w => fld_67_2 _ _ w)) rfl rfl rfl rfl ?_
            refine s_y (y_ld1 4 rfl rfl agg_4 rfl) rfl rfl rfl rfl ?_
            refine s_y (y_not_f rfl) rfl rfl rfl rfl ?_
            refine s_y (y_move rfl) rfl rfl rfl rfl ?_
            refine s_no rfl rfl rfl ?_
            refine s_no rfl rfl rfl ?_
            refine s_no rfl rfl rfl ?_
            refine s_no rfl rfl rfl ?_
            refine s_y (y_pick_t rfl rfl) rfl rfl rfl rfl ?_
            refine s_y (y_pick_t rfl rfl) rfl rfl rfl rfl ?_
            refine s_nil ?_
            refine g_then ?_
            refine g_cond_t rfl ?_
            refine g_region ?_
            refine s_y (y_move rfl) rfl rfl rfl rfl ?_
            refine s_tr (t_build (vs := [(0, .int .i64 x)]) (cells := [.int .i64 x]) rfl rfl Try.underlying22 hi3.1 hi3.2.1 (by rw [hi3.2.2.1]; rfl) (by rw [hi3.2.2.1]; rfl) (by rw [hi3.2.2.1]; kernel_rfl)) rfl rfl rfl rfl (fun b70 hb70 => ?_)
            refine s_y (y_fld rfl (fun w => fld_67_0 _ _ w)) rfl rfl rfl rfl ?_
            refine s_y (y_ld1 1 rfl rfl agg_22 rfl) rfl rfl rfl rfl ?_
            refine s_tr (t_consR (enc := (Value.int .i64)) (x := x) (ys := t2) _ rfl rfl rfl Try.underlying22 hi3.1 hi3.2.1 hi3.2.2.1 hi3.2.2.2 rfl (fun _ => rfl) (fun w h => hO2'.rd (fun p hp => (rows_all h (fun p hp => h.at_ p (List.mem_cons_of_mem _ (List.mem_cons_of_mem _ (List.mem_cons_of_mem _ (List.mem_cons_of_mem _ (List.mem_cons_of_mem _ (List.mem_cons_of_mem _ (List.mem_cons_of_mem _ (List.mem_cons_of_mem _ (List.mem_cons_of_mem _ (List.mem_cons_of_mem _ (List.mem_cons_of_mem _ (List.mem_cons_of_mem _ (List.mem_cons_of_mem _ (mem_al (mq2 ++ mq) hp))))))))))))))) hmm (h.toHq.kc hk2 hmb (sd_cons (Nat.le_trans hsz2 hb70.2) (sd_cons (Nat.le_trans hsz2 hb12.2) (sd_cons (Nat.le_trans hsz2 hgeN) (sd_cons (Nat.le_trans hsz2 hb11.2) (sd_cons (Nat.le_trans hsz2 hb44.2) (sd_cons hb9.2 (sd_cons hb7.2 (sd_cons hb6.2 (sd_cons hb5.2 (sd_cons hb4.2 (sd_cons hb3.2 (sd_cons hb2.2 (sd_mb (sd_all (ge_app (ge_mono hmq2 hsz2) hmq))))))))))))))))) p (by simpa only [List.append_assoc] using hp))) (by omega) (by unfold maxLen; omega) hb70.2) rfl rfl rfl rfl (fun y3 hy3 => ?_)
            obtain ⟨A3, c3, m3⟩ := y3
            obtain ⟨⟨hO3, hC3⟩, hm3⟩ := hy3
            simp only at hO3 hC3 hm3
            refine g_perm' (show ((b12, .cells [.slice A2 t2.length c2, .int .i64 w2, .bool true].toArray 67 (0, 0)) :: (bN, .cells ((s ++ [x]).map (Value.int .i64) ++ jN).toArray 3 (0, 0)) :: (b11, .cells [.slice ag g.length cg, .slice (some ⟨bN, 0, none⟩) (s.length + 1) capN].toArray 48 (0, 0)) :: (b44, .cells [.int .i64 x].toArray 3 (0, 0)) :: (b9, .cells [.slice Ao 0 co, .int .i64 0, .bool false].toArray 67 (0, 0)) :: (b7, .cells [.slice none 0 0, .int .i64 0, .bool false].toArray 67 (0, 0)) :: (b6, .cells [.int .i64 (rdI (s.drop (s.length - 3)) 0), .int .i64 (rdI (s.drop (s.length - 3)) 1), .int .i64 (rdI (s.drop (s.length - 3)) 2), .int .i64 (s.length : Int)].toArray 73 (0, 0)) :: (b5, .cells [.int .i64 (s.length : Nat)].toArray 3 (0, 0)) :: (b4, .cells [.slice none 0 0, .int .i64 0, .bool false].toArray 67 (0, 0)) :: (b3, .cells [.map (some mb)].toArray 69 (0, 0)) :: (b2, .cells [.slice ag g.length cg, .slice as_ s.length cs].toArray 48 (0, 0)) :: (mb, .map es2 clock2) :: (((m3 ++ mq2) ++ mq) ++ ([]))).Perm _ from by have h_ := perm_mv m3 (mq2 ++ mq) [(b12, .cells [.slice A2 t2.length c2, .int .i64 w2, .bool true].toArray 67 (0, 0)), (bN, .cells ((s ++ [x]).map (Value.int .i64) ++ jN).toArray 3 (0, 0)), (b11, .cells [.slice ag g.length cg, .slice (some ⟨bN, 0, none⟩) (s.length + 1) capN].toArray 48 (0, 0)), (b44, .cells [.int .i64 x].toArray 3 (0, 0)), (b9, .cells [.slice Ao 0 co, .int .i64 0, .bool false].toArray 67 (0, 0)), (b7, .cells [.slice none 0 0, .int .i64 0, .bool false].toArray 67 (0, 0)), (b6, .cells [.int .i64 (rdI (s.drop (s.length - 3)) 0), .int .i64 (rdI (s.drop (s.length - 3)) 1), .int .i64 (rdI (s.drop (s.length - 3)) 2), .int .i64 (s.length : Int)].toArray 73 (0, 0)), (b5, .cells [.int .i64 (s.length : Nat)].toArray 3 (0, 0)), (b4, .cells [.slice none 0 0, .int .i64 0, .bool false].toArray 67 (0, 0)), (b3, .cells [.map (some mb)].toArray 69 (0, 0)), (b2, .cells [.slice ag g.length cg, .slice as_ s.length cs].toArray 48 (0, 0)), (mb, .map es2 clock2)]; rw [← List.append_assoc m3] at h_; exact h_) ?_
            refine s_y (y_move rfl) rfl rfl rfl rfl ?_
            refine s_y (y_build (vs := [(0, _), (1, _), (2, _)]) rfl rfl (fun w => bld_67_0_1_2 _ _ _ _ _ w)) rfl rfl rfl rfl ?_
            refine s_tr0 (t_store 4 rfl rfl rfl rfl size_67 rfl rfl) rfl rfl rfl (fun _ _ => ?_)
            refine s_nil ?_
            refine g_inb ?_
            exact fun act W _ hW => (have hc_ := rf_close2 hq hW2 (((((show Hp w0 W2 ((b12, .cells [.slice A2 t2.length c2, .int .i64 w2, .bool true].toArray 67 (0, 0)) :: (bN, .cells ((s ++ [x]).map (Value.int .i64) ++ jN).toArray 3 (0, 0)) :: (b11, .cells [.slice ag g.length cg, .slice (some ⟨bN, 0, none⟩) (s.length + 1) capN].toArray 48 (0, 0)) :: (b44, .cells [.int .i64 x].toArray 3 (0, 0)) :: (b9, .cells [.slice A3 (t2.length + 1) c3, .int .i64 (w2 + (wrt g (s ++ [x]) s.length)), .bool true].toArray 67 (0, 0)) :: (b7, .cells [.slice none 0 0, .int .i64 0, .bool false].toArray 67 (0, 0)) :: (b6, .cells [.int .i64 (rdI (s.drop (s.length - 3)) 0), .int .i64 (rdI (s.drop (s.length - 3)) 1), .int .i64 (rdI (s.drop (s.length - 3)) 2), .int .i64 (s.length : Int)].toArray 73 (0, 0)) :: (b5, .cells [.int .i64 (s.length : Nat)].toArray 3 (0, 0)) :: (b4, .cells [.slice none 0 0, .int .i64 0, .bool false].toArray 67 (0, 0)) :: (b3, .cells [.map (some mb)].toArray 69 (0, 0)) :: (b2, .cells [.slice ag g.length cg, .slice as_ s.length cs].toArray 48 (0, 0)) :: (mb, .map es2 clock2) :: (((m3 ++ mq2) ++ mq) ++ ([]))) W from hW).tail hb12.2).tail hgeN).tail hb11.2).tail hb44.2) (ids_mq (n := W2.heap.size) (l1 := [(b9, _), (b7, _), (b6, _), (b5, _), (b4, _), (b3, _), (b2, _), (mb, _)]) (l2 := [(b9, .cells [.slice A3 (t2.length + 1) c3, .int .i64 (w2 + (wrt g (s ++ [x]) s.length)), .bool true].toArray 67 (0, 0)), (b7, .cells [.slice none 0 0, .int .i64 0, .bool false].toArray 67 (0, 0)), (b6, .cells [.int .i64 (rdI (s.drop (s.length - 3)) 0), .int .i64 (rdI (s.drop (s.length - 3)) 1), .int .i64 (rdI (s.drop (s.length - 3)) 2), .int .i64 (s.length : Int)].toArray 73 (0, 0)), (b5, .cells [.int .i64 (s.length : Nat)].toArray 3 (0, 0)), (b4, .cells [.slice none 0 0, .int .i64 0, .bool false].toArray 67 (0, 0)), (b3, .cells [.map (some mb)].toArray 69 (0, 0)), (b2, .cells [.slice ag g.length cg, .slice as_ s.length cs].toArray 48 (0, 0)), (mb, .map es2 clock2)]) (mq := mq) (nw := (m3 ++ mq2)) rfl (ge_app hm3 hmq2)).1 (ids_mq (n := W2.heap.size) (l1 := [(b9, _), (b7, _), (b6, _), (b5, _), (b4, _), (b3, _), (b2, _), (mb, _)]) (l2 := [(b9, .cells [.slice A3 (t2.length + 1) c3, .int .i64 (w2 + (wrt g (s ++ [x]) s.length)), .bool true].toArray 67 (0, 0)), (b7, .cells [.slice none 0 0, .int .i64 0, .bool false].toArray 67 (0, 0)), (b6, .cells [.int .i64 (rdI (s.drop (s.length - 3)) 0), .int .i64 (rdI (s.drop (s.length - 3)) 1), .int .i64 (rdI (s.drop (s.length - 3)) 2), .int .i64 (s.length : Int)].toArray 73 (0, 0)), (b5, .cells [.int .i64 (s.length : Nat)].toArray 3 (0, 0)), (b4, .cells [.slice none 0 0, .int .i64 0, .bool false].toArray 67 (0, 0)), (b3, .cells [.map (some mb)].toArray 69 (0, 0)), (b2, .cells [.slice ag g.length cg, .slice as_ s.length cs].toArray 48 (0, 0)), (mb, .map es2 clock2)]) (mq := mq) (nw := (m3 ++ mq2)) rfl (ge_app hm3 hmq2)).2; ⟨hc_.1, _, ⟨some (x :: t2, w2 + wrt g (s ++ [x]) s.length), A3, c3, es2, clock2, ((m3 ++ mq2) ++ mq), (by rw [List.take_add_one, hx, List.foldl_append, ← ho]; simp only [Option.toList, List.foldl_cons, List.foldl_nil, bstep, ho2]), (hO3.mono fun p hp => List.mem_append_left _ (List.mem_append_left _ (List.mem_append_left _ hp))), (hS2.mono fun p hp => by simp only [List.mem_append] at hp ⊢; rcases hp with h_ | h_ | h_ <;> simp [h_]), ge_app (ge_mono (ge_app hm3 hmq2) hsz2) hmq, (isC_app (isC_app hC3 hC2) hmqC), rfl⟩, hc_.2⟩)
          · skip
            show G _ _ ((49, .agg #[.slice A2 t2.length c2, .int .i64 w2, .bool true]) :: _) _ _ ((bN, .cells ((s ++ [x]).map (Value.int .i64) ++ jN).toArray 3 (0, 0)) :: (b11, .cells [.slice ag g.length cg, .slice (some ⟨bN, 0, none⟩) (s.length + 1) capN].toArray 48 (0, 0)) :: (b44, .cells [.int .i64 x].toArray 3 (0, 0)) :: (b9, .cells [.slice Ao t0.length co, .int .i64 w0_, .bool true].toArray 67 (0, 0)) :: (b7, .cells [.slice none 0 0, .int .i64 0, .bool false].toArray 67 (0, 0)) :: (b6, .cells [.int .i64 (rdI (s.drop (s.length - 3)) 0), .int .i64 (rdI (s.drop (s.length - 3)) 1), .int .i64 (rdI (s.drop (s.length - 3)) 2), .int .i64 (s.length : Int)].toArray 73 (0, 0)) :: (b5, .cells [.int .i64 (s.length : Nat)].toArray 3 (0, 0)) :: (b4, .cells [.slice none 0 0, .int .i64 0, .bool false].toArray 67 (0, 0)) :: (b3, .cells [.map (some mb)].toArray 69 (0, 0)) :: (b2, .cells [.slice ag g.length cg, .slice as_ s.length cs].toArray 48 (0, 0)) :: (mb, .map es2 clock2) :: ((mq2 ++ mq) ++ ([]))) _
            refine s_tr (t_alloc zero_67 rfl) rfl rfl rfl rfl (fun b12 hb12 => ?_)
            refine s_tr0 (t_store 0 rfl rfl rfl rfl size_67 rfl rfl) rfl rfl rfl (fun _ _ => ?_)
            refine s_nil ?_
            refine g_then ?_
            refine g_seq ?_
            refine g_draw 7 (by kernel_rfl) ?_
            refine j_p (i := 0) rfl (y_fld rfl (fun w => fld_67_1 _ _ w)) (by kernel_rfl) (by kernel_rfl) (by kernel_rfl) rfl rfl rfl rfl rfl (.inr (fun _ h => h)) ?_
            refine j_l (i := 1) rfl (y_ld1 0 rfl rfl agg_3 rfl) (by kernel_rfl) (by kernel_rfl) (by kernel_rfl) (by kernel_rfl) rfl rfl rfl rfl rfl (.inr (fun _ h => h)) ?_
            refine j_l (i := 2) rfl (y_ldn 2 rfl rfl agg_48 size_48 rfl rfl) (by kernel_rfl) (by kernel_rfl) (by kernel_rfl) (by kernel_rfl) rfl rfl rfl rfl rfl (.inr (fun _ h => h)) ?_
            refine j_l (i := 3) rfl (y_ld1 7 rfl rfl agg_3 rfl) (by kernel_rfl) (by kernel_rfl) (by kernel_rfl) (by kernel_rfl) rfl rfl rfl rfl rfl (.inr (fun _ h => h)) ?_
            refine j_tr (i := 4) rfl (t_call rfl rfl ent_61 (fun w h => by have h_ := worth_any w ag (some ⟨bN, 0, none⟩) cg capN g (s ++ [x]) (hg.keepC (h.toHq.kc hk2 hmb (sd_cons (Nat.le_trans hsz2 hb12.2) (sd_cons (Nat.le_trans hsz2 hgeN) (sd_cons (Nat.le_trans hsz2 hb11.2) (sd_cons (Nat.le_trans hsz2 hb44.2) (sd_cons hb9.2 (sd_cons hb7.2 (sd_cons hb6.2 (sd_cons hb5.2 (sd_cons hb4.2 (sd_cons hb3.2 (sd_cons hb2.2 (sd_mb (sd_all (ge_app (ge_mono hmq2 hsz2) hmq)))))))))))))))) (by rw [hln]; exact RdV.own (jk := jN) (at_of (i := 1) h rfl) hln.symm hokn.1) s.length (by omega) (by omega) (by omega) hgn (notes_snoc hsn hx0 hx1); rw [hln] at h_; exact h_)) (by kernel_rfl) rfl rfl rfl rfl (.inr (fun x w hb h => h)) (fun _ _ => ?_)
            refine j_p (i := 5) rfl (y_add rfl rfl (by omega) (by omega)) (by kernel_rfl) (by kernel_rfl) (by kernel_rfl) rfl rfl rfl rfl rfl (.inr (fun _ h => h)) ?_
            refine j_p (i := 6) rfl (y_assign rfl) (by kernel_rfl) (by kernel_rfl) (by kernel_rfl) rfl rfl rfl rfl rfl (.inr (fun _ h => h)) ?_
            refine j_nil (by kernel_rfl) ?_
            refine g_then ?_
            refine g_seq ?_
            refine g_region ?_
            refine s_y (y_fld rfl (fun w => fld_67_2 _ _ w)) rfl rfl rfl rfl ?_
            refine s_y (y_ld1 0 rfl rfl agg_4 rfl) rfl rfl rfl rfl ?_
            refine s_y (y_move rfl) rfl rfl rfl rfl ?_
            refine s_y (y_fld rfl (fun w => fld_67_2 _ _ w)) rfl rfl rfl rfl ?_
            refine s_y (y_ld1 4 rfl rfl agg_4 rfl) rfl rfl rfl rfl ?_
            refine s_y (y_not_t rfl) rfl rfl rfl rfl ?_
            refine s_y (y_move rfl) rfl rfl rfl rfl ?_
            refine s_y (y_move rfl) rfl rfl rfl rfl ?_
            refine s_y (y_fld rfl (fun w => fld_67_1 _ _ w)) rfl rfl rfl rfl ?_
            refine s_y (y_ld1 4 rfl rfl agg_3 rfl) rfl rfl rfl rfl ?_
            refine s_y (y_gtr rfl rfl) rfl rfl rfl rfl ?_
            refine s_y (y_pick_f rfl rfl) rfl rfl rfl rfl ?_
            refine s_y (y_pick_t rfl rfl) rfl rfl rfl rfl ?_
            refine s_nil ?_
            refine g_then ?_
            refine g_cond rfl (fun cq2 => ?_) (fun cq2 => ?_)
            · (try simp at cq2)
              refine g_region ?_
              refine s_y (y_move rfl) rfl rfl rfl rfl ?_
              refine s_tr (t_build (vs := [(0, .int .i64 x)]) (cells := [.int .i64 x]) rfl rfl Try.underlying22 hi3.1 hi3.2.1 (by rw [hi3.2.2.1]; rfl) (by rw [hi3.2.2.1]; rfl) (by rw [hi3.2.2.1]; kernel_rfl)) rfl rfl rfl rfl (fun b70 hb70 => ?_)
              refine s_y (y_fld rfl (fun w => fld_67_0 _ _ w)) rfl rfl rfl rfl ?_
              refine s_y (y_ld1 1 rfl rfl agg_22 rfl) rfl rfl rfl rfl ?_
              refine s_tr (t_consR (enc := (Value.int .i64)) (x := x) (ys := t2) _ rfl rfl rfl Try.underlying22 hi3.1 hi3.2.1 hi3.2.2.1 hi3.2.2.2 rfl (fun _ => rfl) (fun w h => hO2'.rd (fun p hp => (rows_all h (fun p hp => h.at_ p (List.mem_cons_of_mem _ (List.mem_cons_of_mem _ (List.mem_cons_of_mem _ (List.mem_cons_of_mem _ (List.mem_cons_of_mem _ (List.mem_cons_of_mem _ (List.mem_cons_of_mem _ (List.mem_cons_of_mem _ (List.mem_cons_of_mem _ (List.mem_cons_of_mem _ (List.mem_cons_of_mem _ (List.mem_cons_of_mem _ (List.mem_cons_of_mem _ (mem_al (mq2 ++ mq) hp))))))))))))))) hmm (h.toHq.kc hk2 hmb (sd_cons (Nat.le_trans hsz2 hb70.2) (sd_cons (Nat.le_trans hsz2 hb12.2) (sd_cons (Nat.le_trans hsz2 hgeN) (sd_cons (Nat.le_trans hsz2 hb11.2) (sd_cons (Nat.le_trans hsz2 hb44.2) (sd_cons hb9.2 (sd_cons hb7.2 (sd_cons hb6.2 (sd_cons hb5.2 (sd_cons hb4.2 (sd_cons hb3.2 (sd_cons hb2.2 (sd_mb (sd_all (ge_app (ge_mono hmq2 hsz2) hmq))))))))))))))))) p (by simpa only [List.append_assoc] using hp))) (by omega) (by unfold maxLen; omega) hb70.2) rfl rfl rfl rfl (fun y3 hy3 => ?_)
              obtain ⟨A3, c3, m3⟩ := y3
              obtain ⟨⟨hO3, hC3⟩, hm3⟩ := hy3
              simp only at hO3 hC3 hm3
              refine g_perm' (show ((b12, .cells [.slice A2 t2.length c2, .int .i64 w2, .bool true].toArray 67 (0, 0)) :: (bN, .cells ((s ++ [x]).map (Value.int .i64) ++ jN).toArray 3 (0, 0)) :: (b11, .cells [.slice ag g.length cg, .slice (some ⟨bN, 0, none⟩) (s.length + 1) capN].toArray 48 (0, 0)) :: (b44, .cells [.int .i64 x].toArray 3 (0, 0)) :: (b9, .cells [.slice Ao t0.length co, .int .i64 w0_, .bool true].toArray 67 (0, 0)) :: (b7, .cells [.slice none 0 0, .int .i64 0, .bool false].toArray 67 (0, 0)) :: (b6, .cells [.int .i64 (rdI (s.drop (s.length - 3)) 0), .int .i64 (rdI (s.drop (s.length - 3)) 1), .int .i64 (rdI (s.drop (s.length - 3)) 2), .int .i64 (s.length : Int)].toArray 73 (0, 0)) :: (b5, .cells [.int .i64 (s.length : Nat)].toArray 3 (0, 0)) :: (b4, .cells [.slice none 0 0, .int .i64 0, .bool false].toArray 67 (0, 0)) :: (b3, .cells [.map (some mb)].toArray 69 (0, 0)) :: (b2, .cells [.slice ag g.length cg, .slice as_ s.length cs].toArray 48 (0, 0)) :: (mb, .map es2 clock2) :: (((m3 ++ mq2) ++ mq) ++ ([]))).Perm _ from by have h_ := perm_mv m3 (mq2 ++ mq) [(b12, .cells [.slice A2 t2.length c2, .int .i64 w2, .bool true].toArray 67 (0, 0)), (bN, .cells ((s ++ [x]).map (Value.int .i64) ++ jN).toArray 3 (0, 0)), (b11, .cells [.slice ag g.length cg, .slice (some ⟨bN, 0, none⟩) (s.length + 1) capN].toArray 48 (0, 0)), (b44, .cells [.int .i64 x].toArray 3 (0, 0)), (b9, .cells [.slice Ao t0.length co, .int .i64 w0_, .bool true].toArray 67 (0, 0)), (b7, .cells [.slice none 0 0, .int .i64 0, .bool false].toArray 67 (0, 0)), (b6, .cells [.int .i64 (rdI (s.drop (s.length - 3)) 0), .int .i64 (rdI (s.drop (s.length - 3)) 1), .int .i64 (rdI (s.drop (s.length - 3)) 2), .int .i64 (s.length : Int)].toArray 73 (0, 0)), (b5, .cells [.int .i64 (s.length : Nat)].toArray 3 (0, 0)), (b4, .cells [.slice none 0 0, .int .i64 0, .bool false].toArray 67 (0, 0)), (b3, .cells [.map (some mb)].toArray 69 (0, 0)), (b2, .cells [.slice ag g.length cg, .slice as_ s.length cs].toArray 48 (0, 0)), (mb, .map es2 clock2)]; rw [← List.append_assoc m3] at h_; exact h_) ?_
              refine s_y (y_move rfl) rfl rfl rfl rfl ?_
              refine s_y (y_build (vs := [(0, _), (1, _), (2, _)]) rfl rfl (fun w => bld_67_0_1_2 _ _ _ _ _ w)) rfl rfl rfl rfl ?_
              refine s_tr0 (t_store 4 rfl rfl rfl rfl size_67 rfl rfl) rfl rfl rfl (fun _ _ => ?_)
              refine s_nil ?_
              refine g_inb ?_
              exact fun act W _ hW => (have hc_ := rf_close2 hq hW2 (((((show Hp w0 W2 ((b12, .cells [.slice A2 t2.length c2, .int .i64 w2, .bool true].toArray 67 (0, 0)) :: (bN, .cells ((s ++ [x]).map (Value.int .i64) ++ jN).toArray 3 (0, 0)) :: (b11, .cells [.slice ag g.length cg, .slice (some ⟨bN, 0, none⟩) (s.length + 1) capN].toArray 48 (0, 0)) :: (b44, .cells [.int .i64 x].toArray 3 (0, 0)) :: (b9, .cells [.slice A3 (t2.length + 1) c3, .int .i64 (w2 + (wrt g (s ++ [x]) s.length)), .bool true].toArray 67 (0, 0)) :: (b7, .cells [.slice none 0 0, .int .i64 0, .bool false].toArray 67 (0, 0)) :: (b6, .cells [.int .i64 (rdI (s.drop (s.length - 3)) 0), .int .i64 (rdI (s.drop (s.length - 3)) 1), .int .i64 (rdI (s.drop (s.length - 3)) 2), .int .i64 (s.length : Int)].toArray 73 (0, 0)) :: (b5, .cells [.int .i64 (s.length : Nat)].toArray 3 (0, 0)) :: (b4, .cells [.slice none 0 0, .int .i64 0, .bool false].toArray 67 (0, 0)) :: (b3, .cells [.map (some mb)].toArray 69 (0, 0)) :: (b2, .cells [.slice ag g.length cg, .slice as_ s.length cs].toArray 48 (0, 0)) :: (mb, .map es2 clock2) :: (((m3 ++ mq2) ++ mq) ++ ([]))) W from hW).tail hb12.2).tail hgeN).tail hb11.2).tail hb44.2) (ids_mq (n := W2.heap.size) (l1 := [(b9, _), (b7, _), (b6, _), (b5, _), (b4, _), (b3, _), (b2, _), (mb, _)]) (l2 := [(b9, .cells [.slice A3 (t2.length + 1) c3, .int .i64 (w2 + (wrt g (s ++ [x]) s.length)), .bool true].toArray 67 (0, 0)), (b7, .cells [.slice none 0 0, .int .i64 0, .bool false].toArray 67 (0, 0)), (b6, .cells [.int .i64 (rdI (s.drop (s.length - 3)) 0), .int .i64 (rdI (s.drop (s.length - 3)) 1), .int .i64 (rdI (s.drop (s.length - 3)) 2), .int .i64 (s.length : Int)].toArray 73 (0, 0)), (b5, .cells [.int .i64 (s.length : Nat)].toArray 3 (0, 0)), (b4, .cells [.slice none 0 0, .int .i64 0, .bool false].toArray 67 (0, 0)), (b3, .cells [.map (some mb)].toArray 69 (0, 0)), (b2, .cells [.slice ag g.length cg, .slice as_ s.length cs].toArray 48 (0, 0)), (mb, .map es2 clock2)]) (mq := mq) (nw := (m3 ++ mq2)) rfl (ge_app hm3 hmq2)).1 (ids_mq (n := W2.heap.size) (l1 := [(b9, _), (b7, _), (b6, _), (b5, _), (b4, _), (b3, _), (b2, _), (mb, _)]) (l2 := [(b9, .cells [.slice A3 (t2.length + 1) c3, .int .i64 (w2 + (wrt g (s ++ [x]) s.length)), .bool true].toArray 67 (0, 0)), (b7, .cells [.slice none 0 0, .int .i64 0, .bool false].toArray 67 (0, 0)), (b6, .cells [.int .i64 (rdI (s.drop (s.length - 3)) 0), .int .i64 (rdI (s.drop (s.length - 3)) 1), .int .i64 (rdI (s.drop (s.length - 3)) 2), .int .i64 (s.length : Int)].toArray 73 (0, 0)), (b5, .cells [.int .i64 (s.length : Nat)].toArray 3 (0, 0)), (b4, .cells [.slice none 0 0, .int .i64 0, .bool false].toArray 67 (0, 0)), (b3, .cells [.map (some mb)].toArray 69 (0, 0)), (b2, .cells [.slice ag g.length cg, .slice as_ s.length cs].toArray 48 (0, 0)), (mb, .map es2 clock2)]) (mq := mq) (nw := (m3 ++ mq2)) rfl (ge_app hm3 hmq2)).2; ⟨hc_.1, _, ⟨some (x :: t2, w2 + wrt g (s ++ [x]) s.length), A3, c3, es2, clock2, ((m3 ++ mq2) ++ mq), (by rw [List.take_add_one, hx, List.foldl_append, ← ho]; simp only [Option.toList, List.foldl_cons, List.foldl_nil, bstep, ho2]; rw [if_pos (by omega)]), (hO3.mono fun p hp => List.mem_append_left _ (List.mem_append_left _ (List.mem_append_left _ hp))), (hS2.mono fun p hp => by simp only [List.mem_append] at hp ⊢; rcases hp with h_ | h_ | h_ <;> simp [h_]), ge_app (ge_mono (ge_app hm3 hmq2) hsz2) hmq, (isC_app (isC_app hC3 hC2) hmqC), rfl⟩, hc_.2⟩)
            · (try simp at cq2)
              refine g_skip ?_
              refine g_inb ?_
              exact fun act W _ hW => (have hc_ := rf_close2 hq hW2 (((((show Hp w0 W2 ((b12, .cells [.slice A2 t2.length c2, .int .i64 w2, .bool true].toArray 67 (0, 0)) :: (bN, .cells ((s ++ [x]).map (Value.int .i64) ++ jN).toArray 3 (0, 0)) :: (b11, .cells [.slice ag g.length cg, .slice (some ⟨bN, 0, none⟩) (s.length + 1) capN].toArray 48 (0, 0)) :: (b44, .cells [.int .i64 x].toArray 3 (0, 0)) :: (b9, .cells [.slice Ao t0.length co, .int .i64 w0_, .bool true].toArray 67 (0, 0)) :: (b7, .cells [.slice none 0 0, .int .i64 0, .bool false].toArray 67 (0, 0)) :: (b6, .cells [.int .i64 (rdI (s.drop (s.length - 3)) 0), .int .i64 (rdI (s.drop (s.length - 3)) 1), .int .i64 (rdI (s.drop (s.length - 3)) 2), .int .i64 (s.length : Int)].toArray 73 (0, 0)) :: (b5, .cells [.int .i64 (s.length : Nat)].toArray 3 (0, 0)) :: (b4, .cells [.slice none 0 0, .int .i64 0, .bool false].toArray 67 (0, 0)) :: (b3, .cells [.map (some mb)].toArray 69 (0, 0)) :: (b2, .cells [.slice ag g.length cg, .slice as_ s.length cs].toArray 48 (0, 0)) :: (mb, .map es2 clock2) :: ((mq2 ++ mq) ++ ([]))) W from hW).tail hb12.2).tail hgeN).tail hb11.2).tail hb44.2) (ids_mq (n := W2.heap.size) (l1 := [(b9, _), (b7, _), (b6, _), (b5, _), (b4, _), (b3, _), (b2, _), (mb, _)]) (l2 := [(b9, .cells [.slice Ao t0.length co, .int .i64 w0_, .bool true].toArray 67 (0, 0)), (b7, .cells [.slice none 0 0, .int .i64 0, .bool false].toArray 67 (0, 0)), (b6, .cells [.int .i64 (rdI (s.drop (s.length - 3)) 0), .int .i64 (rdI (s.drop (s.length - 3)) 1), .int .i64 (rdI (s.drop (s.length - 3)) 2), .int .i64 (s.length : Int)].toArray 73 (0, 0)), (b5, .cells [.int .i64 (s.length : Nat)].toArray 3 (0, 0)), (b4, .cells [.slice none 0 0, .int .i64 0, .bool false].toArray 67 (0, 0)), (b3, .cells [.map (some mb)].toArray 69 (0, 0)), (b2, .cells [.slice ag g.length cg, .slice as_ s.length cs].toArray 48 (0, 0)), (mb, .map es2 clock2)]) (mq := mq) (nw := mq2) rfl hmq2).1 (ids_mq (n := W2.heap.size) (l1 := [(b9, _), (b7, _), (b6, _), (b5, _), (b4, _), (b3, _), (b2, _), (mb, _)]) (l2 := [(b9, .cells [.slice Ao t0.length co, .int .i64 w0_, .bool true].toArray 67 (0, 0)), (b7, .cells [.slice none 0 0, .int .i64 0, .bool false].toArray 67 (0, 0)), (b6, .cells [.int .i64 (rdI (s.drop (s.length - 3)) 0), .int .i64 (rdI (s.drop (s.length - 3)) 1), .int .i64 (rdI (s.drop (s.length - 3)) 2), .int .i64 (s.length : Int)].toArray 73 (0, 0)), (b5, .cells [.int .i64 (s.length : Nat)].toArray 3 (0, 0)), (b4, .cells [.slice none 0 0, .int .i64 0, .bool false].toArray 67 (0, 0)), (b3, .cells [.map (some mb)].toArray 69 (0, 0)), (b2, .cells [.slice ag g.length cg, .slice as_ s.length cs].toArray 48 (0, 0)), (mb, .map es2 clock2)]) (mq := mq) (nw := mq2) rfl hmq2).2; ⟨hc_.1, _, ⟨some (t0, w0_), Ao, co, es2, clock2, (mq2 ++ mq), (by rw [List.take_add_one, hx, List.foldl_append, ← ho]; simp only [Option.toList, List.foldl_cons, List.foldl_nil, bstep, ho2]; rw [if_neg (by omega)]), (hOo.mono fun p hp => by rcases List.mem_append.1 hp with h_ | h_; exact List.mem_append_left _ (List.mem_append_right _ h_); exact List.mem_append_right _ h_), (hS2.mono fun p hp => by simp only [List.mem_append] at hp ⊢; rcases hp with h_ | h_ | h_ <;> simp [h_]), ge_app (ge_mono hmq2 hsz2) hmq, (isC_app hC2 hmqC), rfl⟩, hc_.2⟩)
    · skip
      refine i_tr (i := 11) rfl (t_alloc zero_48 rfl) rfl rfl rfl rfl (.inr (fun x w hb h => (h.tail hb.2))) (fun b11 hb11 => ?_)
      refine j_tr (i := 8) rfl (t_build (vs := [(0, .int .i64 x)]) (cells := [.int .i64 x]) rfl rfl Try.underlying22 hi3.1 hi3.2.1 (by rw [hi3.2.2.1]; rfl) (by rw [hi3.2.2.1]; rfl) (by rw [hi3.2.2.1]; kernel_rfl)) (by kernel_rfl) rfl rfl rfl rfl (.inr (fun x w hb h => ((h.tail hb.2).tail hb11.2))) (fun b44 hb44 => ?_)
      refine j_tr (i := 9) rfl (t_appendN (enc := (Value.int .i64)) (xs := s) (v := x) rfl rfl Try.underlying22 hi3.1 hi3.2.1 hi3.2.2.1 hi3.2.2.2 rfl (fun w h => hvf.keepC (h.toHq.kc hk2 hmb (sd_cons (Nat.le_trans hsz2 hb44.2) (sd_cons (Nat.le_trans hsz2 hb11.2) (sd_cons hb9.2 (sd_cons hb7.2 (sd_cons hb6.2 (sd_cons hb5.2 (sd_cons hb4.2 (sd_cons hb3.2 (sd_cons hb2.2 (sd_mb (sd_all hmq))))))))))))) (fun w h => h.toHq.cell (i := 0) rfl rfl) rfl (by omega) (by unfold maxLen; omega)) (by kernel_rfl) rfl rfl rfl rfl (.inr (fun x w hb h => (((sv_tail hb.2 h).tail hb44.2).tail hb11.2))) (fun svn hokn' => ?_)
      obtain ⟨hokn, bN, capN, jN, rfl, hgeN⟩ := hokn'
      have hln : (s ++ [x]).length = s.length + 1 := by simp
      refine j_p (i := 10) rfl (y_build (vs := [(0, _), (1, _)]) rfl rfl (fun w => bld_48_0_1 _ _ _ _ _ _ w)) (by kernel_rfl) (by kernel_rfl) (by kernel_rfl) rfl rfl rfl rfl rfl (.inr (fun _ h => (((h.tail hgeN).tail hb44.2).tail hb11.2))) ?_
      refine j_tr0 (i := 12) rfl (t_store 2 rfl rfl rfl rfl size_48 rfl rfl) (by kernel_rfl) rfl rfl rfl (.inl rfl) (fun _ _ => ?_)
      refine j_nil (by kernel_rfl) ?_
      refine g_then ?_
      refine g_seq ?_
      refine g_region ?_
      refine s_y (y_ldn 2 rfl rfl agg_48 size_48 rfl rfl) rfl rfl rfl rfl ?_
      refine s_y (y_ld1 8 rfl rfl agg_69 rfl) rfl rfl rfl rfl ?_
      refine s_tr (t_callB (A := BOk g (bestR g kk (s ++ [x])) (mq ++ mm)) (fo := fun y => .map y.2.2.1 y.2.2.2.1) (vf := bV (bestR g kk (s ++ [x]))) (mm := fun y => y.2.2.2.2) (pre := [(bN, .cells ((s ++ [x]).map (Value.int .i64) ++ jN).toArray 3 (0, 0)), (b44, .cells [.int .i64 x].toArray 3 (0, 0)), (b11, .cells [.slice ag g.length cg, .slice (some ⟨bN, 0, none⟩) (s.length + 1) capN].toArray 48 (0, 0)), (b9, .cells [.slice Ao (ntO o).length co, .int .i64 (wtO o), .bool o.isSome].toArray 67 (0, 0)), (b7, .cells [.slice none 0 0, .int .i64 0, .bool false].toArray 67 (0, 0)), (b6, .cells [.int .i64 (rdI (s.drop (s.length - 3)) 0), .int .i64 (rdI (s.drop (s.length - 3)) 1), .int .i64 (rdI (s.drop (s.length - 3)) 2), .int .i64 (s.length : Int)].toArray 73 (0, 0)), (b5, .cells [.int .i64 (s.length : Nat)].toArray 3 (0, 0)), (b4, .cells [.slice none 0 0, .int .i64 0, .bool false].toArray 67 (0, 0)), (b3, .cells [.map (some mb)].toArray 69 (0, 0)), (b2, .cells [.slice ag g.length cg, .slice as_ s.length cs].toArray 48 (0, 0)), (mb, .map es' clock')]) (mq := mq) 10 rfl rfl rfl rfl ent_62 (fun w h => ?_)) rfl rfl rfl rfl (fun yB hyB => ?_)
      · skip
        have h_ := IH ag (some ⟨bN, 0, none⟩) cg capN (s ++ [x]) mb es' clock' (mq ++ mm) w0 w (by omega) (notes_snoc hsn hx0 hx1) h.below hge (at_of (i := 10) h rfl) (rows_at h hmqC hmm (fun p hp => (List.mem_cons_of_mem _ (List.mem_cons_of_mem _ (List.mem_cons_of_mem _ (List.mem_cons_of_mem _ (List.mem_cons_of_mem _ (List.mem_cons_of_mem _ (List.mem_cons_of_mem _ (List.mem_cons_of_mem _ (List.mem_cons_of_mem _ (List.mem_cons_of_mem _ (List.mem_cons_of_mem _ (mem_al mq hp))))))))))))) (h.toHq.kc hk2 hmb (sd_cons (Nat.le_trans hsz2 hgeN) (sd_cons (Nat.le_trans hsz2 hb44.2) (sd_cons (Nat.le_trans hsz2 hb11.2) (sd_cons hb9.2 (sd_cons hb7.2 (sd_cons hb6.2 (sd_cons hb5.2 (sd_cons hb4.2 (sd_cons hb3.2 (sd_cons hb2.2 (sd_mb (sd_all hmq)))))))))))))) hSo (hg.keepC (h.toHq.kc hk2 hmb (sd_cons (Nat.le_trans hsz2 hgeN) (sd_cons (Nat.le_trans hsz2 hb44.2) (sd_cons (Nat.le_trans hsz2 hb11.2) (sd_cons hb9.2 (sd_cons hb7.2 (sd_cons hb6.2 (sd_cons hb5.2 (sd_cons hb4.2 (sd_cons hb3.2 (sd_cons hb2.2 (sd_mb (sd_all hmq)))))))))))))) (by rw [hln]; exact RdV.own (jk := jN) (at_of (i := 0) h rfl) hln.symm hokn.1)
        rw [hln] at h_
        exact h_
      obtain ⟨A2, c2, es2, clock2, mq2⟩ := yB
      obtain ⟨⟨hO2, hS2, hC2⟩, hmq2⟩ := hyB
      simp only at hO2 hS2 hC2 hmq2
      rcases ho2 : bestR g kk (s ++ [x]) with _ | ⟨t2, w2⟩
      · skip
        rw [ho2] at hO2
        rcases o with _ | ⟨t0, w0_⟩
        · skip
          show G _ _ ((49, .agg #[.slice A2 0 c2, .int .i64 0, .bool false]) :: _) _ _ ((bN, .cells ((s ++ [x]).map (Value.int .i64) ++ jN).toArray 3 (0, 0)) :: (b44, .cells [.int .i64 x].toArray 3 (0, 0)) :: (b11, .cells [.slice ag g.length cg, .slice (some ⟨bN, 0, none⟩) (s.length + 1) capN].toArray 48 (0, 0)) :: (b9, .cells [.slice Ao 0 co, .int .i64 0, .bool false].toArray 67 (0, 0)) :: (b7, .cells [.slice none 0 0, .int .i64 0, .bool false].toArray 67 (0, 0)) :: (b6, .cells [.int .i64 (rdI (s.drop (s.length - 3)) 0), .int .i64 (rdI (s.drop (s.length - 3)) 1), .int .i64 (rdI (s.drop (s.length - 3)) 2), .int .i64 (s.length : Int)].toArray 73 (0, 0)) :: (b5, .cells [.int .i64 (s.length : Nat)].toArray 3 (0, 0)) :: (b4, .cells [.slice none 0 0, .int .i64 0, .bool false].toArray 67 (0, 0)) :: (b3, .cells [.map (some mb)].toArray 69 (0, 0)) :: (b2, .cells [.slice ag g.length cg, .slice as_ s.length cs].toArray 48 (0, 0)) :: (mb, .map es2 clock2) :: ((mq2 ++ mq) ++ ([]))) _
          refine s_tr (t_alloc zero_67 rfl) rfl rfl rfl rfl (fun b12 hb12 => ?_)
          refine s_tr0 (t_store 0 rfl rfl rfl rfl size_67 rfl rfl) rfl rfl rfl (fun _ _ => ?_)
          refine s_nil ?_
          refine g_then ?_
          refine g_seq ?_
          refine g_draw 7 (by kernel_rfl) ?_
          refine j_p (i := 0) rfl (y_fld rfl (fun w => fld_67_1 _ _ w)) (by kernel_rfl) (by kernel_rfl) (by kernel_rfl) rfl rfl rfl rfl rfl (.inr (fun _ h => h)) ?_
          refine j_l (i := 1) rfl (y_ld1 0 rfl rfl agg_3 rfl) (by kernel_rfl) (by kernel_rfl) (by kernel_rfl) (by kernel_rfl) rfl rfl rfl rfl rfl (.inr (fun _ h => h)) ?_
          refine j_l (i := 2) rfl (y_ldn 3 rfl rfl agg_48 size_48 rfl rfl) (by kernel_rfl) (by kernel_rfl) (by kernel_rfl) (by kernel_rfl) rfl rfl rfl rfl rfl (.inr (fun _ h => h)) ?_
          refine j_l (i := 3) rfl (y_ld1 7 rfl rfl agg_3 rfl) (by kernel_rfl) (by kernel_rfl) (by kernel_rfl) (by kernel_rfl) rfl rfl rfl rfl rfl (.inr (fun _ h => h)) ?_
          refine j_tr (i := 4) rfl (t_call rfl rfl ent_61 (fun w h => by have h_ := worth_any w ag (some ⟨bN, 0, none⟩) cg capN g (s ++ [x]) (hg.keepC (h.toHq.kc hk2 hmb (sd_cons (Nat.le_trans hsz2 hb12.2) (sd_cons (Nat.le_trans hsz2 hgeN) (sd_cons (Nat.le_trans hsz2 hb44.2) (sd_cons (Nat.le_trans hsz2 hb11.2) (sd_cons hb9.2 (sd_cons hb7.2 (sd_cons hb6.2 (sd_cons hb5.2 (sd_cons hb4.2 (sd_cons hb3.2 (sd_cons hb2.2 (sd_mb (sd_all (ge_app (ge_mono hmq2 hsz2) hmq)))))))))))))))) (by rw [hln]; exact RdV.own (jk := jN) (at_of (i := 1) h rfl) hln.symm hokn.1) s.length (by omega) (by omega) (by omega) hgn (notes_snoc hsn hx0 hx1); rw [hln] at h_; exact h_)) (by kernel_rfl) rfl rfl rfl rfl (.inr (fun x w hb h => h)) (fun _ _ => ?_)
          refine j_p (i := 5) rfl (y_add rfl rfl (by omega) (by omega)) (by kernel_rfl) (by kernel_rfl) (by kernel_rfl) rfl rfl rfl rfl rfl (.inr (fun _ h => h)) ?_
          refine j_p (i := 6) rfl (y_assign rfl) (by kernel_rfl) (by kernel_rfl) (by kernel_rfl) rfl rfl rfl rfl rfl (.inr (fun _ h => h)) ?_
          refine j_nil (by kernel_rfl) ?_
          refine g_then ?_
          refine g_seq ?_
          refine g_region ?_
          refine s_y (y_fld rfl (fun w => fld_67_2 _ _ w)) rfl rfl rfl rfl ?_
          refine s_y (y_ld1 0 rfl rfl agg_4 rfl) rfl rfl rfl rfl ?_
          refine s_y (y_move rfl) rfl rfl rfl rfl ?_
          refine s_no rfl rfl rfl ?_
          refine s_no rfl rfl rfl ?_
          refine s_no rfl rfl rfl ?_
          refine s_no rfl rfl rfl ?_
          refine s_noU rfl rfl rfl rfl rfl ?_
          refine s_noU rfl rfl rfl rfl rfl ?_
          refine s_noU rfl rfl rfl rfl rfl ?_
          refine s_noU rfl rfl rfl rfl rfl ?_
          refine s_no rfl rfl rfl ?_
          refine s_y (y_pick_f rfl rfl) rfl rfl rfl rfl ?_
          refine s_nil ?_
          refine g_then ?_
          refine g_cond_f rfl ?_
          refine g_skip ?_
          refine g_inb ?_
          exact fun act W _ hW => (have hc_ := rf_close2 hq hW2 (((((show Hp w0 W2 ((b12, .cells [.slice A2 0 c2, .int .i64 0, .bool false].toArray 67 (0, 0)) :: (bN, .cells ((s ++ [x]).map (Value.int .i64) ++ jN).toArray 3 (0, 0)) :: (b44, .cells [.int .i64 x].toArray 3 (0, 0)) :: (b11, .cells [.slice ag g.length cg, .slice (some ⟨bN, 0, none⟩) (s.length + 1) capN].toArray 48 (0, 0)) :: (b9, .cells [.slice Ao 0 co, .int .i64 0, .bool false].toArray 67 (0, 0)) :: (b7, .cells [.slice none 0 0, .int .i64 0, .bool false].toArray 67 (0, 0)) :: (b6, .cells [.int .i64 (rdI (s.drop (s.length - 3)) 0), .int .i64 (rdI (s.drop (s.length - 3)) 1), .int .i64 (rdI (s.drop (s.length - 3)) 2), .int .i64 (s.length : Int)].toArray 73 (0, 0)) :: (b5, .cells [.int .i64 (s.length : Nat)].toArray 3 (0, 0)) :: (b4, .cells [.slice none 0 0, .int .i64 0, .bool false].toArray 67 (0, 0)) :: (b3, .cells [.map (some mb)].toArray 69 (0, 0)) :: (b2, .cells [.slice ag g.length cg, .slice as_ s.length cs].toArray 48 (0, 0)) :: (mb, .map es2 clock2) :: ((mq2 ++ mq) ++ ([]))) W from hW).tail hb12.2).tail hgeN).tail hb44.2).tail hb11.2) (ids_mq (n := W2.heap.size) (l1 := [(b9, _), (b7, _), (b6, _), (b5, _), (b4, _), (b3, _), (b2, _), (mb, _)]) (l2 := [(b9, .cells [.slice Ao 0 co, .int .i64 0, .bool false].toArray 67 (0, 0)), (b7, .cells [.slice none 0 0, .int .i64 0, .bool false].toArray 67 (0, 0)), (b6, .cells [.int .i64 (rdI (s.drop (s.length - 3)) 0), .int .i64 (rdI (s.drop (s.length - 3)) 1), .int .i64 (rdI (s.drop (s.length - 3)) 2), .int .i64 (s.length : Int)].toArray 73 (0, 0)), (b5, .cells [.int .i64 (s.length : Nat)].toArray 3 (0, 0)), (b4, .cells [.slice none 0 0, .int .i64 0, .bool false].toArray 67 (0, 0)), (b3, .cells [.map (some mb)].toArray 69 (0, 0)), (b2, .cells [.slice ag g.length cg, .slice as_ s.length cs].toArray 48 (0, 0)), (mb, .map es2 clock2)]) (mq := mq) (nw := mq2) rfl hmq2).1 (ids_mq (n := W2.heap.size) (l1 := [(b9, _), (b7, _), (b6, _), (b5, _), (b4, _), (b3, _), (b2, _), (mb, _)]) (l2 := [(b9, .cells [.slice Ao 0 co, .int .i64 0, .bool false].toArray 67 (0, 0)), (b7, .cells [.slice none 0 0, .int .i64 0, .bool false].toArray 67 (0, 0)), (b6, .cells [.int .i64 (rdI (s.drop (s.length - 3)) 0), .int .i64 (rdI (s.drop (s.length - 3)) 1), .int .i64 (rdI (s.drop (s.length - 3)) 2), .int .i64 (s.length : Int)].toArray 73 (0, 0)), (b5, .cells [.int .i64 (s.length : Nat)].toArray 3 (0, 0)), (b4, .cells [.slice none 0 0, .int .i64 0, .bool false].toArray 67 (0, 0)), (b3, .cells [.map (some mb)].toArray 69 (0, 0)), (b2, .cells [.slice ag g.length cg, .slice as_ s.length cs].toArray 48 (0, 0)), (mb, .map es2 clock2)]) (mq := mq) (nw := mq2) rfl hmq2).2; ⟨hc_.1, _, ⟨none, Ao, co, es2, clock2, (mq2 ++ mq), (by rw [List.take_add_one, hx, List.foldl_append, ← ho]; simp only [Option.toList, List.foldl_cons, List.foldl_nil, bstep, ho2]), (hOo.mono fun p hp => by rcases List.mem_append.1 hp with h_ | h_; exact List.mem_append_left _ (List.mem_append_right _ h_); exact List.mem_append_right _ h_), (hS2.mono fun p hp => by simp only [List.mem_append] at hp ⊢; rcases hp with h_ | h_ | h_ <;> simp [h_]), ge_app (ge_mono hmq2 hsz2) hmq, (isC_app hC2 hmqC), rfl⟩, hc_.2⟩)
        · skip
          show G _ _ ((49, .agg #[.slice A2 0 c2, .int .i64 0, .bool false]) :: _) _ _ ((bN, .cells ((s ++ [x]).map (Value.int .i64) ++ jN).toArray 3 (0, 0)) :: (b44, .cells [.int .i64 x].toArray 3 (0, 0)) :: (b11, .cells [.slice ag g.length cg, .slice (some ⟨bN, 0, none⟩) (s.length + 1) capN].toArray 48 (0, 0)) :: (b9, .cells [.slice Ao t0.length co, .int .i64 w0_, .bool true].toArray 67 (0, 0)) :: (b7, .cells [.slice none 0 0, .int .i64 0, .bool false].toArray 67 (0, 0)) :: (b6, .cells [.int .i64 (rdI (s.drop (s.length - 3)) 0), .int .i64 (rdI (s.drop (s.length - 3)) 1), .int .i64 (rdI (s.drop (s.length - 3)) 2), .int .i64 (s.length : Int)].toArray 73 (0, 0)) :: (b5, .cells [.int .i64 (s.length : Nat)].toArray 3 (0, 0)) :: (b4, .cells [.slice none 0 0, .int .i64 0, .bool false].toArray 67 (0, 0)) :: (b3, .cells [.map (some mb)].toArray 69 (0, 0)) :: (b2, .cells [.slice ag g.length cg, .slice as_ s.length cs].toArray 48 (0, 0)) :: (mb, .map es2 clock2) :: ((mq2 ++ mq) ++ ([]))) _
          refine s_tr (t_alloc zero_67 rfl) rfl rfl rfl rfl (fun b12 hb12 => ?_)
          refine s_tr0 (t_store 0 rfl rfl rfl rfl size_67 rfl rfl) rfl rfl rfl (fun _ _ => ?_)
          refine s_nil ?_
          refine g_then ?_
          refine g_seq ?_
          refine g_draw 7 (by kernel_rfl) ?_
          refine j_p (i := 0) rfl (y_fld rfl (fun w => fld_67_1 _ _ w)) (by kernel_rfl) (by kernel_rfl) (by kernel_rfl) rfl rfl rfl rfl rfl (.inr (fun _ h => h)) ?_
          refine j_l (i := 1) rfl (y_ld1 0 rfl rfl agg_3 rfl) (by kernel_rfl) (by kernel_rfl) (by kernel_rfl) (by kernel_rfl) rfl rfl rfl rfl rfl (.inr (fun _ h => h)) ?_
          refine j_l (i := 2) rfl (y_ldn 3 rfl rfl agg_48 size_48 rfl rfl) (by kernel_rfl) (by kernel_rfl) (by kernel_rfl) (by kernel_rfl) rfl rfl rfl rfl rfl (.inr (fun _ h => h)) ?_
          refine j_l (i := 3) rfl (y_ld1 7 rfl rfl agg_3 rfl) (by kernel_rfl) (by kernel_rfl) (by kernel_rfl) (by kernel_rfl) rfl rfl rfl rfl rfl (.inr (fun _ h => h)) ?_
          refine j_tr (i := 4) rfl (t_call rfl rfl ent_61 (fun w h => by have h_ := worth_any w ag (some ⟨bN, 0, none⟩) cg capN g (s ++ [x]) (hg.keepC (h.toHq.kc hk2 hmb (sd_cons (Nat.le_trans hsz2 hb12.2) (sd_cons (Nat.le_trans hsz2 hgeN) (sd_cons (Nat.le_trans hsz2 hb44.2) (sd_cons (Nat.le_trans hsz2 hb11.2) (sd_cons hb9.2 (sd_cons hb7.2 (sd_cons hb6.2 (sd_cons hb5.2 (sd_cons hb4.2 (sd_cons hb3.2 (sd_cons hb2.2 (sd_mb (sd_all (ge_app (ge_mono hmq2 hsz2) hmq)))))))))))))))) (by rw [hln]; exact RdV.own (jk := jN) (at_of (i := 1) h rfl) hln.symm hokn.1) s.length (by omega) (by omega) (by omega) hgn (notes_snoc hsn hx0 hx1); rw [hln] at h_; exact h_)) (by kernel_rfl) rfl rfl rfl rfl (.inr (fun x w hb h => h)) (fun _ _ => ?_)
          refine j_p (i := 5) rfl (y_add rfl rfl (by omega) (by omega)) (by kernel_rfl) (by kernel_rfl) (by kernel_rfl) rfl rfl rfl rfl rfl (.inr (fun _ h => h)) ?_
          refine j_p (i := 6) rfl (y_assign rfl) (by kernel_rfl) (by kernel_rfl) (by kernel_rfl) rfl rfl rfl rfl rfl (.inr (fun _ h => h)) ?_
          refine j_nil (by kernel_rfl) ?_
          refine g_then ?_
          refine g_seq ?_
          refine g_region ?_
          refine s_y (y_fld rfl (fun w => fld_67_2 _ _ w)) rfl rfl rfl rfl ?_
          refine s_y (y_ld1 0 rfl rfl agg_4 rfl) rfl rfl rfl rfl ?_
          refine s_y (y_move rfl) rfl rfl rfl rfl ?_
          refine s_no rfl rfl rfl ?_
          refine s_no rfl rfl rfl ?_
          refine s_no rfl rfl rfl ?_
          refine s_no rfl rfl rfl ?_
          refine s_noU rfl rfl rfl rfl rfl ?_
          refine s_noU rfl rfl rfl rfl rfl ?_
          refine s_noU rfl rfl rfl rfl rfl ?_
          refine s_noU rfl rfl rfl rfl rfl ?_
          refine s_no rfl rfl rfl ?_
          refine s_y (y_pick_f rfl rfl) rfl rfl rfl rfl ?_
          refine s_nil ?_
          refine g_then ?_
          refine g_cond_f rfl ?_
          refine g_skip ?_
          refine g_inb ?_
          exact fun act W _ hW => (have hc_ := rf_close2 hq hW2 (((((show Hp w0 W2 ((b12, .cells [.slice A2 0 c2, .int .i64 0, .bool false].toArray 67 (0, 0)) :: (bN, .cells ((s ++ [x]).map (Value.int .i64) ++ jN).toArray 3 (0, 0)) :: (b44, .cells [.int .i64 x].toArray 3 (0, 0)) :: (b11, .cells [.slice ag g.length cg, .slice (some ⟨bN, 0, none⟩) (s.length + 1) capN].toArray 48 (0, 0)) :: (b9, .cells [.slice Ao t0.length co, .int .i64 w0_, .bool true].toArray 67 (0, 0)) :: (b7, .cells [.slice none 0 0, .int .i64 0, .bool false].toArray 67 (0, 0)) :: (b6, .cells [.int .i64 (rdI (s.drop (s.length - 3)) 0), .int .i64 (rdI (s.drop (s.length - 3)) 1), .int .i64 (rdI (s.drop (s.length - 3)) 2), .int .i64 (s.length : Int)].toArray 73 (0, 0)) :: (b5, .cells [.int .i64 (s.length : Nat)].toArray 3 (0, 0)) :: (b4, .cells [.slice none 0 0, .int .i64 0, .bool false].toArray 67 (0, 0)) :: (b3, .cells [.map (some mb)].toArray 69 (0, 0)) :: (b2, .cells [.slice ag g.length cg, .slice as_ s.length cs].toArray 48 (0, 0)) :: (mb, .map es2 clock2) :: ((mq2 ++ mq) ++ ([]))) W from hW).tail hb12.2).tail hgeN).tail hb44.2).tail hb11.2) (ids_mq (n := W2.heap.size) (l1 := [(b9, _), (b7, _), (b6, _), (b5, _), (b4, _), (b3, _), (b2, _), (mb, _)]) (l2 := [(b9, .cells [.slice Ao t0.length co, .int .i64 w0_, .bool true].toArray 67 (0, 0)), (b7, .cells [.slice none 0 0, .int .i64 0, .bool false].toArray 67 (0, 0)), (b6, .cells [.int .i64 (rdI (s.drop (s.length - 3)) 0), .int .i64 (rdI (s.drop (s.length - 3)) 1), .int .i64 (rdI (s.drop (s.length - 3)) 2), .int .i64 (s.length : Int)].toArray 73 (0, 0)), (b5, .cells [.int .i64 (s.length : Nat)].toArray 3 (0, 0)), (b4, .cells [.slice none 0 0, .int .i64 0, .bool false].toArray 67 (0, 0)), (b3, .cells [.map (some mb)].toArray 69 (0, 0)), (b2, .cells [.slice ag g.length cg, .slice as_ s.length cs].toArray 48 (0, 0)), (mb, .map es2 clock2)]) (mq := mq) (nw := mq2) rfl hmq2).1 (ids_mq (n := W2.heap.size) (l1 := [(b9, _), (b7, _), (b6, _), (b5, _), (b4, _), (b3, _), (b2, _), (mb, _)]) (l2 := [(b9, .cells [.slice Ao t0.length co, .int .i64 w0_, .bool true].toArray 67 (0, 0)), (b7, .cells [.slice none 0 0, .int .i64 0, .bool false].toArray 67 (0, 0)), (b6, .cells [.int .i64 (rdI (s.drop (s.length - 3)) 0), .int .i64 (rdI (s.drop (s.length - 3)) 1), .int .i64 (rdI (s.drop (s.length - 3)) 2), .int .i64 (s.length : Int)].toArray 73 (0, 0)), (b5, .cells [.int .i64 (s.length : Nat)].toArray 3 (0, 0)), (b4, .cells [.slice none 0 0, .int .i64 0, .bool false].toArray 67 (0, 0)), (b3, .cells [.map (some mb)].toArray 69 (0, 0)), (b2, .cells [.slice ag g.length cg, .slice as_ s.length cs].toArray 48 (0, 0)), (mb, .map es2 clock2)]) (mq := mq) (nw := mq2) rfl hmq2).2; ⟨hc_.1, _, ⟨some (t0, w0_), Ao, co, es2, clock2, (mq2 ++ mq), (by rw [List.take_add_one, hx, List.foldl_append, ← ho]; simp only [Option.toList, List.foldl_cons, List.foldl_nil, bstep, ho2]), (hOo.mono fun p hp => by rcases List.mem_append.1 hp with h_ | h_; exact List.mem_append_left _ (List.mem_append_right _ h_); exact List.mem_append_right _ h_), (hS2.mono fun p hp => by simp only [List.mem_append] at hp ⊢; rcases hp with h_ | h_ | h_ <;> simp [h_]), ge_app (ge_mono hmq2 hsz2) hmq, (isC_app hC2 hmqC), rfl⟩, hc_.2⟩)
      · skip
        rw [ho2] at hO2
        have hr2 := bestR_range _ _ _ ho2
        simp only at hr2
        have hO2' : OwnV (Value.int .i64) (.slice A2 t2.length c2) t2 (mq2 ++ (mq ++ mm)) := hO2
        rcases o with _ | ⟨t0, w0_⟩
        · skip
          show G _ _ ((49, .agg #[.slice A2 t2.length c2, .int .i64 w2, .bool true]) :: _) _ _ ((bN, .cells ((s ++ [x]).map (Value.int .i64) ++ jN).toArray 3 (0, 0)) :: (b44, .cells [.int .i64 x].toArray 3 (0, 0)) :: (b11, .cells [.slice ag g.length cg, .slice (some ⟨bN, 0, none⟩) (s.length + 1) capN].toArray 48 (0, 0)) :: (b9, .cells [.slice Ao 0 co, .int .i64 0, .bool false].toArray 67 (0, 0)) :: (b7, .cells [.slice none 0 0, .int .i64 0, .bool false].toArray 67 (0, 0)) :: (b6, .cells [.int .i64 (rdI (s.drop (s.length - 3)) 0), .int .i64 (rdI (s.drop (s.length - 3)) 1), .int .i64 (rdI (s.drop (s.length - 3)) 2), .int .i64 (s.length : Int)].toArray 73 (0, 0)) :: (b5, .cells [.int .i64 (s.length : Nat)].toArray 3 (0, 0)) :: (b4, .cells [.slice none 0 0, .int .i64 0, .bool false].toArray 67 (0, 0)) :: (b3, .cells [.map (some mb)].toArray 69 (0, 0)) :: (b2, .cells [.slice ag g.length cg, .slice as_ s.length cs].toArray 48 (0, 0)) :: (mb, .map es2 clock2) :: ((mq2 ++ mq) ++ ([]))) _
          refine s_tr (t_alloc zero_67 rfl) rfl rfl rfl rfl (fun b12 hb12 => ?_)
          refine s_tr0 (t_store 0 rfl rfl rfl rfl size_67 rfl rfl) rfl rfl rfl (fun _ _ => ?_)
          refine s_nil ?_
          refine g_then ?_
          refine g_seq ?_
          refine g_draw 7 (by kernel_rfl) ?_
          refine j_p (i := 0) rfl (y_fld rfl (fun w => fld_67_1 _ _ w)) (by kernel_rfl) (by kernel_rfl) (by kernel_rfl) rfl rfl rfl rfl rfl (.inr (fun _ h => h)) ?_
          refine j_l (i := 1) rfl (y_ld1 0 rfl rfl agg_3 rfl) (by kernel_rfl) (by kernel_rfl) (by kernel_rfl) (by kernel_rfl) rfl rfl rfl rfl rfl (.inr (fun _ h => h)) ?_
          refine j_l (i := 2) rfl (y_ldn 3 rfl rfl agg_48 size_48 rfl rfl) (by kernel_rfl) (by kernel_rfl) (by kernel_rfl) (by kernel_rfl) rfl rfl rfl rfl rfl (.inr (fun _ h => h)) ?_
          refine j_l (i := 3) rfl (y_ld1 7 rfl rfl agg_3 rfl) (by kernel_rfl) (by kernel_rfl) (by kernel_rfl) (by kernel_rfl) rfl rfl rfl rfl rfl (.inr (fun _ h => h)) ?_
          refine j_tr (i := 4) rfl (t_call rfl rfl ent_61 (fun w h => by have h_ := worth_any w ag (some ⟨bN, 0, none⟩) cg capN g (s ++ [x]) (hg.keepC (h.toHq.kc hk2 hmb (sd_cons (Nat.le_trans hsz2 hb12.2) (sd_cons (Nat.le_trans hsz2 hgeN) (sd_cons (Nat.le_trans hsz2 hb44.2) (sd_cons (Nat.le_trans hsz2 hb11.2) (sd_cons hb9.2 (sd_cons hb7.2 (sd_cons hb6.2 (sd_cons hb5.2 (sd_cons hb4.2 (sd_cons hb3.2 (sd_cons hb2.2 (sd_mb (sd_all (ge_app (ge_mono hmq2 hsz2) hmq)))))))))))))))) (by rw [hln]; exact RdV.own (jk := jN) (at_of (i := 1) h rfl) hln.symm hokn.1) s.length (by omega) (by omega) (by omega) hgn (notes_snoc hsn hx0 hx1); rw [hln] at h_; exact h_)) (by kernel_rfl) rfl rfl rfl rfl (.inr (fun x w hb h => h)) (fun _ _ => ?_)
          refine j_p (i := 5) rfl (y_add rfl rfl (by omega) (by omega)) (by kernel_rfl) (by kernel_rfl) (by kernel_rfl) rfl rfl rfl rfl rfl (.inr (fun _ h => h)) ?_
          refine j_p (i := 6) rfl (y_assign rfl) (by kernel_rfl) (by kernel_rfl) (by kernel_rfl) rfl rfl rfl rfl rfl (.inr (fun _ h => h)) ?_
          refine j_nil (by kernel_rfl) ?_
          refine g_then ?_
          refine g_seq ?_
          refine g_region ?_
          refine s_y (y_fld rfl (fun w => fld_67_2 _ _ w)) rfl rfl rfl rfl ?_
          refine s_y (y_ld1 0 rfl rfl agg_4 rfl) rfl rfl rfl rfl ?_
          refine s_y (y_move rfl) rfl rfl rfl rfl ?_
          refine s_y (y_fld rfl (fun w => fld_67_2 _ _ w)) rfl rfl rfl rfl ?_
          refine s_y (y_ld1 4 rfl rfl agg_4 rfl) rfl rfl rfl rfl ?_
          refine s_y (y_not_f rfl) rfl rfl rfl rfl ?_
          refine s_y (y_move rfl) rfl rfl rfl rfl ?_
          refine s_no rfl rfl rfl ?_
          refine s_no rfl rfl rfl ?_
          refine s_no rfl rfl rfl ?_
          refine s_no rfl rfl rfl ?_
          refine s_y (y_pick_t rfl rfl) rfl rfl rfl rfl ?_
          refine s_y (y_pick_t rfl rfl) rfl rfl rfl rfl ?_
          refine s_nil ?_
          refine g_then ?_
          refine g_cond_t rfl ?_
          refine g_region ?_
          refine s_y (y_move rfl) rfl rfl rfl rfl ?_
          refine s_tr (t_build (vs := [(0, .int .i64 x)]) (cells := [.int .i64 x]) rfl rfl Try.underlying22 hi3.1 hi3.2.1 (by rw [hi3.2.2.1]; rfl) (by rw [hi3.2.2.1]; rfl) (by rw [hi3.2.2.1]; kernel_rfl)) rfl rfl rfl rfl (fun b70 hb70 => ?_)
          refine s_y (y_fld rfl (fun w => fld_67_0 _ _ w)) rfl rfl rfl rfl ?_
          refine s_y (y_ld1 1 rfl rfl agg_22 rfl) rfl rfl rfl rfl ?_
          refine s_tr (t_consR (enc := (Value.int .i64)) (x := x) (ys := t2) _ rfl rfl rfl Try.underlying22 hi3.1 hi3.2.1 hi3.2.2.1 hi3.2.2.2 rfl (fun _ => rfl) (fun w h => hO2'.rd (fun p hp => (rows_all h (fun p hp => h.at_ p (List.mem_cons_of_mem _ (List.mem_cons_of_mem _ (List.mem_cons_of_mem _ (List.mem_cons_of_mem _ (List.mem_cons_of_mem _ (List.mem_cons_of_mem _ (List.mem_cons_of_mem _ (List.mem_cons_of_mem _ (List.mem_cons_of_mem _ (List.mem_cons_of_mem _ (List.mem_cons_of_mem _ (List.mem_cons_of_mem _ (List.mem_cons_of_mem _ (mem_al (mq2 ++ mq) hp))))))))))))))) hmm (h.toHq.kc hk2 hmb (sd_cons (Nat.le_trans hsz2 hb70.2) (sd_cons (Nat.le_trans hsz2 hb12.2) (sd_cons (Nat.le_trans hsz2 hgeN) (sd_cons (Nat.le_trans hsz2 hb44.2) (sd_cons (Nat.le_trans hsz2 hb11.2) (sd_cons hb9.2 (sd_cons hb7.2 (sd_cons hb6.2 (sd_cons hb5.2 (sd_cons hb4.2 (sd_cons hb3.2 (sd_cons hb2.2 (sd_mb (sd_all (ge_app (ge_mono hmq2 hsz2) hmq))))))))))))))))) p (by simpa only [List.append_assoc] using hp))) (by omega) (by unfold maxLen; omega) hb70.2) rfl rfl rfl rfl (fun y3 hy3 => ?_)
          obtain ⟨A3, c3, m3⟩ := y3
          obtain ⟨⟨hO3, hC3⟩, hm3⟩ := hy3
          simp only at hO3 hC3 hm3
          refine g_perm' (show ((b12, .cells [.slice A2 t2.length c2, .int .i64 w2, .bool true].toArray 67 (0, 0)) :: (bN, .cells ((s ++ [x]).map (Value.int .i64) ++ jN).toArray 3 (0, 0)) :: (b44, .cells [.int .i64 x].toArray 3 (0, 0)) :: (b11, .cells [.slice ag g.length cg, .slice (some ⟨bN, 0, none⟩) (s.length + 1) capN].toArray 48 (0, 0)) :: (b9, .cells [.slice Ao 0 co, .int .i64 0, .bool false].toArray 67 (0, 0)) :: (b7, .cells [.slice none 0 0, .int .i64 0, .bool false].toArray 67 (0, 0)) :: (b6, .cells [.int .i64 (rdI (s.drop (s.length - 3)) 0), .int .i64 (rdI (s.drop (s.length - 3)) 1), .int .i64 (rdI (s.drop (s.length - 3)) 2), .int .i64 (s.length : Int)].toArray 73 (0, 0)) :: (b5, .cells [.int .i64 (s.length : Nat)].toArray 3 (0, 0)) :: (b4, .cells [.slice none 0 0, .int .i64 0, .bool false].toArray 67 (0, 0)) :: (b3, .cells [.map (some mb)].toArray 69 (0, 0)) :: (b2, .cells [.slice ag g.length cg, .slice as_ s.length cs].toArray 48 (0, 0)) :: (mb, .map es2 clock2) :: (((m3 ++ mq2) ++ mq) ++ ([]))).Perm _ from by have h_ := perm_mv m3 (mq2 ++ mq) [(b12, .cells [.slice A2 t2.length c2, .int .i64 w2, .bool true].toArray 67 (0, 0)), (bN, .cells ((s ++ [x]).map (Value.int .i64) ++ jN).toArray 3 (0, 0)), (b44, .cells [.int .i64 x].toArray 3 (0, 0)), (b11, .cells [.slice ag g.length cg, .slice (some ⟨bN, 0, none⟩) (s.length + 1) capN].toArray 48 (0, 0)), (b9, .cells [.slice Ao 0 co, .int .i64 0, .bool false].toArray 67 (0, 0)), (b7, .cells [.slice none 0 0, .int .i64 0, .bool false].toArray 67 (0, 0)), (b6, .cells [.int .i64 (rdI (s.drop (s.length - 3)) 0), .int .i64 (rdI (s.drop (s.length - 3)) 1), .int .i64 (rdI (s.drop (s.length - 3)) 2), .int .i64 (s.length : Int)].toArray 73 (0, 0)), (b5, .cells [.int .i64 (s.length : Nat)].toArray 3 (0, 0)), (b4, .cells [.slice none 0 0, .int .i64 0, .bool false].toArray 67 (0, 0)), (b3, .cells [.map (some mb)].toArray 69 (0, 0)), (b2, .cells [.slice ag g.length cg, .slice as_ s.length cs].toArray 48 (0, 0)), (mb, .map es2 clock2)]; rw [← List.append_assoc m3] at h_; exact h_) ?_
          refine s_y (y_move rfl) rfl rfl rfl rfl ?_
          refine s_y (y_build (vs := [(0, _), (1, _), (2, _)]) rfl rfl (fun w => bld_67_0_1_2 _ _ _ _ _ w)) rfl rfl rfl rfl ?_
          refine s_tr0 (t_store 4 rfl rfl rfl rfl size_67 rfl rfl) rfl rfl rfl (fun _ _ => ?_)
          refine s_nil ?_
          refine g_inb ?_
          exact fun act W _ hW => (have hc_ := rf_close2 hq hW2 (((((show Hp w0 W2 ((b12, .cells [.slice A2 t2.length c2, .int .i64 w2, .bool true].toArray 67 (0, 0)) :: (bN, .cells ((s ++ [x]).map (Value.int .i64) ++ jN).toArray 3 (0, 0)) :: (b44, .cells [.int .i64 x].toArray 3 (0, 0)) :: (b11, .cells [.slice ag g.length cg, .slice (some ⟨bN, 0, none⟩) (s.length + 1) capN].toArray 48 (0, 0)) :: (b9, .cells [.slice A3 (t2.length + 1) c3, .int .i64 (w2 + (wrt g (s ++ [x]) s.length)), .bool true].toArray 67 (0, 0)) :: (b7, .cells [.slice none 0 0, .int .i64 0, .bool false].toArray 67 (0, 0)) :: (b6, .cells [.int .i64 (rdI (s.drop (s.length - 3)) 0), .int .i64 (rdI (s.drop (s.length - 3)) 1), .int .i64 (rdI (s.drop (s.length - 3)) 2), .int .i64 (s.length : Int)].toArray 73 (0, 0)) :: (b5, .cells [.int .i64 (s.length : Nat)].toArray 3 (0, 0)) :: (b4, .cells [.slice none 0 0, .int .i64 0, .bool false].toArray 67 (0, 0)) :: (b3, .cells [.map (some mb)].toArray 69 (0, 0)) :: (b2, .cells [.slice ag g.length cg, .slice as_ s.length cs].toArray 48 (0, 0)) :: (mb, .map es2 clock2) :: (((m3 ++ mq2) ++ mq) ++ ([]))) W from hW).tail hb12.2).tail hgeN).tail hb44.2).tail hb11.2) (ids_mq (n := W2.heap.size) (l1 := [(b9, _), (b7, _), (b6, _), (b5, _), (b4, _), (b3, _), (b2, _), (mb, _)]) (l2 := [(b9, .cells [.slice A3 (t2.length + 1) c3, .int .i64 (w2 + (wrt g (s ++ [x]) s.length)), .bool true].toArray 67 (0, 0)), (b7, .cells [.slice none 0 0, .int .i64 0, .bool false].toArray 67 (0, 0)), (b6, .cells [.int .i64 (rdI (s.drop (s.length - 3)) 0), .int .i64 (rdI (s.drop (s.length - 3)) 1), .int .i64 (rdI (s.drop (s.length - 3)) 2), .int .i64 (s.length : Int)].toArray 73 (0, 0)), (b5, .cells [.int .i64 (s.length : Nat)].toArray 3 (0, 0)), (b4, .cells [.slice none 0 0, .int .i64 0, .bool false].toArray 67 (0, 0)), (b3, .cells [.map (some mb)].toArray 69 (0, 0)), (b2, .cells [.slice ag g.length cg, .slice as_ s.length cs].toArray 48 (0, 0)), (mb, .map es2 clock2)]) (mq := mq) (nw := (m3 ++ mq2)) rfl (ge_app hm3 hmq2)).1 (ids_mq (n := W2.heap.size) (l1 := [(b9, _), (b7, _), (b6, _), (b5, _), (b4, _), (b3, _), (b2, _), (mb, _)]) (l2 := [(b9, .cells [.slice A3 (t2.length + 1) c3, .int .i64 (w2 + (wrt g (s ++ [x]) s.length)), .bool true].toArray 67 (0, 0)), (b7, .cells [.slice none 0 0, .int .i64 0, .bool false].toArray 67 (0, 0)), (b6, .cells [.int .i64 (rdI (s.drop (s.length - 3)) 0), .int .i64 (rdI (s.drop (s.length - 3)) 1), .int .i64 (rdI (s.drop (s.length - 3)) 2), .int .i64 (s.length : Int)].toArray 73 (0, 0)), (b5, .cells [.int .i64 (s.length : Nat)].toArray 3 (0, 0)), (b4, .cells [.slice none 0 0, .int .i64 0, .bool false].toArray 67 (0, 0)), (b3, .cells [.map (some mb)].toArray 69 (0, 0)), (b2, .cells [.slice ag g.length cg, .slice as_ s.length cs].toArray 48 (0, 0)), (mb, .map es2 clock2)]) (mq := mq) (nw := (m3 ++ mq2)) rfl (ge_app hm3 hmq2)).2; ⟨hc_.1, _, ⟨some (x :: t2, w2 + wrt g (s ++ [x]) s.length), A3, c3, es2, clock2, ((m3 ++ mq2) ++ mq), (by rw [List.take_add_one, hx, List.foldl_append, ← ho]; simp only [Option.toList, List.foldl_cons, List.foldl_nil, bstep, ho2]), (hO3.mono fun p hp => List.mem_append_left _ (List.mem_append_left _ (List.mem_append_left _ hp))), (hS2.mono fun p hp => by simp only [List.mem_append] at hp ⊢; rcases hp with h_ | h_ | h_ <;> simp [h_]), ge_app (ge_mono (ge_app hm3 hmq2) hsz2) hmq, (isC_app (isC_app hC3 hC2) hmqC), rfl⟩, hc_.2⟩)
        · skip
          show G _ _ ((49, .agg #[.slice A2 t2.length c2, .int .i64 w2, .bool true]) :: _) _ _ ((bN, .cells ((s ++ [x]).map (Value.int .i64) ++ jN).toArray 3 (0, 0)) :: (b44, .cells [.int .i64 x].toArray 3 (0, 0)) :: (b11, .cells [.slice ag g.length cg, .slice (some ⟨bN, 0, none⟩) (s.length + 1) capN].toArray 48 (0, 0)) :: (b9, .cells [.slice Ao t0.length co, .int .i64 w0_, .bool true].toArray 67 (0, 0)) :: (b7, .cells [.slice none 0 0, .int .i64 0, .bool false].toArray 67 (0, 0)) :: (b6, .cells [.int .i64 (rdI (s.drop (s.length - 3)) 0), .int .i64 (rdI (s.drop (s.length - 3)) 1), .int .i64 (rdI (s.drop (s.length - 3)) 2), .int .i64 (s.length : Int)].toArray 73 (0, 0)) :: (b5, .cells [.int .i64 (s.length : Nat)].toArray 3 (0, 0)) :: (b4, .cells [.slice none 0 0, .int .i64 0, .bool false].toArray 67 (0, 0)) :: (b3, .cells [.map (some mb)].toArray 69 (0, 0)) :: (b2, .cells [.slice ag g.length cg, .slice as_ s.length cs].toArray 48 (0, 0)) :: (mb, .map es2 clock2) :: ((mq2 ++ mq) ++ ([]))) _
          refine s_tr (t_alloc zero_67 rfl) rfl rfl rfl rfl (fun b12 hb12 => ?_)
          refine s_tr0 (t_store 0 rfl rfl rfl rfl size_67 rfl rfl) rfl rfl rfl (fun _ _ => ?_)
          refine s_nil ?_
          refine g_then ?_
          refine g_seq ?_
          refine g_draw 7 (by kernel_rfl) ?_
          refine j_p (i := 0) rfl (y_fld rfl (fun w => fld_67_1 _ _ w)) (by kernel_rfl) (by kernel_rfl) (by kernel_rfl) rfl rfl rfl rfl rfl (.inr (fun _ h => h)) ?_
          refine j_l (i := 1) rfl (y_ld1 0 rfl rfl agg_3 rfl) (by kernel_rfl) (by kernel_rfl) (by kernel_rfl) (by kernel_rfl) rfl rfl rfl rfl rfl (.inr (fun _ h => h)) ?_
          refine j_l (i := 2) rfl (y_ldn 3 rfl rfl agg_48 size_48 rfl rfl) (by kernel_rfl) (by kernel_rfl) (by kernel_rfl) (by kernel_rfl) rfl rfl rfl rfl rfl (.inr (fun _ h => h)) ?_
          refine j_l (i := 3) rfl (y_ld1 7 rfl rfl agg_3 rfl) (by kernel_rfl) (by kernel_rfl) (by kernel_rfl) (by kernel_rfl) rfl rfl rfl rfl rfl (.inr (fun _ h => h)) ?_
          refine j_tr (i := 4) rfl (t_call rfl rfl ent_61 (fun w h => by have h_ := worth_any w ag (some ⟨bN, 0, none⟩) cg capN g (s ++ [x]) (hg.keepC (h.toHq.kc hk2 hmb (sd_cons (Nat.le_trans hsz2 hb12.2) (sd_cons (Nat.le_trans hsz2 hgeN) (sd_cons (Nat.le_trans hsz2 hb44.2) (sd_cons (Nat.le_trans hsz2 hb11.2) (sd_cons hb9.2 (sd_cons hb7.2 (sd_cons hb6.2 (sd_cons hb5.2 (sd_cons hb4.2 (sd_cons hb3.2 (sd_cons hb2.2 (sd_mb (sd_all (ge_app (ge_mono hmq2 hsz2) hmq)))))))))))))))) (by rw [hln]; exact RdV.own (jk := jN) (at_of (i := 1) h rfl) hln.symm hokn.1) s.length (by omega) (by omega) (by omega) hgn (notes_snoc hsn hx0 hx1); rw [hln] at h_; exact h_)) (by kernel_rfl) rfl rfl rfl rfl (.inr (fun x w hb h => h)) (fun _ _ => ?_)
          refine j_p (i := 5) rfl (y_add rfl rfl (by omega) (by omega)) (by kernel_rfl) (by kernel_rfl) (by kernel_rfl) rfl rfl rfl rfl rfl (.inr (fun _ h => h)) ?_
          refine j_p (i := 6) rfl (y_assign rfl) (by kernel_rfl) (by kernel_rfl) (by kernel_rfl) rfl rfl rfl rfl rfl (.inr (fun _ h => h)) ?_
          refine j_nil (by kernel_rfl) ?_
          refine g_then ?_
          refine g_seq ?_
          refine g_region ?_
          refine s_y (y_fld rfl (fun w => fld_67_2 _ _ w)) rfl rfl rfl rfl ?_
          refine s_y (y_ld1 0 rfl rfl agg_4 rfl) rfl rfl rfl rfl ?_
          refine s_y (y_move rfl) rfl rfl rfl rfl ?_
          refine s_y (y_fld rfl (fun w => fld_67_2 _ _ w)) rfl rfl rfl rfl ?_
          refine s_y (y_ld1 4 rfl rfl agg_4 rfl) rfl rfl rfl rfl ?_
          refine s_y (y_not_t rfl) rfl rfl rfl rfl ?_
          refine s_y (y_move rfl) rfl rfl rfl rfl ?_
          refine s_y (y_move rfl) rfl rfl rfl rfl ?_
          refine s_y (y_fld rfl (fun w => fld_67_1 _ _ w)) rfl rfl rfl rfl ?_
          refine s_y (y_ld1 4 rfl rfl agg_3 rfl) rfl rfl rfl rfl ?_
          refine s_y (y_gtr rfl rfl) rfl rfl rfl rfl ?_
          refine s_y (y_pick_f rfl rfl) rfl rfl rfl rfl ?_
          refine s_y (y_pick_t rfl rfl) rfl rfl rfl rfl ?_
          refine s_nil ?_
          refine g_then ?_
          refine g_cond rfl (fun cq3 => ?_) (fun cq3 => ?_)
          · (try simp at cq3)
            refine g_region ?_
            refine s_y (y_move rfl) rfl rfl rfl rfl ?_
            refine s_tr (t_build (vs := [(0, .int .i64 x)]) (cells := [.int .i64 x]) rfl rfl Try.underlying22 hi3.1 hi3.2.1 (by rw [hi3.2.2.1]; rfl) (by rw [hi3.2.2.1]; rfl) (by rw [hi3.2.2.1]; kernel_rfl)) rfl rfl rfl rfl (fun b70 hb70 => ?_)
            refine s_y (y_fld rfl (fun w => fld_67_0 _ _ w)) rfl rfl rfl rfl ?_
            refine s_y (y_ld1 1 rfl rfl agg_22 rfl) rfl rfl rfl rfl ?_
            refine s_tr (t_consR (enc := (Value.int .i64)) (x := x) (ys := t2) _ rfl rfl rfl Try.underlying22 hi3.1 hi3.2.1 hi3.2.2.1 hi3.2.2.2 rfl (fun _ => rfl) (fun w h => hO2'.rd (fun p hp => (rows_all h (fun p hp => h.at_ p (List.mem_cons_of_mem _ (List.mem_cons_of_mem _ (List.mem_cons_of_mem _ (List.mem_cons_of_mem _ (List.mem_cons_of_mem _ (List.mem_cons_of_mem _ (List.mem_cons_of_mem _ (List.mem_cons_of_mem _ (List.mem_cons_of_mem _ (List.mem_cons_of_mem _ (List.mem_cons_of_mem _ (List.mem_cons_of_mem _ (List.mem_cons_of_mem _ (mem_al (mq2 ++ mq) hp))))))))))))))) hmm (h.toHq.kc hk2 hmb (sd_cons (Nat.le_trans hsz2 hb70.2) (sd_cons (Nat.le_trans hsz2 hb12.2) (sd_cons (Nat.le_trans hsz2 hgeN) (sd_cons (Nat.le_trans hsz2 hb44.2) (sd_cons (Nat.le_trans hsz2 hb11.2) (sd_cons hb9.2 (sd_cons hb7.2 (sd_cons hb6.2 (sd_cons hb5.2 (sd_cons hb4.2 (sd_cons hb3.2 (sd_cons hb2.2 (sd_mb (sd_all (ge_app (ge_mono hmq2 hsz2) hmq))))))))))))))))) p (by simpa only [List.append_assoc] using hp))) (by omega) (by unfold maxLen; omega) hb70.2) rfl rfl rfl rfl (fun y3 hy3 => ?_)
            obtain ⟨A3, c3, m3⟩ := y3
            obtain ⟨⟨hO3, hC3⟩, hm3⟩ := hy3
            simp only at hO3 hC3 hm3
            refine g_perm' (show ((b12, .cells [.slice A2 t2.length c2, .int .i64 w2, .bool true].toArray 67 (0, 0)) :: (bN, .cells ((s ++ [x]).map (Value.int .i64) ++ jN).toArray 3 (0, 0)) :: (b44, .cells [.int .i64 x].toArray 3 (0, 0)) :: (b11, .cells [.slice ag g.length cg, .slice (some ⟨bN, 0, none⟩) (s.length + 1) capN].toArray 48 (0, 0)) :: (b9, .cells [.slice Ao t0.length co, .int .i64 w0_, .bool true].toArray 67 (0, 0)) :: (b7, .cells [.slice none 0 0, .int .i64 0, .bool false].toArray 67 (0, 0)) :: (b6, .cells [.int .i64 (rdI (s.drop (s.length - 3)) 0), .int .i64 (rdI (s.drop (s.length - 3)) 1), .int .i64 (rdI (s.drop (s.length - 3)) 2), .int .i64 (s.length : Int)].toArray 73 (0, 0)) :: (b5, .cells [.int .i64 (s.length : Nat)].toArray 3 (0, 0)) :: (b4, .cells [.slice none 0 0, .int .i64 0, .bool false].toArray 67 (0, 0)) :: (b3, .cells [.map (some mb)].toArray 69 (0, 0)) :: (b2, .cells [.slice ag g.length cg, .slice as_ s.length cs].toArray 48 (0, 0)) :: (mb, .map es2 clock2) :: (((m3 ++ mq2) ++ mq) ++ ([]))).Perm _ from by have h_ := perm_mv m3 (mq2 ++ mq) [(b12, .cells [.slice A2 t2.length c2, .int .i64 w2, .bool true].toArray 67 (0, 0)), (bN, .cells ((s ++ [x]).map (Value.int .i64) ++ jN).toArray 3 (0, 0)), (b44, .cells [.int .i64 x].toArray 3 (0, 0)), (b11, .cells [.slice ag g.length cg, .slice (some ⟨bN, 0, none⟩) (s.length + 1) capN].toArray 48 (0, 0)), (b9, .cells [.slice Ao t0.length co, .int .i64 w0_, .bool true].toArray 67 (0, 0)), (b7, .cells [.slice none 0 0, .int .i64 0, .bool false].toArray 67 (0, 0)), (b6, .cells [.int .i64 (rdI (s.drop (s.length - 3)) 0), .int .i64 (rdI (s.drop (s.length - 3)) 1), .int .i64 (rdI (s.drop (s.length - 3)) 2), .int .i64 (s.length : Int)].toArray 73 (0, 0)), (b5, .cells [.int .i64 (s.length : Nat)].toArray 3 (0, 0)), (b4, .cells [.slice none 0 0, .int .i64 0, .bool false].toArray 67 (0, 0)), (b3, .cells [.map (some mb)].toArray 69 (0, 0)), (b2, .cells [.slice ag g.length cg, .slice as_ s.length cs].toArray 48 (0, 0)), (mb, .map es2 clock2)]; rw [← List.append_assoc m3] at h_; exact h_) ?_
            refine s_y (y_move rfl) rfl rfl rfl rfl ?_
            refine s_y (y_build (vs := [(0, _), (1, _), (2, _)]) rfl rfl (fun w => bld_67_0_1_2 _ _ _ _ _ w)) rfl rfl rfl rfl ?_
            refine s_tr0 (t_store 4 rfl rfl rfl rfl size_67 rfl rfl) rfl rfl rfl (fun _ _ => ?_)
            refine s_nil ?_
            refine g_inb ?_
            exact fun act W _ hW => (have hc_ := rf_close2 hq hW2 (((((show Hp w0 W2 ((b12, .cells [.slice A2 t2.length c2, .int .i64 w2, .bool true].toArray 67 (0, 0)) :: (bN, .cells ((s ++ [x]).map (Value.int .i64) ++ jN).toArray 3 (0, 0)) :: (b44, .cells [.int .i64 x].toArray 3 (0, 0)) :: (b11, .cells [.slice ag g.length cg, .slice (some ⟨bN, 0, none⟩) (s.length + 1) capN].toArray 48 (0, 0)) :: (b9, .cells [.slice A3 (t2.length + 1) c3, .int .i64 (w2 + (wrt g (s ++ [x]) s.length)), .bool true].toArray 67 (0, 0)) :: (b7, .cells [.slice none 0 0, .int .i64 0, .bool false].toArray 67 (0, 0)) :: (b6, .cells [.int .i64 (rdI (s.drop (s.length - 3)) 0), .int .i64 (rdI (s.drop (s.length - 3)) 1), .int .i64 (rdI (s.drop (s.length - 3)) 2), .int .i64 (s.length : Int)].toArray 73 (0, 0)) :: (b5, .cells [.int .i64 (s.length : Nat)].toArray 3 (0, 0)) :: (b4, .cells [.slice none 0 0, .int .i64 0, .bool false].toArray 67 (0, 0)) :: (b3, .cells [.map (some mb)].toArray 69 (0, 0)) :: (b2, .cells [.slice ag g.length cg, .slice as_ s.length cs].toArray 48 (0, 0)) :: (mb, .map es2 clock2) :: (((m3 ++ mq2) ++ mq) ++ ([]))) W from hW).tail hb12.2).tail hgeN).tail hb44.2).tail hb11.2) (ids_mq (n := W2.heap.size) (l1 := [(b9, _), (b7, _), (b6, _), (b5, _), (b4, _), (b3, _), (b2, _), (mb, _)]) (l2 := [(b9, .cells [.slice A3 (t2.length + 1) c3, .int .i64 (w2 + (wrt g (s ++ [x]) s.length)), .bool true].toArray 67 (0, 0)), (b7, .cells [.slice none 0 0, .int .i64 0, .bool false].toArray 67 (0, 0)), (b6, .cells [.int .i64 (rdI (s.drop (s.length - 3)) 0), .int .i64 (rdI (s.drop (s.length - 3)) 1), .int .i64 (rdI (s.drop (s.length - 3)) 2), .int .i64 (s.length : Int)].toArray 73 (0, 0)), (b5, .cells [.int .i64 (s.length : Nat)].toArray 3 (0, 0)), (b4, .cells [.slice none 0 0, .int .i64 0, .bool false].toArray 67 (0, 0)), (b3, .cells [.map (some mb)].toArray 69 (0, 0)), (b2, .cells [.slice ag g.length cg, .slice as_ s.length cs].toArray 48 (0, 0)), (mb, .map es2 clock2)]) (mq := mq) (nw := (m3 ++ mq2)) rfl (ge_app hm3 hmq2)).1 (ids_mq (n := W2.heap.size) (l1 := [(b9, _), (b7, _), (b6, _), (b5, _), (b4, _), (b3, _), (b2, _), (mb, _)]) (l2 := [(b9, .cells [.slice A3 (t2.length + 1) c3, .int .i64 (w2 + (wrt g (s ++ [x]) s.length)), .bool true].toArray 67 (0, 0)), (b7, .cells [.slice none 0 0, .int .i64 0, .bool false].toArray 67 (0, 0)), (b6, .cells [.int .i64 (rdI (s.drop (s.length - 3)) 0), .int .i64 (rdI (s.drop (s.length - 3)) 1), .int .i64 (rdI (s.drop (s.length - 3)) 2), .int .i64 (s.length : Int)].toArray 73 (0, 0)), (b5, .cells [.int .i64 (s.length : Nat)].toArray 3 (0, 0)), (b4, .cells [.slice none 0 0, .int .i64 0, .bool false].toArray 67 (0, 0)), (b3, .cells [.map (some mb)].toArray 69 (0, 0)), (b2, .cells [.slice ag g.length cg, .slice as_ s.length cs].toArray 48 (0, 0)), (mb, .map es2 clock2)]) (mq := mq) (nw := (m3 ++ mq2)) rfl (ge_app hm3 hmq2)).2; ⟨hc_.1, _, ⟨some (x :: t2, w2 + wrt g (s ++ [x]) s.length), A3, c3, es2, clock2, ((m3 ++ mq2) ++ mq), (by rw [List.take_add_one, hx, List.foldl_append, ← ho]; simp only [Option.toList, List.foldl_cons, List.foldl_nil, bstep, ho2]; rw [if_pos (by omega)]), (hO3.mono fun p hp => List.mem_append_left _ (List.mem_append_left _ (List.mem_append_left _ hp))), (hS2.mono fun p hp => by simp only [List.mem_append] at hp ⊢; rcases hp with h_ | h_ | h_ <;> simp [h_]), ge_app (ge_mono (ge_app hm3 hmq2) hsz2) hmq, (isC_app (isC_app hC3 hC2) hmqC), rfl⟩, hc_.2⟩)
          · (try simp at cq3)
            refine g_skip ?_
            refine g_inb ?_
            exact fun act W _ hW => (have hc_ := rf_close2 hq hW2 (((((show Hp w0 W2 ((b12, .cells [.slice A2 t2.length c2, .int .i64 w2, .bool true].toArray 67 (0, 0)) :: (bN, .cells ((s ++ [x]).map (Value.int .i64) ++ jN).toArray 3 (0, 0)) :: (b44, .cells [.int .i64 x].toArray 3 (0, 0)) :: (b11, .cells [.slice ag g.length cg, .slice (some ⟨bN, 0, none⟩) (s.length + 1) capN].toArray 48 (0, 0)) :: (b9, .cells [.slice Ao t0.length co, .int .i64 w0_, .bool true].toArray 67 (0, 0)) :: (b7, .cells [.slice none 0 0, .int .i64 0, .bool false].toArray 67 (0, 0)) :: (b6, .cells [.int .i64 (rdI (s.drop (s.length - 3)) 0), .int .i64 (rdI (s.drop (s.length - 3)) 1), .int .i64 (rdI (s.drop (s.length - 3)) 2), .int .i64 (s.length : Int)].toArray 73 (0, 0)) :: (b5, .cells [.int .i64 (s.length : Nat)].toArray 3 (0, 0)) :: (b4, .cells [.slice none 0 0, .int .i64 0, .bool false].toArray 67 (0, 0)) :: (b3, .cells [.map (some mb)].toArray 69 (0, 0)) :: (b2, .cells [.slice ag g.length cg, .slice as_ s.length cs].toArray 48 (0, 0)) :: (mb, .map es2 clock2) :: ((mq2 ++ mq) ++ ([]))) W from hW).tail hb12.2).tail hgeN).tail hb44.2).tail hb11.2) (ids_mq (n := W2.heap.size) (l1 := [(b9, _), (b7, _), (b6, _), (b5, _), (b4, _), (b3, _), (b2, _), (mb, _)]) (l2 := [(b9, .cells [.slice Ao t0.length co, .int .i64 w0_, .bool true].toArray 67 (0, 0)), (b7, .cells [.slice none 0 0, .int .i64 0, .bool false].toArray 67 (0, 0)), (b6, .cells [.int .i64 (rdI (s.drop (s.length - 3)) 0), .int .i64 (rdI (s.drop (s.length - 3)) 1), .int .i64 (rdI (s.drop (s.length - 3)) 2), .int .i64 (s.length : Int)].toArray 73 (0, 0)), (b5, .cells [.int .i64 (s.length : Nat)].toArray 3 (0, 0)), (b4, .cells [.slice none 0 0, .int .i64 0, .bool false].toArray 67 (0, 0)), (b3, .cells [.map (some mb)].toArray 69 (0, 0)), (b2, .cells [.slice ag g.length cg, .slice as_ s.length cs].toArray 48 (0, 0)), (mb, .map es2 clock2)]) (mq := mq) (nw := mq2) rfl hmq2).1 (ids_mq (n := W2.heap.size) (l1 := [(b9, _), (b7, _), (b6, _), (b5, _), (b4, _), (b3, _), (b2, _), (mb, _)]) (l2 := [(b9, .cells [.slice Ao t0.length co, .int .i64 w0_, .bool true].toArray 67 (0, 0)), (b7, .cells [.slice none 0 0, .int .i64 0, .bool false].toArray 67 (0, 0)), (b6, .cells [.int .i64 (rdI (s.drop (s.length - 3)) 0), .int .i64 (rdI (s.drop (s.length - 3)) 1), .int .i64 (rdI (s.drop (s.length - 3)) 2), .int .i64 (s.length : Int)].toArray 73 (0, 0)), (b5, .cells [.int .i64 (s.length : Nat)].toArray 3 (0, 0)), (b4, .cells [.slice none 0 0, .int .i64 0, .bool false].toArray 67 (0, 0)), (b3, .cells [.map (some mb)].toArray 69 (0, 0)), (b2, .cells [.slice ag g.length cg, .slice as_ s.length cs].toArray 48 (0, 0)), (mb, .map es2 clock2)]) (mq := mq) (nw := mq2) rfl hmq2).2; ⟨hc_.1, _, ⟨some (t0, w0_), Ao, co, es2, clock2, (mq2 ++ mq), (by rw [List.take_add_one, hx, List.foldl_append, ← ho]; simp only [Option.toList, List.foldl_cons, List.foldl_nil, bstep, ho2]; rw [if_neg (by omega)]), (hOo.mono fun p hp => by rcases List.mem_append.1 hp with h_ | h_; exact List.mem_append_left _ (List.mem_append_right _ h_); exact List.mem_append_right _ h_), (hS2.mono fun p hp => by simp only [List.mem_append] at hp ⊢; rcases hp with h_ | h_ | h_ <;> simp [h_]), ge_app (ge_mono hmq2 hsz2) hmq, (isC_app hC2 hmqC), rfl⟩, hc_.2⟩)
  · skip
    rintro we W Dm _ hwe ⟨o, Ao, co, es', clock', mq, ho, hOo, hSo, hmq, hmqC, rfl⟩ hq hD hW hbk
    have hM : Marks w0 W [{ target := .collected Dm, args := #[] }] := Marks.next (ds := []) (w1 := wE) trivial hwe hbk hD hW
    have hE : ∀ d ∈ [({ target := .collected Dm, args := #[] } : Deferred)], ∀ D, d.target = .collected D → wE.heap.size ≤ D := by intro d_ hd_ D e_; rw [List.mem_singleton] at hd_; subst hd_; cases e_; exact Nat.le_trans hwe.size hD
    have hbkE : Bk wE W := fun k o h ho => hbk k o (hwe.marks k o h ho) ho
    rw [List.take_length] at ho
    have hfin : o = bestR g (kk + 1) s := ho
    have hfin2 : o = bF g s := hfin.trans (by unfold bF; rw [show g.length - s.length = kk + 1 by omega])
    obtain ⟨F', hM_', hFs'⟩ := id hSo
    refine g_inb ?_
    refine g_then ?_
    refine g_seq ?_
    refine g_region ?_
    refine s_y (y_ld1 5 rfl rfl agg_69 rfl) rfl rfl rfl rfl ?_
    refine s_y (y_ldn 2 rfl rfl agg_73 size_73 rfl rfl) rfl rfl rfl rfl ?_
    refine s_y (y_ldn 0 rfl rfl agg_67 size_67 rfl rfl) rfl rfl rfl rfl ?_
    refine s_tr0 (t_putG (k := tailK s) (v := .agg #[.slice Ao (ntO o).length co, .int .i64 (wtO o), .bool o.isSome]) 7 best_map hM_' rfl rfl rfl rfl rfl (tailK_ok hsn (by omega))) rfl rfl rfl (fun y hy => ?_)
    refine s_nil ?_
    refine g_then ?_
    refine g_seq ?_
    refine g_region ?_
    refine s_y (y_ldn 0 rfl rfl agg_67 size_67 rfl rfl) rfl rfl rfl rfl ?_
    refine s_tr0 (t_store 4 rfl rfl rfl rfl size_67 rfl rfl) rfl rfl rfl (fun _ _ => ?_)
    refine s_nil ?_
    refine g_then ?_
    refine g_ret ?_
    exact g_endK hM hE hbkE (fun a w ha hq_ => res_c (c := [.slice Ao (ntO o).length co, .int .i64 (wtO o), .bool o.isSome]) 4 ha hq_ rfl rfl rfl  agg_67 size_67 rfl) (fun w h hb_ => ⟨(Ao, co, y.1, y.2, mq), (by rw [← hfin]; exact ⟨hOo, SoundB.put hFs' hy hsn (by omega) hfin2 hOo, hmqC⟩), hmq, (by rw [← hfin]; rfl), ((((((((hp_close2 hwe hq (show Hq w0 W ((b9, .cells [.slice Ao (ntO o).length co, .int .i64 (wtO o), .bool o.isSome].toArray 67 (0, 0)) :: (b7, .cells [.slice none 0 0, .int .i64 0, .bool false].toArray 67 (0, 0)) :: (b6, .cells [.int .i64 (rdI (s.drop (s.length - 3)) 0), .int .i64 (rdI (s.drop (s.length - 3)) 1), .int .i64 (rdI (s.drop (s.length - 3)) 2), .int .i64 (s.length : Int)].toArray 73 (0, 0)) :: (b5, .cells [.int .i64 (s.length : Nat)].toArray 3 (0, 0)) :: (b4, .cells [.slice Ao (ntO o).length co, .int .i64 (wtO o), .bool o.isSome].toArray 67 (0, 0)) :: (b3, .cells [.map (some mb)].toArray 69 (0, 0)) :: (b2, .cells [.slice ag g.length cg, .slice as_ s.length cs].toArray 48 (0, 0)) :: (mb, .map y.1 y.2) :: (mq ++ ([]))) w from h) hb_ (ids_app (l1 := [(b9, _), (b7, _), (b6, _), (b5, _), (b4, _), (b3, _), (b2, _), (mb, _)]) rfl) (fun _ h_ => h_)).tail hb9.2).tail hb7.2).tail hb6.2).tail hb5.2).tail hb4.2).tail hb3.2).tail hb2.2)⟩)
  · skip
    exact fun _ _ _ _ _ _ _ h => h.elim

end Go.Proofs.Ytolalckejnijkaa
