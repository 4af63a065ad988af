/- duets: parts, First. -/
import Derived.Test.YtolalckejnijkaaDuH
import Derived.Test.YtolalckejnijkaaSxRecB
namespace Go.Proofs.Ytolalckejnijkaa
open Go.RowKit Go.Sx 
set_option linter.unusedVariables false
set_option linter.unusedSimpArgs false
set_option maxRecDepth 100000
set_option maxHeartbeats 4000000

private theorem ent_44 : Enters Try.prog 44 := enters_of Try.func44 (by kernel_rfl) rfl
private theorem size_22 : (Try.prog.info? 22).map (·.size) = some 1 := by kernel_rfl
private theorem zero_4 : (Try.prog.info? 4).bind (·.zero) = some (.bool false) := by kernel_rfl
private theorem fld_48_1 (b off : Nat) (w : World) : (Instr.fieldAt 48 (.pointer (some ⟨b, off, none⟩)) 1).run Try.prog w = .ok (.pointer (some ⟨b, off + 1, none⟩)) w := by kernel_rfl
private theorem agg_22 : isAggB Try.prog 22 = some false := by kernel_rfl
private theorem sle_22 : Try.prog.underlying 22 = some (.slice (Try.prog.elem 22)) := by kernel_rfl
private theorem zero_3 : (Try.prog.info? 3).bind (·.zero) = some (.int .i64 0) := by kernel_rfl
private theorem size_3 : (Try.prog.info? 3).map (·.size) = some 1 := by kernel_rfl
private theorem agg_3 : isAggB Try.prog 3 = some false := by kernel_rfl
private theorem fld_48_0 (b off : Nat) (w : World) : (Instr.fieldAt 48 (.pointer (some ⟨b, off, none⟩)) 0).run Try.prog w = .ok (.pointer (some ⟨b, off, none⟩)) w := by kernel_rfl
private theorem agg_27 : isAggB Try.prog 27 = some false := by kernel_rfl
private theorem ent_53 : Enters Try.prog 53 := enters_of Try.func53 (by kernel_rfl) rfl
private theorem size_4 : (Try.prog.info? 4).map (·.size) = some 1 := by kernel_rfl
private theorem agg_4 : isAggB Try.prog 4 = some false := by kernel_rfl
private theorem agg_48 : isAggB Try.prog 48 = some true := by kernel_rfl
private theorem size_48 : (Try.prog.info? 48).map (·.size) = some 2 := by kernel_rfl
private theorem ent_55 : Enters Try.prog 55 := enters_of Try.func55 (by kernel_rfl) rfl
private theorem inf_3 : ∃ ie, Try.prog.info? 3 = some ie ∧ ie.zero = some (.int .i64 0) ∧ ie.size = 1 ∧ ie.bytes = 8 := info_of (by kernel_rfl) (by kernel_rfl)
private theorem bld_48_0_1 (x0a : Option Addr) (x0n x0c : Nat) (x1a : Option Addr) (x1n x1c : Nat) (w : World) : (Instr.build 48 #[(0, (.slice x0a x0n x0c)), (1, (.slice x1a x1n x1c))]).run Try.prog w = .ok (.agg #[(.slice x0a x0n x0c), (.slice x1a x1n x1c)]) w := by kernel_rfl
private theorem ent_52 : Enters Try.prog 52 := enters_of Try.func52 (by kernel_rfl) rfl
private theorem ent_46 : Enters Try.prog 46 := enters_of Try.func46 (by kernel_rfl) rfl
private theorem zero_22 : (Try.prog.info? 22).bind (·.zero) = some (.slice none 0 0) := by kernel_rfl
private theorem bld_48_0 (x0a : Option Addr) (x0n x0c : Nat) (w : World) : (Instr.build 48 #[(0, (.slice x0a x0n x0c))]).run Try.prog w = .ok (.agg #[(.slice x0a x0n x0c), (.slice none 0 0)]) w := by kernel_rfl

/-- The first right part that begins so, with k notes to come. -/
def fstR (g : List Int) : Nat → List Int → Option (List Int)
  | 0, s => some s
  | k + 1, s => (nxL g s).findSome? fun x => fstR g k (s ++ [x])
theorem take_find {α β : Type} {xs : List α} {h : α → Option β} {k : Nat} {x : α} (hx : xs[k]? = some x) (h0 : (xs.take k).findSome? h = none) : (xs.take (k + 1)).findSome? h = h x := by
  rw [List.take_add_one, hx, List.findSome?_append, h0]; simp
theorem take_hit {α β : Type} {xs : List α} {h : α → Option β} {k : Nat} {x : α} {t : β} (hx : xs[k]? = some x) (h0 : (xs.take k).findSome? h = none) (ht : h x = some t) : xs.findSome? h = some t := by
  have h1 := take_find hx h0
  rw [ht] at h1
  have h2 : xs.findSome? h = (xs.take (k + 1) ++ xs.drop (k + 1)).findSome? h := by rw [List.take_append_drop]
  rw [h2, List.findSome?_append, h1]; rfl
abbrev VM : Type := Value × List (Nat × Obj)
def OwnX (t : List Int) (x : VM) : Prop := OwnV (Value.int .i64) x.1 t x.2 ∧ ∃ W : World, ∀ p ∈ x.2, W.heap[p.1]? = some p.2

theorem Hp.startO {w0 wE : World} {ob : Nat} {oo : Obj} (hb : Below w0.heap.size w0 wE) (hge : w0.heap.size ≤ ob) (hm : wE.heap[ob]? = some oo) (hg : isBook oo = false) : Hp w0 wE [(ob, oo)] wE :=
  ⟨⟨hb, Nat.le_refl _, fun _ _ _ _ => rfl, fun p hp => by rw [List.mem_singleton] at hp; subst hp; exact hm, fun p hp => by rw [List.mem_singleton] at hp; subst hp; exact hge, by simp, fun p hp => by rw [List.mem_singleton] at hp; subst hp; exact hg⟩, fun _ _ h _ => h⟩

theorem fst1_any (as_ : Option Addr) (cs : Nat) (s : List Int) (ob : Nat) (w0 wE : World) (hl : s.length ≤ 1000) (hs : RdV (Value.int .i64) wE (.slice as_ s.length cs) s) (hb0 : Below w0.heap.size w0 wE) (hge : w0.heap.size ≤ ob) (hob : wE.heap[ob]? = some (.cells [Value.slice none 0 0].toArray 22 (0, 0))) :
    Calls Try.prog 53 [.slice as_ s.length cs, .pointer (some ⟨ob, 0, none⟩)].toArray wE fun e w' => ∃ x : VM, OwnX s x ∧ (∀ p ∈ x.2, wE.heap.size ≤ p.1) ∧ e = .returned (.bool false) ∧ Hp w0 wE ((ob, .cells [x.1].toArray 22 (0, 0)) :: (x.2 ++ [])) w' := by
  refine enterM (N := 6) Try.func53 rfl rfl rfl (Hp.startO hb0 hge hob rfl) ?_
  refine g_seq ?_
  refine g_region ?_
  refine s_y (y_assign rfl) rfl rfl rfl rfl ?_
  refine s_nil ?_
  refine g_then ?_
  refine g_seq ?_
  refine g_region ?_
  refine s_y (y_move rfl) rfl rfl rfl rfl ?_
  refine s_tr (t_callm (A := fun x : VM => OwnX s x ∧ ∀ p ∈ x.2, wE.heap.size ≤ p.1) (vf := fun x => x.1) (mm := fun x => x.2) rfl rfl ent_44 (fun w h => (Clone_any w _ s (hs.keepC (h.toHq.kcO (KeepC.refl _) hob (so_ob so_nil))) (by omega)).mono fun e w' ⟨x, h1, h2, h3⟩ => ⟨x, ⟨h1, fun p hp => Nat.le_trans h.size (h3.ge p hp)⟩, h2, h3⟩)) rfl rfl rfl rfl (fun xo hxo => ?_)
  obtain ⟨vo, mo⟩ := xo
  obtain ⟨⟨hOo, hEo⟩, hmm⟩ := hxo
  refine g_perm' (show ((ob, Obj.cells [Value.slice none 0 0].toArray 22 (0, 0)) :: (mo ++ [])).Perm _ from by simpa only [List.append_nil, List.cons_append, List.nil_append] using (List.perm_append_comm (l₁ := [_]) (l₂ := mo))) ?_
  refine s_tr0 (t_store 0 rfl rfl rfl hOo.cells1 size_22 rfl (by simp [hOo.one])) rfl rfl rfl (fun _ _ => ?_)
  refine s_nil ?_
  refine g_then ?_
  refine g_seq ?_
  refine g_region ?_
  refine s_y (y_assign rfl) rfl rfl rfl rfl ?_
  refine s_nil ?_
  refine g_then ?_
  refine g_ret ?_
  exact g_end0 (fun a w ha hq_ => res1 ha rfl rfl  w) (fun w h => ⟨(vo, mo), ⟨hOo, hEo⟩, hmm, rfl, h⟩)

def PartsAt (g : List Int) (k : Nat) : Prop := ∀ (ag as_ : Option Addr) (cg cs : Nat) (s : List Int) (ob : Nat) (w0 wE : World), s.length + k = g.length → (∀ x ∈ s, 0 ≤ x ∧ x ≤ 20) → Below w0.heap.size w0 wE → w0.heap.size ≤ ob → wE.heap[ob]? = some (.cells [Value.slice none 0 0].toArray 22 (0, 0)) → RdV (Value.int .i64) wE (.slice ag g.length cg) g → RdV (Value.int .i64) wE (.slice as_ s.length cs) s →
    Calls Try.prog 52 [.agg #[.slice ag g.length cg, .slice as_ s.length cs], (.func (.func 53) #[] #[.pointer (some ⟨ob, 0, none⟩)])].toArray wE fun e w' => ∃ b : Bool, e = .returned (.bool b) ∧ ((b = true ∧ fstR g (k) s = none ∧ Hp w0 wE [(ob, .cells [Value.slice none 0 0].toArray 22 (0, 0))] w') ∨ (b = false ∧ ∃ (t : List Int) (x : VM), fstR g (k) s = some t ∧ OwnX t x ∧ (∀ p ∈ x.2, wE.heap.size ≤ p.1) ∧ Hp w0 wE ((ob, .cells [x.1].toArray 22 (0, 0)) :: (x.2 ++ [])) w'))

theorem g_endnK {N : Nat} {ds : List Deferred} {l : List (Nat × Value)} {w0 w1 : World} {m : List (Nat × Obj)} {P : Program} {wE : World} {fn : Func} {R : Ending → World → Prop} {v : Value} (hM : Marks w0 w1 ds) (hE : ∀ d ∈ ds, ∀ D, d.target = .collected D → wE.heap.size ≤ D) (hb : Bk wE w1) (hres : ∀ a w, Has N ds l a → Hq w0 w1 m w → (results fn a.tmps).run P w = .ok v w) (hR : ∀ w, Hq w0 w1 m w → Bk wE w → R (.returned v) w) :
    G N ds l w0 w1 m (bodyPostM (Wd none) 0 P fn R .normal) := g_endK hM hE hb hres hR

theorem parts_full (ag as_ : Option Addr) (cg cs : Nat) (g s : List Int) (ob : Nat) (w0 wE : World) (kk : Nat) (hle : s.length + 0 = g.length) (hgl : g.length ≤ 8) (hgn : ∀ x ∈ g, 0 ≤ x ∧ x ≤ 20) (hsn : ∀ x ∈ s, 0 ≤ x ∧ x ≤ 20) (hb0 : Below w0.heap.size w0 wE) (hge : w0.heap.size ≤ ob) (hob : wE.heap[ob]? = some (.cells [Value.slice none 0 0].toArray 22 (0, 0))) (hg : RdV (Value.int .i64) wE (.slice ag g.length cg) g) (hs : RdV (Value.int .i64) wE (.slice as_ s.length cs) s)  :
    Calls Try.prog 52 [.agg #[.slice ag g.length cg, .slice as_ s.length cs], (.func (.func 53) #[] #[.pointer (some ⟨ob, 0, none⟩)])].toArray wE fun e w' => ∃ b : Bool, e = .returned (.bool b) ∧ ((b = true ∧ fstR g (0) s = none ∧ Hp w0 wE [(ob, .cells [Value.slice none 0 0].toArray 22 (0, 0))] w') ∨ (b = false ∧ ∃ (t : List Int) (x : VM), fstR g (0) s = some t ∧ OwnX t x ∧ (∀ p ∈ x.2, wE.heap.size ≤ p.1) ∧ Hp w0 wE ((ob, .cells [x.1].toArray 22 (0, 0)) :: (x.2 ++ [])) w')) := by
  refine enterM (N := 36) Try.func52 rfl rfl rfl (Hp.startO hb0 hge hob rfl) ?_
  refine g_seq ?_
  refine g_region ?_
  refine s_tr (t_box rfl rfl) rfl rfl rfl rfl (fun b2 hb2 => ?_)
  refine s_tr (t_box rfl rfl) rfl rfl rfl rfl (fun b3 hb3 => ?_)
  refine s_tr (t_alloc zero_4 rfl) rfl rfl rfl rfl (fun b4 hb4 => ?_)
  refine s_nil ?_
  refine g_then ?_
  refine g_seq ?_
  refine g_region ?_
  refine s_y (y_fld rfl (fun w => fld_48_1 _ _ w)) rfl rfl rfl rfl ?_
  refine s_y (y_ld1 2 rfl rfl agg_22 rfl) rfl rfl rfl rfl ?_
  refine s_y (y_lenV (n := s.length) rfl (by obtain ⟨A, c, h1, _⟩ := hs; exact ⟨A, c, h1⟩) sle_22) rfl rfl rfl rfl ?_
  refine s_tr (t_alloc zero_3 rfl) rfl rfl rfl rfl (fun b5 hb5 => ?_)
  refine s_tr0 (t_store 0 rfl rfl rfl rfl size_3 rfl rfl) rfl rfl rfl (fun _ _ => ?_)
  refine s_nil ?_
  refine g_then ?_
  refine g_seq ?_
  refine g_seq ?_
  refine g_region ?_
  refine s_y (y_ld1 0 rfl rfl agg_3 rfl) rfl rfl rfl rfl ?_
  refine s_y (y_fld rfl (fun w => fld_48_0 _ _ w)) rfl rfl rfl rfl ?_
  refine s_y (y_ld1 3 rfl rfl agg_22 rfl) rfl rfl rfl rfl ?_
  refine s_y (y_lenV (n := g.length) rfl (by obtain ⟨A, c, h1, _⟩ := hg; exact ⟨A, c, h1⟩) sle_22) rfl rfl rfl rfl ?_
  refine s_y (y_eql_t rfl rfl (by omega)) rfl rfl rfl rfl ?_
  refine s_nil ?_
  refine g_then ?_
  refine g_cond_t rfl ?_
  refine g_seq ?_
  refine g_region ?_
  refine s_y (y_ld1 2 rfl rfl agg_27 rfl) rfl rfl rfl rfl ?_
  refine s_y (y_fld rfl (fun w => fld_48_1 _ _ w)) rfl rfl rfl rfl ?_
  refine s_y (y_ld1 3 rfl rfl agg_22 rfl) rfl rfl rfl rfl ?_
  refine s_tr (t_callK2 (A := fun x : VM => OwnX s x) (fo := fun x => .cells [x.1].toArray 22 (0, 0)) (mm := fun x => x.2) (v := .bool false) (cap := [.pointer (some ⟨ob, 0, none⟩)]) 4 rfl rfl rfl ent_53 (fun w h => fst1_any as_ cs s ob w0 w (by omega) (hs.keepC (h.toHq.kcO (KeepC.refl _) hob (so_cons hb5.2 (so_cons hb4.2 (so_cons hb3.2 (so_cons hb2.2 (so_ob so_nil))))))) h.below hge (at_of (i := 4) h rfl))) rfl rfl rfl rfl (fun x hx => ?_)
  refine s_tr0 (t_store 1 rfl rfl rfl rfl size_4 rfl rfl) rfl rfl rfl (fun _ _ => ?_)
  refine s_nil ?_
  refine g_then ?_
  refine g_ret ?_
  refine g_thenr ?_
  exact g_end0 (fun a w ha hq_ => res_cell 1 ha hq_ rfl rfl rfl agg_4) (fun w h => ⟨false, rfl, .inr ⟨rfl, s, x, rfl, hx.1, hx.2, (((((show Hp w0 wE ((b5, .cells [.int .i64 (s.length : Nat)].toArray 3 (0, 0)) :: (b4, .cells [.bool false].toArray 4 (0, 0)) :: (b3, .cells [(.func (.func 53) #[] #[.pointer (some ⟨ob, 0, none⟩)])].toArray 27 (0, 0)) :: (b2, .cells [.slice ag g.length cg, .slice as_ s.length cs].toArray 48 (0, 0)) :: (ob, .cells [x.1].toArray 22 (0, 0)) :: (x.2 ++ ([]))) w from h).tail hb5.2).tail hb4.2).tail hb3.2).tail hb2.2)⟩⟩)

theorem parts_new (ag as_ : Option Addr) (cg cs : Nat) (g s : List Int) (ob : Nat) (w0 wE : World) (kk : Nat) (hle : s.length + (kk + 1) = g.length) (hgl : g.length ≤ 8) (hgn : ∀ x ∈ g, 0 ≤ x ∧ x ≤ 20) (hsn : ∀ x ∈ s, 0 ≤ x ∧ x ≤ 20) (hb0 : Below w0.heap.size w0 wE) (hge : w0.heap.size ≤ ob) (hob : wE.heap[ob]? = some (.cells [Value.slice none 0 0].toArray 22 (0, 0))) (hg : RdV (Value.int .i64) wE (.slice ag g.length cg) g) (hs : RdV (Value.int .i64) wE (.slice as_ s.length cs) s) (IH : PartsAt g kk) :
    Calls Try.prog 52 [.agg #[.slice ag g.length cg, .slice as_ s.length cs], (.func (.func 53) #[] #[.pointer (some ⟨ob, 0, none⟩)])].toArray wE fun e w' => ∃ b : Bool, e = .returned (.bool b) ∧ ((b = true ∧ fstR g ((kk + 1)) s = none ∧ Hp w0 wE [(ob, .cells [Value.slice none 0 0].toArray 22 (0, 0))] w') ∨ (b = false ∧ ∃ (t : List Int) (x : VM), fstR g ((kk + 1)) s = some t ∧ OwnX t x ∧ (∀ p ∈ x.2, wE.heap.size ≤ p.1) ∧ Hp w0 wE ((ob, .cells [x.1].toArray 22 (0, 0)) :: (x.2 ++ [])) w')) := by
  obtain ⟨ie3, hi3⟩ := inf_3
  refine enterM (N := 36) Try.func52 rfl rfl rfl (Hp.startO hb0 hge hob rfl) ?_
  refine g_seq ?_
  refine g_region ?_
  refine s_tr (t_box rfl rfl) rfl rfl rfl rfl (fun b2 hb2 => ?_)
  refine s_tr (t_box rfl rfl) rfl rfl rfl rfl (fun b3 hb3 => ?_)
  refine s_tr (t_alloc zero_4 rfl) rfl rfl rfl rfl (fun b4 hb4 => ?_)
  refine s_nil ?_
  refine g_then ?_
  refine g_seq ?_
  refine g_region ?_
  refine s_y (y_fld rfl (fun w => fld_48_1 _ _ w)) rfl rfl rfl rfl ?_
  refine s_y (y_ld1 2 rfl rfl agg_22 rfl) rfl rfl rfl rfl ?_
  refine s_y (y_lenV (n := s.length) rfl (by obtain ⟨A, c, h1, _⟩ := hs; exact ⟨A, c, h1⟩) sle_22) rfl rfl rfl rfl ?_
  refine s_tr (t_alloc zero_3 rfl) rfl rfl rfl rfl (fun b5 hb5 => ?_)
  refine s_tr0 (t_store 0 rfl rfl rfl rfl size_3 rfl rfl) rfl rfl rfl (fun _ _ => ?_)
  refine s_nil ?_
  refine g_then ?_
  refine g_seq ?_
  refine g_seq ?_
  refine g_region ?_
  refine s_y (y_ld1 0 rfl rfl agg_3 rfl) rfl rfl rfl rfl ?_
  refine s_y (y_fld rfl (fun w => fld_48_0 _ _ w)) rfl rfl rfl rfl ?_
  refine s_y (y_ld1 3 rfl rfl agg_22 rfl) rfl rfl rfl rfl ?_
  refine s_y (y_lenV (n := g.length) rfl (by obtain ⟨A, c, h1, _⟩ := hg; exact ⟨A, c, h1⟩) sle_22) rfl rfl rfl rfl ?_
  refine s_y (y_eql_f rfl rfl (by omega)) rfl rfl rfl rfl ?_
  refine s_nil ?_
  refine g_then ?_
  refine g_cond_f rfl ?_
  refine g_skip ?_
  refine g_then ?_
  refine g_seq ?_
  refine g_seq ?_
  refine g_region ?_
  refine s_y (y_ldn 3 rfl rfl agg_48 size_48 rfl rfl) rfl rfl rfl rfl ?_
  refine s_y (y_func rfl rfl) rfl rfl rfl rfl ?_
  refine s_nil ?_
  refine g_then ?_
  refine g_block ?_
  refine g_rangeF (gf := 55) (fs := [.agg #[.slice ag g.length cg, .slice as_ s.length cs]]) (lb := []) (encs := (fun x : Int => [.int .i64 x])) (xs := nxL g s) rfl ent_55 (fun _ => rfl) (by decide) (fun _ W => RdV (Value.int .i64) W (.slice ag g.length cg) g ∧ RdV (Value.int .i64) W (.slice as_ s.length cs) s)
    (fun k m' => ((nxL g s).take k).findSome? (fun y => fstR g kk (s ++ [y])) = none ∧ m' = (b5, .cells [.int .i64 (s.length : Nat)].toArray 3 (0, 0)) :: (b4, .cells [.bool false].toArray 4 (0, 0)) :: (b3, .cells [(.func (.func 53) #[] #[.pointer (some ⟨ob, 0, none⟩)])].toArray 27 (0, 0)) :: (b2, .cells [.slice ag g.length cg, .slice as_ s.length cs].toArray 48 (0, 0)) :: (ob, .cells [.slice none 0 0].toArray 22 (0, 0)) :: [])
    (fun c k m' => c = .ret ∧ ∃ (t : List Int) (x : VM), fstR g (kk + 1) s = some t ∧ OwnX t x ∧ (∀ p ∈ x.2, wE.heap.size ≤ p.1) ∧ m' = (b5, .cells [.int .i64 (s.length : Nat)].toArray 3 (0, 0)) :: (b4, .cells [.bool false].toArray 4 (0, 0)) :: (b3, .cells [(.func (.func 53) #[] #[.pointer (some ⟨ob, 0, none⟩)])].toArray 27 (0, 0)) :: (b2, .cells [.slice ag g.length cg, .slice as_ s.length cs].toArray 48 (0, 0)) :: (ob, .cells [x.1].toArray 22 (0, 0)) :: (x.2 ++ ([]))) (fun we hwe => next_iter ag as_ cg cs g s (by omega) (by omega) hgn hsn)
    (by rintro we k _ W hwe ⟨ho, rfl⟩ h; have hk1 := h.kcO (hwe.toHq.kcO (KeepC.refl _) hob (so_cons hb5.2 (so_cons hb4.2 (so_cons hb3.2 (so_cons hb2.2 (so_ob so_nil)))))) hob (so_cons hb5.2 (so_cons hb4.2 (so_cons hb3.2 (so_cons hb2.2 (so_ob so_nil))))); exact ⟨hg.keepC hk1, hs.keepC hk1⟩) ⟨rfl, rfl⟩ ?_ ?_ ?_
  · skip
    rintro we W1 hwe lp k x _ hx ⟨ho, rfl⟩ hq K hK
    obtain ⟨hx0, hx1, hxb⟩ := nxL_mem (List.mem_of_getElem? hx)
    refine g_region ?_
    refine s_y (y_assign rfl) rfl rfl rfl rfl ?_
    refine s_nil ?_
    refine g_then ?_
    refine hK _ _ (fun W2 hW2 => ?_)
    have hk2 : KeepC wE W2 := hW2.kcO (hq.kcO (hwe.toHq.kcO (KeepC.refl _) hob (so_cons hb5.2 (so_cons hb4.2 (so_cons hb3.2 (so_cons hb2.2 (so_ob so_nil)))))) hob (so_cons hb5.2 (so_cons hb4.2 (so_cons hb3.2 (so_cons hb2.2 (so_ob so_nil)))))) hob (so_cons hb5.2 (so_cons hb4.2 (so_cons hb3.2 (so_cons hb2.2 (so_ob so_nil)))))
    have hsz2 : wE.heap.size ≤ W2.heap.size := Nat.le_trans hwe.size (Nat.le_trans hq.size hW2.size)
    obtain ⟨hcp, hvf⟩ := full_of hs
    refine g_block ?_
    refine g_seq ?_
    refine g_draw 12 (by kernel_rfl) ?_
    refine j_p (i := 0) rfl (y_fld rfl (fun w => fld_48_0 _ _ w)) (by kernel_rfl) (by kernel_rfl) (by kernel_rfl) rfl rfl rfl rfl rfl (.inr (fun _ h => h)) ?_
    refine j_l (i := 1) rfl (y_ld1 3 rfl rfl agg_22 rfl) (by kernel_rfl) (by kernel_rfl) (by kernel_rfl) (by kernel_rfl) rfl rfl rfl rfl rfl (.inr (fun _ h => h)) ?_
    refine j_p (i := 2) rfl (y_fld rfl (fun w => fld_48_1 _ _ w)) (by kernel_rfl) (by kernel_rfl) (by kernel_rfl) rfl rfl rfl rfl rfl (.inr (fun _ h => h)) ?_
    refine j_l (i := 3) rfl (y_ld1 3 rfl rfl agg_22 rfl) (by kernel_rfl) (by kernel_rfl) (by kernel_rfl) (by kernel_rfl) rfl rfl rfl rfl rfl (.inr (fun _ h => h)) ?_
    refine j_l (i := 4) rfl (y_ld1 0 rfl rfl agg_3 rfl) (by kernel_rfl) (by kernel_rfl) (by kernel_rfl) (by kernel_rfl) rfl rfl rfl rfl rfl (.inr (fun _ h => h)) ?_
    refine j_l (i := 5) rfl (y_ld1 0 rfl rfl agg_3 rfl) (by kernel_rfl) (by kernel_rfl) (by kernel_rfl) (by kernel_rfl) rfl rfl rfl rfl rfl (.inr (fun _ h => h)) ?_
    refine j_p (i := 6) rfl (y_full rfl rfl rfl hcp Try.underlying22 hi3.1 hi3.2.2.1) (by kernel_rfl) (by kernel_rfl) (by kernel_rfl) rfl rfl rfl rfl rfl (.inr (fun _ h => h)) ?_
    refine j_p (i := 7) rfl (y_move rfl) (by kernel_rfl) (by kernel_rfl) (by kernel_rfl) rfl rfl rfl rfl rfl (.inr (fun _ h => h)) ?_
    refine j_l (i := 11) rfl (y_ld1 2 rfl rfl agg_27 rfl) (by kernel_rfl) (by kernel_rfl) (by kernel_rfl) (by kernel_rfl) rfl rfl rfl rfl rfl (.inr (fun _ h => h)) ?_
    refine j_tr (i := 8) rfl (t_build (vs := [(0, .int .i64 x)]) (cells := [.int .i64 x]) rfl rfl Try.underlying22 hi3.1 hi3.2.1 (by rw [hi3.2.2.1]; rfl) (by rw [hi3.2.2.1]; rfl) (by rw [hi3.2.2.1]; kernel_rfl)) (by kernel_rfl) rfl rfl rfl rfl (.inr (fun x w hb h => (h.tail hb.2))) (fun b30 hb30 => ?_)
    refine j_tr (i := 9) rfl (t_appendN (enc := (Value.int .i64)) (xs := s) (v := x) rfl rfl Try.underlying22 hi3.1 hi3.2.1 hi3.2.2.1 hi3.2.2.2 rfl (fun w h => hvf.keepC (h.toHq.kcO hk2 hob (so_cons (Nat.le_trans hsz2 hb30.2) (so_cons hb5.2 (so_cons hb4.2 (so_cons hb3.2 (so_cons hb2.2 (so_ob so_nil)))))))) (fun w h => h.toHq.cell (i := 0) rfl rfl) rfl (by omega) (by unfold maxLen; omega)) (by kernel_rfl) rfl rfl rfl rfl (.inr (fun x w hb h => ((sv_tail hb.2 h).tail hb30.2))) (fun svn hokn' => ?_)
    obtain ⟨hokn, bN, capN, jN, rfl, hgeN⟩ := hokn'
    have hln : (s ++ [x]).length = s.length + 1 := by simp
    refine j_p (i := 10) rfl (y_build (vs := [(0, _), (1, _)]) rfl rfl (fun w => bld_48_0_1 _ _ _ _ _ _ w)) (by kernel_rfl) (by kernel_rfl) (by kernel_rfl) rfl rfl rfl rfl rfl (.inr (fun _ h => ((h.tail hgeN).tail hb30.2))) ?_
    refine j_tr (i := 12) rfl (t_call2 (P1 := fstR g kk (s ++ [x]) = none) (A2 := fun y : List Int × VM => fstR g kk (s ++ [x]) = some y.1 ∧ OwnX y.1 y.2) (fo := fun y => .cells [y.2.1].toArray 22 (0, 0)) (mm := fun y => y.2.2) 6 rfl rfl rfl ent_52 (fun w h => ?_)) (by kernel_rfl) rfl rfl rfl rfl (.inl rfl) (fun q_ hq_ => ?_)
    · skip
      have h_ := IH ag (some ⟨bN, 0, none⟩) cg capN (s ++ [x]) ob w0 w (by omega) (notes_snoc hsn hx0 hx1) h.below hge (at_of (i := 6) h rfl) (hg.keepC (h.toHq.kcO hk2 hob (so_cons (Nat.le_trans hsz2 hgeN) (so_cons (Nat.le_trans hsz2 hb30.2) (so_cons hb5.2 (so_cons hb4.2 (so_cons hb3.2 (so_cons hb2.2 (so_ob so_nil))))))))) (by rw [hln]; exact RdV.own (jk := jN) (at_of (i := 0) h rfl) hln.symm hokn.1)
      rw [hln] at h_
      exact h_.mono fun e w' ⟨bb, he, hh⟩ => ⟨bb, he, hh.imp id fun ⟨h1, t3, x3, h2, h3, h4, h5⟩ => ⟨h1, (t3, x3), ⟨h2, h3⟩, h4, h5⟩⟩
    rcases q_ with _ | ⟨t2, v2, m2⟩
    · skip
      have hr1 : fstR g kk (s ++ [x]) = none := hq_
      dsimp only
      refine j_p (i := 13) rfl (y_not_t rfl) (by kernel_rfl) (by kernel_rfl) (by kernel_rfl) rfl rfl rfl rfl rfl (.inl rfl) ?_
      refine j_nil (by kernel_rfl) ?_
      refine g_then ?_
      refine g_cond_f rfl ?_
      refine g_skip ?_
      refine g_inb ?_
      exact fun act W _ hW => (have hc_ := rf_close hq hW2 (((show Hp w0 W2 ((bN, .cells ((s ++ [x]).map (Value.int .i64) ++ jN).toArray 3 (0, 0)) :: (b30, .cells [.int .i64 x].toArray 3 (0, 0)) :: (b5, .cells [.int .i64 (s.length : Nat)].toArray 3 (0, 0)) :: (b4, .cells [.bool false].toArray 4 (0, 0)) :: (b3, .cells [(.func (.func 53) #[] #[.pointer (some ⟨ob, 0, none⟩)])].toArray 27 (0, 0)) :: (b2, .cells [.slice ag g.length cg, .slice as_ s.length cs].toArray 48 (0, 0)) :: (ob, .cells [.slice none 0 0].toArray 22 (0, 0)) :: []) W from hW).tail hgeN).tail hb30.2) rfl rfl; ⟨hc_.1, _, ⟨(take_find hx ho).trans hr1, rfl⟩, hc_.2⟩)
    · skip
      have hx2 : (fstR g kk (s ++ [x]) = some t2 ∧ OwnX t2 (v2, m2)) ∧ ∀ p ∈ m2, W2.heap.size ≤ p.1 := hq_
      dsimp only
      refine j_p (i := 13) rfl (y_not_f rfl) (by kernel_rfl) (by kernel_rfl) (by kernel_rfl) rfl rfl rfl rfl rfl (.inl rfl) ?_
      refine j_nil (by kernel_rfl) ?_
      refine g_then ?_
      refine g_cond_t rfl ?_
      refine g_seq ?_
      refine g_region ?_
      refine s_tr0 (t_store 3 rfl rfl rfl rfl size_4 rfl rfl) rfl rfl rfl (fun _ _ => ?_)
      refine s_nil ?_
      refine g_then ?_
      refine g_ret ?_
      refine g_inbr ?_
      exact fun act W _ hW => (have hc_ := rf_close2 hq hW2 (((show Hp w0 W2 ((bN, .cells ((s ++ [x]).map (Value.int .i64) ++ jN).toArray 3 (0, 0)) :: (b30, .cells [.int .i64 x].toArray 3 (0, 0)) :: (b5, .cells [.int .i64 (s.length : Nat)].toArray 3 (0, 0)) :: (b4, .cells [.bool false].toArray 4 (0, 0)) :: (b3, .cells [(.func (.func 53) #[] #[.pointer (some ⟨ob, 0, none⟩)])].toArray 27 (0, 0)) :: (b2, .cells [.slice ag g.length cg, .slice as_ s.length cs].toArray 48 (0, 0)) :: (ob, .cells [v2].toArray 22 (0, 0)) :: (m2 ++ ([]))) W from hW).tail hgeN).tail hb30.2) (by intro z_ hz_; simp only [List.map_cons, List.map_append, List.map_nil, List.mem_cons, List.mem_append, List.not_mem_nil, or_false] at hz_ ⊢; omega) (mm_ids (l1 := [(b5, .cells [.int .i64 (s.length : Nat)].toArray 3 (0, 0)), (b4, .cells [.bool false].toArray 4 (0, 0)), (b3, .cells [(.func (.func 53) #[] #[.pointer (some ⟨ob, 0, none⟩)])].toArray 27 (0, 0)), (b2, .cells [.slice ag g.length cg, .slice as_ s.length cs].toArray 48 (0, 0)), (ob, .cells [v2].toArray 22 (0, 0))]) hx2.2 rfl); ⟨hc_.1, _, ⟨rfl, t2, (v2, m2), take_hit hx ho hx2.1.1, hx2.1.2, fun p hp => Nat.le_trans hsz2 (hx2.2 p hp), rfl⟩, hc_.2⟩)
  · skip
    rintro we W Dm _ hwe ⟨ho, rfl⟩ hq hD hW hbk
    have hM : Marks w0 W [{ target := .collected Dm, args := #[] }] := Marks.next (ds := []) (w1 := wE) trivial hwe hbk hD hW
    have hE : ∀ d ∈ [({ target := .collected Dm, args := #[] } : Deferred)], ∀ D, d.target = .collected D → wE.heap.size ≤ D := by intro d_ hd_ D e_; rw [List.mem_singleton] at hd_; subst hd_; cases e_; exact Nat.le_trans hwe.size hD
    have hbkE : Bk wE W := fun k o h ho => hbk k o (hwe.marks k o h ho) ho
    rw [List.take_length] at ho
    refine g_inb ?_
    refine g_then ?_
    refine g_seq ?_
    refine g_region ?_
    refine s_tr0 (t_store 1 rfl rfl rfl rfl size_4 rfl rfl) rfl rfl rfl (fun _ _ => ?_)
    refine s_nil ?_
    refine g_then ?_
    refine g_ret ?_
    exact g_endnK hM hE hbkE (fun a w ha hq_ => res_cell 1 ha hq_ rfl rfl rfl agg_4) (fun w h hb_ => ⟨true, rfl, .inl ⟨rfl, ho, (((((hp_close hwe hq (show Hq w0 W ((b5, .cells [.int .i64 (s.length : Nat)].toArray 3 (0, 0)) :: (b4, .cells [.bool true].toArray 4 (0, 0)) :: (b3, .cells [(.func (.func 53) #[] #[.pointer (some ⟨ob, 0, none⟩)])].toArray 27 (0, 0)) :: (b2, .cells [.slice ag g.length cg, .slice as_ s.length cs].toArray 48 (0, 0)) :: (ob, .cells [.slice none 0 0].toArray 22 (0, 0)) :: []) w from h) hb_ rfl rfl).tail hb5.2).tail hb4.2).tail hb3.2).tail hb2.2)⟩⟩)
  · skip
    rintro we W Dm _ k _ hwe ⟨rfl, t, x, hft, hox, hxm, rfl⟩ hq hD hW hbk
    have hM : Marks w0 W [{ target := .collected Dm, args := #[] }] := Marks.next (ds := []) (w1 := wE) trivial hwe hbk hD hW
    have hE : ∀ d ∈ [({ target := .collected Dm, args := #[] } : Deferred)], ∀ D, d.target = .collected D → wE.heap.size ≤ D := by intro d_ hd_ D e_; rw [List.mem_singleton] at hd_; subst hd_; cases e_; exact Nat.le_trans hwe.size hD
    have hbkE : Bk wE W := fun k o h ho => hbk k o (hwe.marks k o h ho) ho
    refine g_ret ?_
    refine g_inbr ?_
    refine g_thenr ?_
    exact g_endK hM hE hbkE (fun a w ha hq_ => res_cell 1 ha hq_ rfl rfl rfl agg_4) (fun w h hb_ => ⟨false, rfl, .inr ⟨rfl, t, x, hft, hox, hxm, (((((hp_close2 hwe hq (show Hq w0 W ((b5, .cells [.int .i64 (s.length : Nat)].toArray 3 (0, 0)) :: (b4, .cells [.bool false].toArray 4 (0, 0)) :: (b3, .cells [(.func (.func 53) #[] #[.pointer (some ⟨ob, 0, none⟩)])].toArray 27 (0, 0)) :: (b2, .cells [.slice ag g.length cg, .slice as_ s.length cs].toArray 48 (0, 0)) :: (ob, .cells [x.1].toArray 22 (0, 0)) :: (x.2 ++ ([]))) w from h) hb_ (ids_app (l1 := [(b5, _), (b4, _), (b3, _), (b2, _), (ob, _)]) rfl) (fun _ h_ => h_)).tail hb5.2).tail hb4.2).tail hb3.2).tail hb2.2)⟩⟩)

theorem parts_any {g : List Int} (hgl : g.length ≤ 8) (hgn : ∀ x ∈ g, 0 ≤ x ∧ x ≤ 20) : ∀ k, PartsAt g k
  | 0 => fun ag as_ cg cs s ob w0 wE hle hsn hb0 hge hob hg hs => parts_full ag as_ cg cs g s ob w0 wE 0 hle hgl hgn hsn hb0 hge hob hg hs
  | kk + 1 => fun ag as_ cg cs s ob w0 wE hle hsn hb0 hge hob hg hs => parts_new ag as_ cg cs g s ob w0 wE kk hle hgl hgn hsn hb0 hge hob hg hs (parts_any hgl hgn kk)

theorem own_some {v : Value} {t : List Int} {mm : List (Nat × Obj)} (h : OwnV (Value.int .i64) v t mm) (hE : ∃ W : World, ∀ p ∈ mm, W.heap[p.1]? = some p.2) (ht : t ≠ []) : ∃ a c, v = .slice (some a) t.length c := by
  obtain ⟨W, hW⟩ := hE
  obtain ⟨A, c, rfl, _, hr⟩ := h.rd hW
  cases t with
  | nil => exact absurd rfl ht
  | cons x t =>
    obtain ⟨ad, rfl, _⟩ := hr 0 x rfl
    exact ⟨ad, c, rfl⟩
theorem fstR_len {g : List Int} : ∀ (k : Nat) (s t : List Int), fstR g k s = some t → t.length = s.length + k
  | 0, s, t, h => by cases h; rfl
  | k + 1, s, t, h => by
    obtain ⟨x, _, hx⟩ := List.exists_of_findSome?_eq_some h
    have := fstR_len k _ _ hx
    rw [this, List.length_append]; simp; omega

theorem First_none (w : World) (ag : Option Addr) (cg : Nat) (xs : List Int) (hv : RdV (Value.int .i64) w (.slice ag xs.length cg) xs) (hp : partB xs = true) (hf : fstR xs xs.length [] = none) :
    Calls Try.prog 27 [.slice ag xs.length cg].toArray w fun e w' => e = .returned (.tuple #[.slice none 0 0, .int .i64 4]) ∧ Below w.heap.size w w' := by
  obtain ⟨hxl, hn⟩ := partB_true.1 hp
  refine enter (N := 15) Try.func27 rfl rfl rfl ?_
  refine g_seq ?_
  refine g_region ?_
  refine s_y (y_assign rfl) rfl rfl rfl rfl ?_
  refine s_y (y_assign rfl) rfl rfl rfl rfl ?_
  refine s_nil ?_
  refine g_then ?_
  refine g_seq ?_
  refine g_seq ?_
  refine g_region ?_
  refine s_y (y_move rfl) rfl rfl rfl rfl ?_
  refine s_tr (t_call rfl rfl ent_46 (fun w h => by have h_ := isPart_any w _ xs (hv.below h.below) (by omega); rwa [hp] at h_)) rfl rfl rfl rfl (fun _ _ => ?_)
  refine s_y (y_not_t rfl) rfl rfl rfl rfl ?_
  refine s_nil ?_
  refine g_then ?_
  refine g_cond_f rfl ?_
  refine g_skip ?_
  refine g_then ?_
  refine g_seq ?_
  refine g_region ?_
  refine s_tr (t_alloc zero_22 rfl) rfl rfl rfl rfl (fun ob hob => ?_)
  refine s_nil ?_
  refine g_then ?_
  refine g_seq ?_
  refine g_region ?_
  refine s_y (y_move rfl) rfl rfl rfl rfl ?_
  refine s_y (y_build (vs := [(0, _)]) rfl rfl (fun w => bld_48_0 _ _ _ w)) rfl rfl rfl rfl ?_
  refine s_y (y_func rfl rfl) rfl rfl rfl rfl ?_
  refine s_tr (t_callK2 (ι := Unit) (A := fun _ => True) (fo := fun _ => .cells [Value.slice none 0 0].toArray 22 (0, 0)) (mm := fun _ => []) (v := .bool true) (cap := []) 0 rfl rfl rfl ent_52 (fun w2 h => (parts_any (g := xs) (by omega) hn xs.length ag none cg 0 [] ob w w2 (by simp) (by intro x hx; cases hx) h.below hob.1 (at_of (i := 0) h rfl) (hv.below h.below) RdV.nil).mono fun e w' ⟨bb, he, hh⟩ => by rcases hh with ⟨rfl, _, h3⟩ | ⟨_, t, x, h2, _⟩; exact ⟨(), trivial, (by intro p hp; cases hp), he, h3⟩; rw [hf] at h2; cases h2)) rfl rfl rfl rfl (fun _ _ => ?_)
  refine s_nil ?_
  refine g_then ?_
  refine g_seq ?_
  refine g_seq ?_
  refine g_region ?_
  refine s_y (y_ld1 0 rfl rfl agg_22 rfl) rfl rfl rfl rfl ?_
  refine s_y (y_eqnil rfl rfl sle_22 (fun w => by kernel_rfl)) rfl rfl rfl rfl ?_
  refine s_nil ?_
  refine g_then ?_
  refine g_cond_t rfl ?_
  refine g_seq ?_
  refine g_region ?_
  refine s_y (y_assign rfl) rfl rfl rfl rfl ?_
  refine s_y (y_assign rfl) rfl rfl rfl rfl ?_
  refine s_nil ?_
  refine g_then ?_
  refine g_ret ?_
  refine g_thenr ?_
  exact g_end trivial (fun a w ha hq_ => res2 ha rfl rfl rfl  w) (fun w h => ⟨rfl, h.below⟩)

theorem First_some (w : World) (ag : Option Addr) (cg : Nat) (xs : List Int) (hv : RdV (Value.int .i64) w (.slice ag xs.length cg) xs) (hp : partB xs = true) (t : List Int) (hf : fstR xs xs.length [] = some t) :
    Calls Try.prog 27 [.slice ag xs.length cg].toArray w fun e w' => ∃ x : Value × List (Nat × Obj), (OwnV (Value.int .i64) x.1 t x.2 ∧ ∃ W : World, ∀ p ∈ x.2, W.heap[p.1]? = some p.2) ∧ e = .returned (.tuple #[x.1, .int .i64 0]) ∧ Hq w w x.2 w' := by
  obtain ⟨hxl, hn⟩ := partB_true.1 hp
  have ht : t ≠ [] := fun h_ => by have h2_ := fstR_len _ _ _ hf; rw [h_] at h2_; simp at h2_; omega
  refine enter (N := 15) Try.func27 rfl rfl rfl ?_
  refine g_seq ?_
  refine g_region ?_
  refine s_y (y_assign rfl) rfl rfl rfl rfl ?_
  refine s_y (y_assign rfl) rfl rfl rfl rfl ?_
  refine s_nil ?_
  refine g_then ?_
  refine g_seq ?_
  refine g_seq ?_
  refine g_region ?_
  refine s_y (y_move rfl) rfl rfl rfl rfl ?_
  refine s_tr (t_call rfl rfl ent_46 (fun w h => by have h_ := isPart_any w _ xs (hv.below h.below) (by omega); rwa [hp] at h_)) rfl rfl rfl rfl (fun _ _ => ?_)
  refine s_y (y_not_t rfl) rfl rfl rfl rfl ?_
  refine s_nil ?_
  refine g_then ?_
  refine g_cond_f rfl ?_
  refine g_skip ?_
  refine g_then ?_
  refine g_seq ?_
  refine g_region ?_
  refine s_tr (t_alloc zero_22 rfl) rfl rfl rfl rfl (fun ob hob => ?_)
  refine s_nil ?_
  refine g_then ?_
  refine g_seq ?_
  refine g_region ?_
  refine s_y (y_move rfl) rfl rfl rfl rfl ?_
  refine s_y (y_build (vs := [(0, _)]) rfl rfl (fun w => bld_48_0 _ _ _ w)) rfl rfl rfl rfl ?_
  refine s_y (y_func rfl rfl) rfl rfl rfl rfl ?_
  refine s_tr (t_callK2 (A := fun x : VM => OwnX t x) (fo := fun x => .cells [x.1].toArray 22 (0, 0)) (mm := fun x => x.2) (v := .bool false) (cap := []) 0 rfl rfl rfl ent_52 (fun w2 h => (parts_any (g := xs) (by omega) hn xs.length ag none cg 0 [] ob w w2 (by simp) (by intro x hx; cases hx) h.below hob.1 (at_of (i := 0) h rfl) (hv.below h.below) RdV.nil).mono fun e w' ⟨bb, he, hh⟩ => by rcases hh with ⟨_, h2, _⟩ | ⟨rfl, t2, x, h2, h3, h4, h5⟩; rw [hf] at h2; cases h2; rw [hf] at h2; cases h2; exact ⟨x, h3, h4, he, h5⟩)) rfl rfl rfl rfl (fun xo hxo => ?_)
  obtain ⟨vo, mo⟩ := xo
  obtain ⟨⟨hOo, hEo⟩, hmm⟩ := hxo
  obtain ⟨ao, co, rfl⟩ := own_some hOo hEo ht
  refine s_nil ?_
  refine g_then ?_
  refine g_seq ?_
  refine g_seq ?_
  refine g_region ?_
  refine s_y (y_ld1 0 rfl rfl agg_22 rfl) rfl rfl rfl rfl ?_
  refine s_y (y_eqnil rfl rfl sle_22 (fun w => by kernel_rfl)) rfl rfl rfl rfl ?_
  refine s_nil ?_
  refine g_then ?_
  refine g_cond_f rfl ?_
  refine g_skip ?_
  refine g_then ?_
  refine g_seq ?_
  refine g_region ?_
  refine s_y (y_ld1 0 rfl rfl agg_22 rfl) rfl rfl rfl rfl ?_
  refine s_y (y_assign rfl) rfl rfl rfl rfl ?_
  refine s_y (y_assign rfl) rfl rfl rfl rfl ?_
  refine s_nil ?_
  refine g_then ?_
  refine g_ret ?_
  exact g_end trivial (fun a w ha hq_ => res2 ha rfl rfl rfl  w) (fun w3 h => ⟨(_, mo), ⟨hOo, hEo⟩, rfl, (by have h_ : Hq w w (mo ++ []) w3 := h.hand (List.Sublist.cons _ (List.Sublist.refl _)); rwa [List.append_nil] at h_)⟩)

theorem First_bad (w : World) (v : Value) (xs : List Int) (hv : RdV (Value.int .i64) w v xs) (hl : xs.length ≤ 9223372036854775807) (hp : partB xs = false) :
    Calls Try.prog 27 [v].toArray w fun e w' => e = .returned (.tuple #[.slice none 0 0, .int .i64 2]) ∧ Below w.heap.size w w' := by
  refine enter (N := 15) Try.func27 rfl rfl rfl ?_
  refine g_seq ?_
  refine g_region ?_
  refine s_y (y_assign rfl) rfl rfl rfl rfl ?_
  refine s_y (y_assign rfl) rfl rfl rfl rfl ?_
  refine s_nil ?_
  refine g_then ?_
  refine g_seq ?_
  refine g_seq ?_
  refine g_region ?_
  refine s_y (y_move rfl) rfl rfl rfl rfl ?_
  refine s_tr (t_call rfl rfl ent_46 (fun w h => by have h_ := isPart_any w _ xs (hv.below h.below) hl; rwa [hp] at h_)) rfl rfl rfl rfl (fun _ _ => ?_)
  refine s_y (y_not_f rfl) rfl rfl rfl rfl ?_
  refine s_nil ?_
  refine g_then ?_
  refine g_cond_t rfl ?_
  refine g_seq ?_
  refine g_region ?_
  refine s_y (y_assign rfl) rfl rfl rfl rfl ?_
  refine s_y (y_assign rfl) rfl rfl rfl rfl ?_
  refine s_nil ?_
  refine g_then ?_
  refine g_ret ?_
  refine g_thenr ?_
  exact g_end trivial (fun a w ha hq_ => res2 ha rfl rfl rfl  w) (fun w h => ⟨rfl, h.below⟩)

end Go.Proofs.Ytolalckejnijkaa
