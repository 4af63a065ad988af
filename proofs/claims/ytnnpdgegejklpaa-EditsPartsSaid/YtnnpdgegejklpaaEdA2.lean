/- edits: words.best, shared, joined, found, Common, Joined. -/
import Derived.Test.YtnnpdgegejklpaaEdC
import Derived.Test.YtnnpdgegejklpaaWdMath
import Derived.Test.YtnnpdgegejklpaaWdCk
import Derived.Test.YtnnpdgegejklpaaSxArr
import Derived.Test.YtnnpdgegejklpaaSxG
import Derived.Test.YtnnpdgegejklpaaSxRec
import Derived.Test.YtnnpdgegejklpaaSxAppO
import Derived.Test.YtnnpdgegejklpaaSxBytes
import Derived.Test.YtnnpdgegejklpaaSxStr
namespace Go.Proofs.Ytnnpdgegejklpaa
open Go.RowKit Go.Sx Go.WideMaps
set_option linter.unusedVariables false
set_option linter.unusedSimpArgs false
set_option maxRecDepth 100000
set_option maxHeartbeats 4000000

private theorem sle_46 : Try.prog.underlying 46 = some (.slice (Try.prog.elem 46)) := by kernel_rfl
private theorem size_3 : (Try.prog.info? 3).map (·.size) = some 1 := by kernel_rfl
private theorem agg_3 : isAggB Try.prog 3 = some false := by kernel_rfl
private theorem fld_127_2 (b off : Nat) (w : World) : (Instr.fieldAt 127 (.pointer (some ⟨b, off, none⟩)) 2).run Try.prog w = .ok (.pointer (some ⟨b, off + 2, none⟩)) w := by kernel_rfl
private theorem agg_125 : isAggB Try.prog 125 = some false := by kernel_rfl
private theorem bld_79_0_1 (x0 : Int) (x1 : Int) (w : World) : (Instr.build 79 #[(0, (.int .i64 x0)), (1, (.int .i64 x1))]).run Try.prog w = .ok (.agg #[(.int .i64 x0), (.int .i64 x1)]) w := by kernel_rfl
private theorem inf_9 : ∃ ie, Try.prog.info? 9 = some ie ∧ ie.zero = some (.string ByteArray.empty) ∧ ie.size = 1 ∧ ie.bytes = 16 := info_of (by kernel_rfl) (by kernel_rfl)
private theorem fld_127_4 (b off : Nat) (w : World) : (Instr.fieldAt 127 (.pointer (some ⟨b, off, none⟩)) 4).run Try.prog w = .ok (.pointer (some ⟨b, off + 4, none⟩)) w := by kernel_rfl
private theorem agg_113 : isAggB Try.prog 113 = some false := by kernel_rfl
private theorem ent_77 : Enters Try.prog 77 := enters_of Try.func77 (by kernel_rfl) rfl
private theorem size_9 : (Try.prog.info? 9).map (·.size) = some 1 := by kernel_rfl
private theorem agg_9 : isAggB Try.prog 9 = some false := by kernel_rfl
private theorem sle_45 : Try.prog.underlying 45 = some (.slice (Try.prog.elem 45)) := by kernel_rfl
private theorem fld_127_3 (b off : Nat) (w : World) : (Instr.fieldAt 127 (.pointer (some ⟨b, off, none⟩)) 3).run Try.prog w = .ok (.pointer (some ⟨b, off + 3, none⟩)) w := by kernel_rfl
private theorem agg_112 : isAggB Try.prog 112 = some false := by kernel_rfl
private theorem ent_76 : Enters Try.prog 76 := enters_of Try.func76 (by kernel_rfl) rfl
private theorem ent_94 : Enters Try.prog 94 := enters_of Try.func94 (by kernel_rfl) rfl
private theorem inf_3 : ∃ ie, Try.prog.info? 3 = some ie ∧ ie.zero = some (.int .i64 0) ∧ ie.size = 1 ∧ ie.bytes = 8 := info_of (by kernel_rfl) (by kernel_rfl)
private theorem ent_93 : Enters Try.prog 93 := enters_of Try.func93 (by kernel_rfl) rfl
private theorem fld_127_0 (b off : Nat) (w : World) : (Instr.fieldAt 127 (.pointer (some ⟨b, off, none⟩)) 0).run Try.prog w = .ok (.pointer (some ⟨b, off, none⟩)) w := by kernel_rfl
private theorem fld_127_1 (b off : Nat) (w : World) : (Instr.fieldAt 127 (.pointer (some ⟨b, off, none⟩)) 1).run Try.prog w = .ok (.pointer (some ⟨b, off + 1, none⟩)) w := by kernel_rfl
private theorem ent_90 : Enters Try.prog 90 := enters_of Try.func90 (by kernel_rfl) rfl
private theorem ent_68 : Enters Try.prog 68 := enters_of Try.func68 (by kernel_rfl) rfl
private theorem bld_127_0_1_2_3_4 (x0 : ByteArray) (x1 : ByteArray) (x2 : Option Nat) (x3 : Fn) (x3p x3q : Array Value) (x4 : Fn) (x4p x4q : Array Value) (w : World) : (Instr.build 127 #[(0, (.string x0)), (1, (.string x1)), (2, (.map x2)), (3, (.func x3 x3p x3q)), (4, (.func x4 x4p x4q))]).run Try.prog w = .ok (.agg #[(.string x0), (.string x1), (.map x2), (.func x3 x3p x3q), (.func x4 x4p x4q)]) w := by kernel_rfl
private theorem ent_75 : Enters Try.prog 75 := enters_of Try.func75 (by kernel_rfl) rfl
private theorem ent_79 : Enters Try.prog 79 := enters_of Try.func79 (by kernel_rfl) rfl
private theorem ent_78 : Enters Try.prog 78 := enters_of Try.func78 (by kernel_rfl) rfl

theorem word_map : KeyG Try.prog 125 79 9 kvp okp (.string ByteArray.empty) :=
  ⟨Try.underlying125, deep_law_gate (by kernel_rfl) (of_decide_eq_true (by kernel_rfl)) (of_decide_eq_true (by kernel_rfl)) (by kernel_rfl) (by kernel_rfl), fun k hk => key_pair Try.underlying79 Try.underlying3 (by kernel_rfl) (by kernel_rfl) (by kernel_rfl) (by kernel_rfl) (fun _ _ => by kernel_rfl) hk.1 hk.2, fun u => by kernel_rfl, kvp_inj⟩
theorem wfI {z : Int} (h0 : -100 ≤ z) (h1 : z ≤ 100) : (Lit.int .i64 z).wf = true := by
  have e1 : IntKind.i64.min = -9223372036854775808 := rfl
  have e2 : IntKind.i64.max = 9223372036854775807 := rfl
  unfold Lit.wf
  simp
  omega
theorem okpI {p : Int × Int} (h0 : -100 ≤ p.1 ∧ p.1 ≤ 100) (h1 : -100 ≤ p.2 ∧ p.2 ≤ 100) : okp p := ⟨wfI h0.1 h0.2, wfI h1.1 h1.2⟩
theorem cmp_any (w : World) (x y : ByteArray) : Calls Try.prog 94 [.string x, .string y].toArray w fun e w' => e = .returned (.int .i64 (Lib.compareBytes x.data.toList y.data.toList)) ∧ Below w.heap.size w w' :=
  (Any.strings_Compare laysCompare x y w).mono fun e w' ⟨h1, h2⟩ => ⟨h1, h2 ▸ Below.refl _ _⟩
theorem ge_app {m m' : List (Nat × Obj)} {n : Nat} (h : ∀ p ∈ m, n ≤ p.1) (h' : ∀ p ∈ m', n ≤ p.1) : ∀ p ∈ m ++ m', n ≤ p.1 := fun p hp => by
  rcases List.mem_append.1 hp with hp | hp
  · exact h p hp
  · exact h' p hp
theorem ge_con {b n : Nat} {o : Obj} {m : List (Nat × Obj)} (h : n ≤ b) (h' : ∀ p ∈ m, n ≤ p.1) : ∀ p ∈ (b, o) :: m, n ≤ p.1 := fun p hp => by
  rcases List.mem_cons.1 hp with rfl | hp
  · exact h
  · exact h' p hp
theorem ge_nl {n : Nat} : ∀ p ∈ ([] : List (Nat × Obj)), n ≤ p.1 := fun _ h => by cases h
theorem ge_own {b cap n : Nat} {jk : List Value} {e : TypeId} {xs : List Value} (h : n ≤ b) : ∀ p ∈ (SV.own b cap jk).mem e xs, n ≤ p.1 := fun p hp => by
  simp only [SV.mem, List.mem_singleton] at hp; rw [hp]; exact h
theorem ge_ids {m : List (Nat × Obj)} {b n cap : Nat} {jk xs : List Value} {e : TypeId} (hb : n ≤ b) (h : ∀ q ∈ m.map (·.1), q ∈ ((SV.own b cap jk).mem e xs).map (·.1) ∨ n ≤ q) : ∀ p ∈ m, n ≤ p.1 := fun p hp => by
  rcases h p.1 (List.mem_map.2 ⟨p, hp, rfl⟩) with h | h
  · simp only [SV.mem, List.map_cons, List.map_nil, List.mem_singleton] at h; omega
  · exact h

theorem Or_any (w : World) (v : Value) (x y : Int) (hv : RdV (Value.int .i64) w v [x, y]) :
    Calls Try.prog 93 [v].toArray w fun e w' => e = .returned (.int .i64 (orI x y)) ∧ Below w.heap.size w w' := by
  refine enter (N := 18) Try.func93 rfl rfl rfl ?_
  refine g_seq ?_
  refine g_region ?_
  refine s_y (y_assign rfl) rfl rfl rfl rfl ?_
  refine s_nil ?_
  refine g_then ?_
  refine g_seq ?_
  refine g_region ?_
  refine s_y (y_assign rfl) rfl rfl rfl rfl ?_
  refine s_nil ?_
  refine g_then ?_
  refine g_seq ?_
  refine g_seq ?_
  refine g_region ?_
  refine s_y (y_move rfl) rfl rfl rfl rfl ?_
  refine s_y (y_lenV (n := (([x, y] : List Int).length)) rfl (by obtain ⟨A, c, h1, _⟩ := hv; exact ⟨A, c, h1⟩) sle_46) rfl rfl rfl rfl ?_
  refine s_y (y_move rfl) rfl rfl rfl rfl ?_
  refine s_nil ?_
  refine g_then ?_
  refine g_block ?_
  refine g_loop (fun (i : Nat) act W => (i ≤ 2 ∧ ∀ k : Nat, k < i → rdI [x, y] (k : Int) = 0) ∧ ∃ (w1 : World), Has 18 [] [(3, .int .i64 0), (6, v), (7, .int .i64 (([x, y] : List Int).length : Nat)), (8, .int .i64 (i : Int))] act ∧ Hp w w1 ([]) W) (fun i => 2 - i) 0 (fun act W ha hw => ⟨⟨by omega, fun k hk => absurd hk (by omega)⟩, W, ha.weak (sub_get ⟨rfl, rfl, rfl, rfl, trivial⟩), hw.toHq.lookSub (List.Sublist.refl _)⟩) ?_
  intro i act W ⟨hb_i, w1, ha, hw⟩
  refine g_go ha hw ?_
  clear ha hw act W
  have hl2 : ([x, y] : List Int).length = 2 := rfl
  refine g_seq ?_
  refine g_region ?_
  refine s_y (y_lss rfl rfl) rfl rfl rfl rfl ?_
  refine s_nil ?_
  refine g_then ?_
  refine g_seq ?_
  refine g_cond rfl (fun cq1 => ?_) (fun cq1 => ?_)
  · (try simp at cq1)
    refine g_skip ?_
    refine g_then ?_
    refine g_seq ?_
    refine g_block ?_
    refine g_seq ?_
    refine g_region ?_
    refine s_y (y_idxV (enc := (Value.int .i64)) rfl rfl hv Try.underlying46 size_3 (by omega) (by omega)) rfl rfl rfl rfl ?_
    refine s_y (y_ldV (enc := (Value.int .i64)) (xs := [x, y]) (fun w h => hv.rdl.below h.below) rfl agg_3 (rdI_at (by omega) (by omega))) rfl rfl rfl rfl ?_
    refine s_y (y_assign rfl) rfl rfl rfl rfl ?_
    refine s_nil ?_
    refine g_then ?_
    refine g_seq ?_
    refine g_region ?_
    refine s_y (y_move rfl) rfl rfl rfl rfl ?_
    refine s_y (y_move rfl) rfl rfl rfl rfl ?_
    refine s_y (y_neq rfl rfl) rfl rfl rfl rfl ?_
    refine s_nil ?_
    refine g_then ?_
    refine g_cond rfl (fun cq2 => ?_) (fun cq2 => ?_)
    · (try simp at cq2)
      refine g_seq ?_
      refine g_region ?_
      refine s_y (y_move rfl) rfl rfl rfl rfl ?_
      refine s_y (y_assign rfl) rfl rfl rfl rfl ?_
      refine s_nil ?_
      refine g_then ?_
      refine g_ret ?_
      refine g_inbr ?_
      refine g_thenr ?_
      refine g_thenr ?_
      refine g_inbr ?_
      refine g_thenr ?_
      rw [show orI x y = rdI [x, y] (i : Int) from by rcases (show i = 0 ∨ i = 1 by omega) with h_ | h_; subst h_; exact if_neg (by assumption); subst h_; exact if_pos (hb_i.2 0 (by omega))]
      exact g_end trivial (fun a w ha hq_ => res1 ha rfl rfl  w) (fun w h => ⟨rfl, h.below⟩)
    · (try simp at cq2)
      refine g_skip ?_
      refine g_inb ?_
      refine g_then ?_
      refine g_region ?_
      refine s_y (y_add rfl rfl (by omega) (by omega)) rfl rfl rfl rfl ?_
      refine s_y (y_move rfl) rfl rfl rfl rfl ?_
      refine s_nil ?_
      refine g_then ?_
      have hall : ∀ k : Nat, k < i + 1 → rdI [x, y] (k : Int) = 0 := by
        intro k hk
        rcases Nat.lt_or_ge k i with h | h
        · exact hb_i.2 k h
        · rw [show k = i by omega]; assumption
      exact fun act W ha hw => ⟨i + 1, by omega, ⟨by omega, hall⟩, W, ha.weak (sub_get ⟨rfl, rfl, rfl, rfl, trivial⟩), hw.toHq.lookSub (List.Sublist.refl _)⟩
  · (try simp at cq1)
    refine g_exit ?_
    refine g_thenx ?_
    refine g_thenx ?_
    refine g_inbx ?_
    refine g_then ?_
    refine g_seq ?_
    refine g_region ?_
    refine s_y (y_move rfl) rfl rfl rfl rfl ?_
    refine s_y (y_assign rfl) rfl rfl rfl rfl ?_
    refine s_nil ?_
    refine g_then ?_
    refine g_ret ?_
    rw [show orI x y = 0 from by have q0 := hb_i.2 0 (by omega); have q1 := hb_i.2 1 (by omega); exact (if_pos q0).trans q1]
    exact g_end trivial (fun a w ha hq_ => res1 ha rfl rfl  w) (fun w h => ⟨rfl, h.below⟩)

theorem gtC_any (w : World) (x y : ByteArray) (hx : x.size ≤ 100) (hy : y.size ≤ 100) :
    Calls Try.prog 76 [.string x, .string y].toArray w fun e w' => e = .returned (.int .i64 ((y.size : Int) - (x.size : Int))) ∧ Below w.heap.size w w' := by
  refine enter (N := 10) Try.func76 rfl rfl rfl ?_
  refine g_seq ?_
  refine g_region ?_
  refine s_y (y_assign rfl) rfl rfl rfl rfl ?_
  refine s_nil ?_
  refine g_then ?_
  refine g_seq ?_
  refine g_region ?_
  refine s_y (y_move rfl) rfl rfl rfl rfl ?_
  refine s_y (y_lens rfl Try.underlying9) rfl rfl rfl rfl ?_
  refine s_y (y_move rfl) rfl rfl rfl rfl ?_
  refine s_y (y_lens rfl Try.underlying9) rfl rfl rfl rfl ?_
  refine s_y (y_sub rfl rfl (by omega) (by omega)) rfl rfl rfl rfl ?_
  refine s_y (y_assign rfl) rfl rfl rfl rfl ?_
  refine s_nil ?_
  refine g_then ?_
  refine g_ret ?_
  exact g_end trivial (fun a w ha hq_ => res1 ha rfl rfl  w) (fun w h => ⟨rfl, h.below⟩)

def BestAtC (a b : ByteArray) (n : Nat) : Prop := ∀ (w0 w1 w : World) (m : List (Nat × Obj)) (bw mb : Nat) (es : Array MapEntry) (clock : Nat) (i j : Int), 0 ≤ i → i ≤ a.size → 0 ≤ j → j ≤ b.size → (a.size : Int) - i + ((b.size : Int) - j) ≤ n → SndW (cmP a b) es → Hp w0 w1 ((mb, .map es clock) :: (bw, Obj.cells [.string a, .string b, .map (some mb), (.func (.func 76) #[] #[]), (.func (.func 77) #[] #[])].toArray 127 (0, 0)) :: m) w →
    Calls Try.prog 90 [.pointer (some ⟨bw, 0, none⟩), .int .i64 i, .int .i64 j].toArray w fun e w' => ∃ y : Array MapEntry × Nat, SndW (cmP a b) y.1 ∧ e = .returned (.string (cmP a b i j)) ∧ Hp w0 w1 ((mb, .map y.1 y.2) :: (bw, Obj.cells [.string a, .string b, .map (some mb), (.func (.func 76) #[] #[]), (.func (.func 77) #[] #[])].toArray 127 (0, 0)) :: m) w'

def NextAtC (a b : ByteArray) (n : Nat) : Prop := ∀ (w0 w1 w : World) (m : List (Nat × Obj)) (bw mb : Nat) (es : Array MapEntry) (clock : Nat) (i j : Int), 0 ≤ i → i ≤ a.size → 0 ≤ j → j ≤ b.size → (a.size : Int) - i + ((b.size : Int) - j) ≤ n → SndW (cmP a b) es → Hp w0 w1 ((mb, .map es clock) :: (bw, Obj.cells [.string a, .string b, .map (some mb), (.func (.func 76) #[] #[]), (.func (.func 77) #[] #[])].toArray 127 (0, 0)) :: m) w →
    Calls Try.prog 77 [.pointer (some ⟨bw, 0, none⟩), .int .i64 i, .int .i64 j].toArray w fun e w' => ∃ y : (Array MapEntry × Nat) × Value × List (Nat × Obj), (SndW (cmP a b) y.1.1 ∧ OwnV Value.string y.2.1 (candW a b i j) y.2.2 ∧ ∀ p ∈ y.2.2, w1.heap.size ≤ p.1) ∧ e = .returned y.2.1 ∧ Hp w0 w1 ((mb, .map y.1.1 y.1.2) :: (bw, Obj.cells [.string a, .string b, .map (some mb), (.func (.func 76) #[] #[]), (.func (.func 77) #[] #[])].toArray 127 (0, 0)) :: (y.2.2 ++ m)) w'

theorem bestC_known {a b : ByteArray} (hla : a.size ≤ 12) (hlb : b.size ≤ 12) {n : Nat} {w0 w1 w : World} {m : List (Nat × Obj)} {bw mb : Nat} {es : Array MapEntry} {clock : Nat} {i j : Int} (h0 : 0 ≤ i) (h1 : i ≤ a.size) (h2 : 0 ≤ j) (h3 : j ≤ b.size) (hn : (a.size : Int) - i + ((b.size : Int) - j) ≤ n) (hS : SndW (cmP a b) es) (hw : Hp w0 w1 ((mb, .map es clock) :: (bw, Obj.cells [.string a, .string b, .map (some mb), (.func (.func 76) #[] #[]), (.func (.func 77) #[] #[])].toArray 127 (0, 0)) :: (m ++ [])) w) (z : ByteArray) (F : Int × Int → Option Value) (hM : MapG kvp okp es F) (hF : F (i, j) = some (.string z)) (hz : z = cmP a b i j) :
    Calls Try.prog 90 [.pointer (some ⟨bw, 0, none⟩), .int .i64 i, .int .i64 j].toArray w fun e w' => ∃ y : Array MapEntry × Nat, SndW (cmP a b) y.1 ∧ e = .returned (.string (cmP a b i j)) ∧ Hp w0 w1 ((mb, .map y.1 y.2) :: (bw, Obj.cells [.string a, .string b, .map (some mb), (.func (.func 76) #[] #[]), (.func (.func 77) #[] #[])].toArray 127 (0, 0)) :: (m ++ [])) w' := by
  refine enterM (N := 70) Try.func90 rfl rfl rfl hw ?_
  refine g_seq ?_
  refine g_region ?_
  refine s_y (y_assign rfl) rfl rfl rfl rfl ?_
  refine s_nil ?_
  refine g_then ?_
  refine g_seq ?_
  refine g_seq ?_
  refine g_region ?_
  refine s_y (y_move rfl) rfl rfl rfl rfl ?_
  refine s_y (y_nil rfl) rfl rfl rfl rfl ?_
  refine s_y (y_fld rfl (fun w => fld_127_2 _ _ w)) rfl rfl rfl rfl ?_
  refine s_y (y_ld1 1 rfl rfl agg_125 rfl) rfl rfl rfl rfl ?_
  refine s_y (y_move rfl) rfl rfl rfl rfl ?_
  refine s_y (y_move rfl) rfl rfl rfl rfl ?_
  refine s_y (y_build (vs := [(0, _), (1, _)]) rfl rfl (fun w => bld_79_0_1 _ _ w)) rfl rfl rfl rfl ?_
  refine s_y (y_lookS (k := (i, j)) hF word_map hM (fun w h => h.at_ _ (List.mem_cons_self ..)) rfl rfl rfl (okpI (by simp only; omega) (by simp only; omega))) rfl rfl rfl rfl ?_
  refine s_y (y_move rfl) rfl rfl rfl rfl ?_
  refine s_y (y_extract rfl rfl) rfl rfl rfl rfl ?_
  refine s_y (y_extract rfl rfl) rfl rfl rfl rfl ?_
  refine s_y (y_assign rfl) rfl rfl rfl rfl ?_
  refine s_y (y_assign rfl) rfl rfl rfl rfl ?_
  refine s_nil ?_
  refine g_then ?_
  refine g_seq ?_
  refine g_region ?_
  refine s_y (y_move rfl) rfl rfl rfl rfl ?_
  refine s_nil ?_
  refine g_then ?_
  refine g_cond_t rfl ?_
  refine g_seq ?_
  refine g_region ?_
  refine s_y (y_move rfl) rfl rfl rfl rfl ?_
  refine s_y (y_assign rfl) rfl rfl rfl rfl ?_
  refine s_nil ?_
  refine g_then ?_
  refine g_ret ?_
  refine g_thenr ?_
  exact g_end0 (fun a w ha hq_ => res1 ha rfl rfl  w) (fun w h => ⟨(es, clock), hS, congrArg (fun q_ => Ending.returned (Value.string q_)) hz, h⟩)

theorem bestC_new {a b : ByteArray} (hla : a.size ≤ 12) (hlb : b.size ≤ 12) {n : Nat} {w0 w1 w : World} {m : List (Nat × Obj)} {bw mb : Nat} {es : Array MapEntry} {clock : Nat} {i j : Int} (h0 : 0 ≤ i) (h1 : i ≤ a.size) (h2 : 0 ≤ j) (h3 : j ≤ b.size) (hn : (a.size : Int) - i + ((b.size : Int) - j) ≤ n) (hS : SndW (cmP a b) es) (hw : Hp w0 w1 ((mb, .map es clock) :: (bw, Obj.cells [.string a, .string b, .map (some mb), (.func (.func 76) #[] #[]), (.func (.func 77) #[] #[])].toArray 127 (0, 0)) :: (m ++ [])) w) (F : Int × Int → Option Value) (hM : MapG kvp okp es F) (hF : F (i, j) = none) (hNX : NextAtC a b n) :
    Calls Try.prog 90 [.pointer (some ⟨bw, 0, none⟩), .int .i64 i, .int .i64 j].toArray w fun e w' => ∃ y : Array MapEntry × Nat, SndW (cmP a b) y.1 ∧ e = .returned (.string (cmP a b i j)) ∧ Hp w0 w1 ((mb, .map y.1 y.2) :: (bw, Obj.cells [.string a, .string b, .map (some mb), (.func (.func 76) #[] #[]), (.func (.func 77) #[] #[])].toArray 127 (0, 0)) :: (m ++ [])) w' := by
  obtain ⟨ie9_, hi9_⟩ := inf_9
  obtain ⟨ie3, hi3⟩ := inf_3
  refine enterM (N := 70) Try.func90 rfl rfl rfl hw ?_
  refine g_seq ?_
  refine g_region ?_
  refine s_y (y_assign rfl) rfl rfl rfl rfl ?_
  refine s_nil ?_
  refine g_then ?_
  refine g_seq ?_
  refine g_seq ?_
  refine g_region ?_
  refine s_y (y_move rfl) rfl rfl rfl rfl ?_
  refine s_y (y_nil rfl) rfl rfl rfl rfl ?_
  refine s_y (y_fld rfl (fun w => fld_127_2 _ _ w)) rfl rfl rfl rfl ?_
  refine s_y (y_ld1 1 rfl rfl agg_125 rfl) rfl rfl rfl rfl ?_
  refine s_y (y_move rfl) rfl rfl rfl rfl ?_
  refine s_y (y_move rfl) rfl rfl rfl rfl ?_
  refine s_y (y_build (vs := [(0, _), (1, _)]) rfl rfl (fun w => bld_79_0_1 _ _ w)) rfl rfl rfl rfl ?_
  refine s_y (y_lookN (k := (i, j)) hF word_map hM (fun w h => h.at_ _ (List.mem_cons_self ..)) rfl rfl rfl (okpI (by simp only; omega) (by simp only; omega))) rfl rfl rfl rfl ?_
  refine s_y (y_move rfl) rfl rfl rfl rfl ?_
  refine s_y (y_extract rfl rfl) rfl rfl rfl rfl ?_
  refine s_y (y_extract rfl rfl) rfl rfl rfl rfl ?_
  refine s_y (y_assign rfl) rfl rfl rfl rfl ?_
  refine s_y (y_assign rfl) rfl rfl rfl rfl ?_
  refine s_nil ?_
  refine g_then ?_
  refine g_seq ?_
  refine g_region ?_
  refine s_y (y_move rfl) rfl rfl rfl rfl ?_
  refine s_nil ?_
  refine g_then ?_
  refine g_cond_f rfl ?_
  refine g_skip ?_
  refine g_then ?_
  refine g_seq ?_
  refine g_region ?_
  refine s_y (y_move rfl) rfl rfl rfl rfl ?_
  refine s_y (y_nil rfl) rfl rfl rfl rfl ?_
  refine s_y (y_fld rfl (fun w => fld_127_4 _ _ w)) rfl rfl rfl rfl ?_
  refine s_y (y_ld1 1 rfl rfl agg_113 rfl) rfl rfl rfl rfl ?_
  refine s_y (y_move rfl) rfl rfl rfl rfl ?_
  refine s_y (y_move rfl) rfl rfl rfl rfl ?_
  refine s_y (y_move rfl) rfl rfl rfl rfl ?_
  refine s_tr (t_callx (ι := (Array MapEntry × Nat) × Value × List (Nat × Obj)) (A := fun y => (SndW (cmP a b) y.1.1 ∧ OwnV Value.string y.2.1 (candW a b i j) y.2.2 ∧ ∀ p ∈ y.2.2, w1.heap.size ≤ p.1) ∧ ∃ W : World, ∀ p ∈ y.2.2, W.heap[p.1]? = some p.2) (vf := fun y => y.2.1) (wf := fun _ => w1) (mf := fun y => ((mb, .map y.1.1 y.1.2) :: (bw, Obj.cells [.string a, .string b, .map (some mb), (.func (.func 76) #[] #[]), (.func (.func 77) #[] #[])].toArray 127 (0, 0)) :: (y.2.2 ++ (m ++ [])))) rfl rfl ent_77 (fun w h => by simp only [Array.append_empty, Array.empty_append]; exact (hNX w0 w1 w _ bw mb es clock i j h0 h1 h2 h3 hn hS h).mono fun e w' ⟨y, q1, q2, q3⟩ => ⟨y, ⟨q1, w', fun p hp => q3.at_ p (List.mem_cons_of_mem _ (List.mem_cons_of_mem _ (List.mem_append_left _ hp)))⟩, q2, q3⟩)) rfl rfl rfl rfl (fun y hy => ?_)
  obtain ⟨⟨es2, clock2⟩, vo, mo⟩ := y
  obtain ⟨⟨hS2, hOo', hge'⟩, hEo'⟩ := hy
  have hOo : OwnV Value.string vo (candW a b i j) mo := hOo'
  have hEo : ∃ W : World, ∀ p ∈ mo, W.heap[p.1]? = some p.2 := hEo'
  have hge : ∀ p ∈ mo, w1.heap.size ≤ p.1 := hge'
  have hcl := candW_len a b i j
  obtain ⟨F2, hM2, hFs2⟩ := id hS2
  have hsz := candW_size hla hlb h0 h1 h2 h3
  refine s_y (y_assign rfl) rfl rfl rfl rfl ?_
  refine s_nil ?_
  refine g_then ?_
  refine g_seq ?_
  refine g_region ?_
  refine s_y (y_move rfl) rfl rfl rfl rfl ?_
  refine s_y (y_idxO (enc := Value.string) rfl rfl hOo hEo Try.underlying45 size_9 (by omega) (by omega)) rfl rfl rfl rfl ?_
  refine s_y (y_ldV (enc := Value.string) (xs := (candW a b i j)) (fun w h => (hOo.rd fun p hp => h.at_ p (List.mem_cons_of_mem _ (List.mem_cons_of_mem _ (mem_al mo hp)))).rdl) rfl agg_9 (rdS_at (by omega) (by omega))) rfl rfl rfl rfl ?_
  refine s_y (y_assign rfl) rfl rfl rfl rfl ?_
  refine s_nil ?_
  refine g_then ?_
  refine g_seq ?_
  refine g_seq ?_
  obtain ⟨We, hWe⟩ := id hEo
  obtain ⟨v7, hc7, hr7⟩ := run_cut_lo (P := Try.prog) (hOo.2 We hWe) Try.underlying45 hi9_.1 hi9_.2.2.1 1 (by omega)
  have hO7 : OwnV Value.string v7 ((candW a b i j).drop 1) mo := ⟨(by obtain ⟨A_, c_, h_, _⟩ := hr7 We (hOo.2 We hWe); exact ⟨A_, c_, h_⟩), fun W h => hr7 W (hOo.2 W h)⟩
  have hdl : ((candW a b i j).drop 1).length = (candW a b i j).length - 1 := by simp
  refine g_region ?_
  refine s_y (y_move rfl) rfl rfl rfl rfl ?_
  refine s_y (y_slice rfl (some_ev rfl) none_ev hc7 sle_45) rfl rfl rfl rfl ?_
  refine s_y (y_lenV (n := (((candW a b i j).drop 1).length)) rfl hO7.1 sle_45) rfl rfl rfl rfl ?_
  refine s_y (y_move rfl) rfl rfl rfl rfl ?_
  refine s_nil ?_
  refine g_then ?_
  refine g_block ?_
  refine g_loop (fun (k : Nat) act W => k ≤ (candW a b i j).length - 1 ∧ ∃ (out : ByteArray) , (out = bstK betC (candW a b i j) k) ∧ Has 70 [] [(0, .pointer (some ⟨bw, 0, none⟩)), (1, .int .i64 i), (2, .int .i64 j), (6, .string (⟨#[]⟩ : ByteArray)), (10, .string out), (39, v7), (40, .int .i64 (((candW a b i j).drop 1).length : Nat)), (41, .int .i64 (k : Int))] act ∧ Hp w0 w1 ((mb, .map es2 clock2) :: (bw, .cells [.string a, .string b, .map (some mb), (.func (.func 76) #[] #[]), (.func (.func 77) #[] #[])].toArray 127 (0, 0)) :: (mo ++ ((m ++ ([]))))) W) (fun k => (candW a b i j).length - 1 - k) 0 (fun act W ha hw => ⟨by omega, (rdS (candW a b i j) 0), (by rfl), ha.weak (sub_get ⟨rfl, rfl, rfl, rfl, rfl, rfl, rfl, rfl, trivial⟩), hw ⟩) ?_
  intro k act W ⟨hb_k, out, hout, ha, hw⟩
  refine g_go ha hw ?_
  clear ha hw act W
  have hos : out.size ≤ 50 := by rw [hout]; exact hsz _ (bstK_mem betC (by omega) k (by omega))
  refine g_seq ?_
  refine g_region ?_
  refine s_y (y_lss rfl rfl) rfl rfl rfl rfl ?_
  refine s_nil ?_
  refine g_then ?_
  refine g_seq ?_
  refine g_cond rfl (fun cq1 => ?_) (fun cq1 => ?_)
  · (try simp at cq1)
    refine g_skip ?_
    refine g_then ?_
    refine g_seq ?_
    refine g_block ?_
    refine g_seq ?_
    refine g_region ?_
    refine s_y (y_idxO (enc := Value.string) rfl rfl hO7 hEo Try.underlying45 size_9 (by omega) (by omega)) rfl rfl rfl rfl ?_
    refine s_y (y_ldV (enc := Value.string) (xs := ((candW a b i j).drop 1)) (fun w h => (hO7.rd fun p hp => h.at_ p (List.mem_cons_of_mem _ (List.mem_cons_of_mem _ (mem_al mo hp)))).rdl) rfl agg_9 (rdS_at (by omega) (by omega))) rfl rfl rfl rfl ?_
    refine s_y (y_assign rfl) rfl rfl rfl rfl ?_
    refine s_nil ?_
    refine g_then ?_
    refine g_seq ?_
    have hss : (rdS ((candW a b i j).drop 1) (k : Int)).size ≤ 50 := hsz _ (List.mem_of_mem_drop (rdS_mem (by omega) (by omega)))
    refine g_region ?_
    refine s_y (y_move rfl) rfl rfl rfl rfl ?_
    refine s_y (y_nil rfl) rfl rfl rfl rfl ?_
    refine s_y (y_fld rfl (fun w => fld_127_3 _ _ w)) rfl rfl rfl rfl ?_
    refine s_y (y_ld1 1 rfl rfl agg_112 rfl) rfl rfl rfl rfl ?_
    refine s_y (y_move rfl) rfl rfl rfl rfl ?_
    refine s_y (y_move rfl) rfl rfl rfl rfl ?_
    refine s_tr (t_call rfl rfl ent_76 (fun w h => gtC_any w (rdS ((candW a b i j).drop 1) (k : Int)) out (by omega) (by omega))) rfl rfl rfl rfl (fun _ _ => ?_)
    refine s_y (y_move rfl) rfl rfl rfl rfl ?_
    refine s_y (y_move rfl) rfl rfl rfl rfl ?_
    refine s_tr (t_call rfl rfl ent_94 (fun w h => cmp_any w (rdS ((candW a b i j).drop 1) (k : Int)) out)) rfl rfl rfl rfl (fun _ _ => ?_)
    refine s_tr (t_build (vs := [(0, .int .i64 ((out.size : Int) - ((rdS ((candW a b i j).drop 1) (k : Int)).size : Int))), (1, .int .i64 (Lib.compareBytes (rdS ((candW a b i j).drop 1) (k : Int)).data.toList out.data.toList))]) (cells := [.int .i64 ((out.size : Int) - ((rdS ((candW a b i j).drop 1) (k : Int)).size : Int)), .int .i64 (Lib.compareBytes (rdS ((candW a b i j).drop 1) (k : Int)).data.toList out.data.toList)]) rfl rfl Try.underlying46 hi3.1 hi3.2.1 (by rw [hi3.2.2.1]; rfl) (by rw [hi3.2.2.1]; rfl) (by rw [hi3.2.2.1]; kernel_rfl)) rfl rfl rfl rfl (fun b55 hb55 => ?_)
    refine s_tr (t_call rfl rfl ent_93 (fun w h => Or_any w _ ((out.size : Int) - ((rdS ((candW a b i j).drop 1) (k : Int)).size : Int)) (Lib.compareBytes (rdS ((candW a b i j).drop 1) (k : Int)).data.toList out.data.toList) (RdV.own (enc := (Value.int .i64)) (xs := [(out.size : Int) - ((rdS ((candW a b i j).drop 1) (k : Int)).size : Int), Lib.compareBytes (rdS ((candW a b i j).drop 1) (k : Int)).data.toList out.data.toList]) (jk := []) (at_of (i := 0) h rfl) rfl (Nat.le_refl _)))) rfl rfl rfl rfl (fun _ _ => ?_)
    refine s_y (y_assign rfl) rfl rfl rfl rfl ?_
    refine s_nil ?_
    refine g_then ?_
    refine g_seq ?_
    refine g_region ?_
    refine s_y (y_move rfl) rfl rfl rfl rfl ?_
    refine s_y (y_lss rfl rfl) rfl rfl rfl rfl ?_
    refine s_nil ?_
    refine g_then ?_
    refine g_cond rfl (fun cq2 => ?_) (fun cq2 => ?_)
    · (try simp at cq2)
      have hbt : betC (rdS ((candW a b i j).drop 1) (k : Int)) out = true := by rw [← or_C (rdS ((candW a b i j).drop 1) (k : Int)) out]; exact decide_eq_true (by simpa only [List.drop_one] using cq2)
      refine g_region ?_
      refine s_y (y_move rfl) rfl rfl rfl rfl ?_
      refine s_y (y_assign rfl) rfl rfl rfl rfl ?_
      refine s_nil ?_
      refine g_inb ?_
      refine g_then ?_
      refine g_region ?_
      refine s_y (y_add rfl rfl (by omega) (by omega)) rfl rfl rfl rfl ?_
      refine s_y (y_move rfl) rfl rfl rfl rfl ?_
      refine s_nil ?_
      refine g_then ?_
      exact fun act W ha hw => ⟨k + 1, by omega, by omega, (rdS ((candW a b i j).drop 1) (k : Int)), (by rw [bstK, ← hout]; first | exact (if_pos hbt).symm | exact (if_neg hbt).symm), ha.weak (sub_get ⟨rfl, rfl, rfl, rfl, rfl, rfl, rfl, rfl, trivial⟩), (hw.tail hb55.2) ⟩
    · (try simp at cq2)
      have hbt : ¬ betC (rdS ((candW a b i j).drop 1) (k : Int)) out = true := by rw [← or_C (rdS ((candW a b i j).drop 1) (k : Int)) out, decide_eq_true_iff, List.drop_one]; omega
      refine g_skip ?_
      refine g_inb ?_
      refine g_then ?_
      refine g_region ?_
      refine s_y (y_add rfl rfl (by omega) (by omega)) rfl rfl rfl rfl ?_
      refine s_y (y_move rfl) rfl rfl rfl rfl ?_
      refine s_nil ?_
      refine g_then ?_
      exact fun act W ha hw => ⟨k + 1, by omega, by omega, out, (by rw [bstK, ← hout]; first | exact (if_pos hbt).symm | exact (if_neg hbt).symm), ha.weak (sub_get ⟨rfl, rfl, rfl, rfl, rfl, rfl, rfl, rfl, trivial⟩), (hw.tail hb55.2) ⟩
  · (try simp at cq1)
    refine g_exit ?_
    refine g_thenx ?_
    refine g_thenx ?_
    refine g_inbx ?_
    refine g_then ?_
    refine g_seq ?_
    refine g_region ?_
    refine s_y (y_move rfl) rfl rfl rfl rfl ?_
    refine s_y (y_nil rfl) rfl rfl rfl rfl ?_
    refine s_y (y_fld rfl (fun w => fld_127_2 _ _ w)) rfl rfl rfl rfl ?_
    refine s_y (y_ld1 1 rfl rfl agg_125 rfl) rfl rfl rfl rfl ?_
    refine s_y (y_move rfl) rfl rfl rfl rfl ?_
    refine s_y (y_move rfl) rfl rfl rfl rfl ?_
    refine s_y (y_build (vs := [(0, _), (1, _)]) rfl rfl (fun w => bld_79_0_1 _ _ w)) rfl rfl rfl rfl ?_
    refine s_y (y_move rfl) rfl rfl rfl rfl ?_
    refine s_tr0 (t_putG (k := (i, j)) (v := .string out) 0 word_map hM2 rfl rfl rfl rfl rfl (okpI (by simp only; omega) (by simp only; omega))) rfl rfl rfl (fun y hy => ?_)
    refine s_nil ?_
    refine g_then ?_
    refine g_seq ?_
    refine g_region ?_
    refine s_y (y_move rfl) rfl rfl rfl rfl ?_
    refine s_y (y_assign rfl) rfl rfl rfl rfl ?_
    refine s_nil ?_
    refine g_then ?_
    refine g_ret ?_
    have hfin : out = cmP a b i j := by rw [hout, show k = (candW a b i j).length - 1 by omega]; exact bst_C h0 h1 h2 h3
    exact g_end0 (fun a w ha hq_ => res1 ha rfl rfl  w) (fun w h => ⟨y, SndW.put hFs2 hy hfin, by rw [hfin], Hp.drops (nw := mo) ((show Hp w0 w1 ((mb, .map y.1 y.2) :: (bw, .cells [.string a, .string b, .map (some mb), (.func (.func 76) #[] #[]), (.func (.func 77) #[] #[])].toArray 127 (0, 0)) :: (mo ++ ((m ++ ([]))))) w from h).perm (show ((mb, .map y.1 y.2) :: (bw, .cells [.string a, .string b, .map (some mb), (.func (.func 76) #[] #[]), (.func (.func 77) #[] #[])].toArray 127 (0, 0)) :: (mo ++ ((m ++ ([])))) : List (Nat × Obj)).Perm ((mo ++ ((mb, .map y.1 y.2) :: (bw, .cells [.string a, .string b, .map (some mb), (.func (.func 76) #[] #[]), (.func (.func 77) #[] #[])].toArray 127 (0, 0)) :: (m ++ ([])))) : List (Nat × Obj)) from List.Perm.trans (List.Perm.of_eq (by simp only [List.append_assoc, List.cons_append, List.nil_append, List.append_nil])) (List.Perm.trans (List.perm_append_comm_assoc ((mb, .map y.1 y.2) :: (bw, .cells [.string a, .string b, .map (some mb), (.func (.func 76) #[] #[]), (.func (.func 77) #[] #[])].toArray 127 (0, 0)) :: [] : List (Nat × Obj)) ((mo ++ ([])) : List (Nat × Obj)) ((m ++ ([])) : List (Nat × Obj))) (List.Perm.of_eq (by simp only [List.append_assoc, List.cons_append, List.nil_append, List.append_nil]))))) hge⟩)

theorem nextC_any {a b : ByteArray} (hla : a.size ≤ 12) (hlb : b.size ≤ 12) {n : Nat} {w0 w1 w : World} {m : List (Nat × Obj)} {bw mb : Nat} {es : Array MapEntry} {clock : Nat} {i j : Int} (h0 : 0 ≤ i) (h1 : i ≤ a.size) (h2 : 0 ≤ j) (h3 : j ≤ b.size) (hn : (a.size : Int) - i + ((b.size : Int) - j) ≤ n) (hS : SndW (cmP a b) es) (hw : Hp w0 w1 ((mb, .map es clock) :: (bw, Obj.cells [.string a, .string b, .map (some mb), (.func (.func 76) #[] #[]), (.func (.func 77) #[] #[])].toArray 127 (0, 0)) :: (m ++ [])) w) (IH : ∀ n', n' < n → BestAtC a b n') :
    Calls Try.prog 77 [.pointer (some ⟨bw, 0, none⟩), .int .i64 i, .int .i64 j].toArray w fun e w' => ∃ y : (Array MapEntry × Nat) × Value × List (Nat × Obj), (SndW (cmP a b) y.1.1 ∧ OwnV Value.string y.2.1 (candW a b i j) y.2.2 ∧ ∀ p ∈ y.2.2, w1.heap.size ≤ p.1) ∧ e = .returned y.2.1 ∧ Hp w0 w1 ((mb, .map y.1.1 y.1.2) :: (bw, Obj.cells [.string a, .string b, .map (some mb), (.func (.func 76) #[] #[]), (.func (.func 77) #[] #[])].toArray 127 (0, 0)) :: (y.2.2 ++ (m ++ []))) w' := by
  obtain ⟨ie9_, hi9_⟩ := inf_9
  have zs1 := fun (p q : Int) (r0 : 0 ≤ p) (r1 : p ≤ a.size) (r2 : 0 ≤ q) (r3 : q ≤ b.size) => cmP_size (a := a) (b := b) 100 p q r0 r1 r2 r3 (by omega)
  obtain ⟨ie9, hi9⟩ := inf_9
  refine enterM (N := 68) Try.func77 rfl rfl rfl hw ?_
  refine g_seq ?_
  refine g_region ?_
  refine s_y (y_assign rfl) rfl rfl rfl rfl ?_
  refine s_nil ?_
  refine g_then ?_
  refine g_seq ?_
  refine g_seq ?_
  refine g_region ?_
  refine s_y (y_move rfl) rfl rfl rfl rfl ?_
  refine s_y (y_move rfl) rfl rfl rfl rfl ?_
  refine s_y (y_nil rfl) rfl rfl rfl rfl ?_
  refine s_y (y_fld rfl (fun w => fld_127_0 _ _ w)) rfl rfl rfl rfl ?_
  refine s_y (y_ld1 1 rfl rfl agg_9 rfl) rfl rfl rfl rfl ?_
  refine s_y (y_lens rfl Try.underlying9) rfl rfl rfl rfl ?_
  refine s_y (y_eql rfl rfl) rfl rfl rfl rfl ?_
  refine s_y (y_move rfl) rfl rfl rfl rfl ?_
  refine g_bool 15 rfl (fun cq1 => ?_) (fun cq1 => ?_)
  · (try simp at cq1)
    refine s_no rfl rfl rfl ?_
    refine s_no rfl rfl rfl ?_
    refine s_no rfl rfl rfl ?_
    refine s_no rfl rfl rfl ?_
    refine s_no rfl rfl rfl ?_
    refine s_no rfl rfl rfl ?_
    refine s_no rfl rfl rfl ?_
    refine s_y (y_pick_t rfl rfl) rfl rfl rfl rfl ?_
    refine s_nil ?_
    refine g_then ?_
    refine g_cond_t rfl ?_
    refine g_seq ?_
    refine g_region ?_
    refine s_tr (t_build (vs := [(0, .string (⟨#[]⟩ : ByteArray))]) (cells := [.string (⟨#[]⟩ : ByteArray)]) rfl rfl Try.underlying45 hi9.1 hi9.2.1 (by rw [hi9.2.2.1]; rfl) (by rw [hi9.2.2.1]; rfl) (by rw [hi9.2.2.1]; kernel_rfl)) rfl rfl rfl rfl (fun b24 hb24 => ?_)
    refine s_y (y_assign rfl) rfl rfl rfl rfl ?_
    refine s_nil ?_
    refine g_then ?_
    refine g_ret ?_
    refine g_thenr ?_
    rw [show (candW a b i j) = [(⟨#[]⟩ : ByteArray)] from by unfold candW; (repeat' split) <;> first | rfl | (exfalso; omega)]
    exact g_end0 (fun a w ha hq_ => res1 ha rfl rfl  w) (fun w h => ⟨((es, clock), _, ((b24, .cells [.string (⟨#[]⟩ : ByteArray)].toArray 9 (0, 0)) :: [])), ⟨hS, (OwnV.blk (enc := Value.string) (xs := [(⟨#[]⟩ : ByteArray)]) (jk := []) (t := 9) rfl (Nat.le_refl _)).mono (fun p hp => by rw [List.mem_singleton] at hp; rw [hp]; exact (List.mem_cons_self ..)), (ge_con hb24.2 ge_nl)⟩, rfl, by simpa only [List.cons_append, List.append_assoc, List.nil_append] using ((show Hp w0 w1 ((b24, .cells [.string (⟨#[]⟩ : ByteArray)].toArray 9 (0, 0)) :: (mb, .map es clock) :: (bw, .cells [.string a, .string b, .map (some mb), (.func (.func 76) #[] #[]), (.func (.func 77) #[] #[])].toArray 127 (0, 0)) :: (m ++ ([]))) w from h).perm (show ((b24, .cells [.string (⟨#[]⟩ : ByteArray)].toArray 9 (0, 0)) :: (mb, .map es clock) :: (bw, .cells [.string a, .string b, .map (some mb), (.func (.func 76) #[] #[]), (.func (.func 77) #[] #[])].toArray 127 (0, 0)) :: (m ++ ([])) : List (Nat × Obj)).Perm ((mb, .map es clock) :: (bw, .cells [.string a, .string b, .map (some mb), (.func (.func 76) #[] #[]), (.func (.func 77) #[] #[])].toArray 127 (0, 0)) :: (b24, .cells [.string (⟨#[]⟩ : ByteArray)].toArray 9 (0, 0)) :: (m ++ ([])) : List (Nat × Obj)) from List.Perm.trans (List.Perm.of_eq (by simp only [List.append_assoc, List.cons_append, List.nil_append, List.append_nil])) (List.Perm.trans (List.perm_append_comm_assoc ((b24, .cells [.string (⟨#[]⟩ : ByteArray)].toArray 9 (0, 0)) :: [] : List (Nat × Obj)) ((mb, .map es clock) :: (bw, .cells [.string a, .string b, .map (some mb), (.func (.func 76) #[] #[]), (.func (.func 77) #[] #[])].toArray 127 (0, 0)) :: [] : List (Nat × Obj)) ((m ++ ([])) : List (Nat × Obj))) (List.Perm.of_eq (by simp only [List.append_assoc, List.cons_append, List.nil_append, List.append_nil])))))⟩)
  · (try simp at cq1)
    refine s_y (y_move rfl) rfl rfl rfl rfl ?_
    refine s_y (y_move rfl) rfl rfl rfl rfl ?_
    refine s_y (y_nil rfl) rfl rfl rfl rfl ?_
    refine s_y (y_fld rfl (fun w => fld_127_1 _ _ w)) rfl rfl rfl rfl ?_
    refine s_y (y_ld1 1 rfl rfl agg_9 rfl) rfl rfl rfl rfl ?_
    refine s_y (y_lens rfl Try.underlying9) rfl rfl rfl rfl ?_
    refine s_y (y_eql rfl rfl) rfl rfl rfl rfl ?_
    refine s_y (y_pick_f rfl rfl) rfl rfl rfl rfl ?_
    refine s_nil ?_
    refine g_then ?_
    refine g_cond rfl (fun cq2 => ?_) (fun cq2 => ?_)
    · (try simp at cq2)
      refine g_seq ?_
      refine g_region ?_
      refine s_tr (t_build (vs := [(0, .string (⟨#[]⟩ : ByteArray))]) (cells := [.string (⟨#[]⟩ : ByteArray)]) rfl rfl Try.underlying45 hi9.1 hi9.2.1 (by rw [hi9.2.2.1]; rfl) (by rw [hi9.2.2.1]; rfl) (by rw [hi9.2.2.1]; kernel_rfl)) rfl rfl rfl rfl (fun b24 hb24 => ?_)
      refine s_y (y_assign rfl) rfl rfl rfl rfl ?_
      refine s_nil ?_
      refine g_then ?_
      refine g_ret ?_
      refine g_thenr ?_
      rw [show (candW a b i j) = [(⟨#[]⟩ : ByteArray)] from by unfold candW; (repeat' split) <;> first | rfl | (exfalso; omega)]
      exact g_end0 (fun a w ha hq_ => res1 ha rfl rfl  w) (fun w h => ⟨((es, clock), _, ((b24, .cells [.string (⟨#[]⟩ : ByteArray)].toArray 9 (0, 0)) :: [])), ⟨hS, (OwnV.blk (enc := Value.string) (xs := [(⟨#[]⟩ : ByteArray)]) (jk := []) (t := 9) rfl (Nat.le_refl _)).mono (fun p hp => by rw [List.mem_singleton] at hp; rw [hp]; exact (List.mem_cons_self ..)), (ge_con hb24.2 ge_nl)⟩, rfl, by simpa only [List.cons_append, List.append_assoc, List.nil_append] using ((show Hp w0 w1 ((b24, .cells [.string (⟨#[]⟩ : ByteArray)].toArray 9 (0, 0)) :: (mb, .map es clock) :: (bw, .cells [.string a, .string b, .map (some mb), (.func (.func 76) #[] #[]), (.func (.func 77) #[] #[])].toArray 127 (0, 0)) :: (m ++ ([]))) w from h).perm (show ((b24, .cells [.string (⟨#[]⟩ : ByteArray)].toArray 9 (0, 0)) :: (mb, .map es clock) :: (bw, .cells [.string a, .string b, .map (some mb), (.func (.func 76) #[] #[]), (.func (.func 77) #[] #[])].toArray 127 (0, 0)) :: (m ++ ([])) : List (Nat × Obj)).Perm ((mb, .map es clock) :: (bw, .cells [.string a, .string b, .map (some mb), (.func (.func 76) #[] #[]), (.func (.func 77) #[] #[])].toArray 127 (0, 0)) :: (b24, .cells [.string (⟨#[]⟩ : ByteArray)].toArray 9 (0, 0)) :: (m ++ ([])) : List (Nat × Obj)) from List.Perm.trans (List.Perm.of_eq (by simp only [List.append_assoc, List.cons_append, List.nil_append, List.append_nil])) (List.Perm.trans (List.perm_append_comm_assoc ((b24, .cells [.string (⟨#[]⟩ : ByteArray)].toArray 9 (0, 0)) :: [] : List (Nat × Obj)) ((mb, .map es clock) :: (bw, .cells [.string a, .string b, .map (some mb), (.func (.func 76) #[] #[]), (.func (.func 77) #[] #[])].toArray 127 (0, 0)) :: [] : List (Nat × Obj)) ((m ++ ([])) : List (Nat × Obj))) (List.Perm.of_eq (by simp only [List.append_assoc, List.cons_append, List.nil_append, List.append_nil])))))⟩)
    · (try simp at cq2)
      refine g_skip ?_
      refine g_then ?_
      refine g_seq ?_
      refine g_region ?_
      refine s_y (y_move rfl) rfl rfl rfl rfl ?_
      refine s_y (y_move rfl) rfl rfl rfl rfl ?_
      refine s_y (y_add rfl rfl (by omega) (by omega)) rfl rfl rfl rfl ?_
      refine s_y (y_move rfl) rfl rfl rfl rfl ?_
      refine s_tr (t_callx (ι := Array MapEntry × Nat) (A := fun y => SndW (cmP a b) y.1) (vf := fun _ => .string (cmP a b (i + 1) j)) (wf := fun _ => w1) (mf := fun y => (mb, .map y.1 y.2) :: (bw, .cells [.string a, .string b, .map (some mb), (.func (.func 76) #[] #[]), (.func (.func 77) #[] #[])].toArray 127 (0, 0)) :: (m ++ ([]))) rfl rfl ent_90 (fun w h => by simp only [Array.append_empty, Array.empty_append]; exact (IH (n - 1) (by omega) w0 w1 w _ bw mb es clock (i + 1) j (by omega) (by omega) (by omega) (by omega) (by omega) hS h).mono fun e w' ⟨y, q1, q2, q3⟩ => ⟨y, q1, q2, q3⟩)) rfl rfl rfl rfl (fun y3 hy3 => ?_)
      refine s_y (y_move rfl) rfl rfl rfl rfl ?_
      refine s_y (y_move rfl) rfl rfl rfl rfl ?_
      refine s_y (y_move rfl) rfl rfl rfl rfl ?_
      refine s_y (y_add rfl rfl (by omega) (by omega)) rfl rfl rfl rfl ?_
      refine s_tr (t_callx (ι := Array MapEntry × Nat) (A := fun y => SndW (cmP a b) y.1) (vf := fun _ => .string (cmP a b i (j + 1))) (wf := fun _ => w1) (mf := fun y => (mb, .map y.1 y.2) :: (bw, .cells [.string a, .string b, .map (some mb), (.func (.func 76) #[] #[]), (.func (.func 77) #[] #[])].toArray 127 (0, 0)) :: (m ++ ([]))) rfl rfl ent_90 (fun w h => by simp only [Array.append_empty, Array.empty_append]; exact (IH (n - 1) (by omega) w0 w1 w _ bw mb y3.1 y3.2 i (j + 1) (by omega) (by omega) (by omega) (by omega) (by omega) hy3 h).mono fun e w' ⟨y, q1, q2, q3⟩ => ⟨y, q1, q2, q3⟩)) rfl rfl rfl rfl (fun y4 hy4 => ?_)
      refine s_tr (t_build (vs := [(0, .string (cmP a b (i + 1) j)), (1, .string (cmP a b i (j + 1)))]) (cells := [.string (cmP a b (i + 1) j), .string (cmP a b i (j + 1))]) rfl rfl Try.underlying45 hi9.1 hi9.2.1 (by rw [hi9.2.2.1]; rfl) (by rw [hi9.2.2.1]; rfl) (by rw [hi9.2.2.1]; kernel_rfl)) rfl rfl rfl rfl (fun b35 hb35 => ?_)
      have hok5 : (SV.own b35 2 []).ok 1 2 (([cmP a b (i + 1) j, cmP a b i (j + 1)]).map Value.string) := ⟨Nat.le_refl _, by unfold maxLen; decide, rfl, rfl⟩
      refine g_perm' (m' := ((SV.own b35 2 []).mem 9 (([cmP a b (i + 1) j, cmP a b i (j + 1)]).map Value.string) ++ ((mb, .map y4.1 y4.2) :: (bw, .cells [.string a, .string b, .map (some mb), (.func (.func 76) #[] #[]), (.func (.func 77) #[] #[])].toArray 127 (0, 0)) :: (m ++ ([]))))) (List.Perm.of_eq rfl) ?_
      refine g_perm' (m' := (mb, .map y4.1 y4.2) :: (bw, .cells [.string a, .string b, .map (some mb), (.func (.func 76) #[] #[]), (.func (.func 77) #[] #[])].toArray 127 (0, 0)) :: ((SV.own b35 2 []).mem 9 (([cmP a b (i + 1) j, cmP a b i (j + 1)]).map Value.string) ++ ((m ++ ([]))))) (show ((mb, .map y4.1 y4.2) :: (bw, .cells [.string a, .string b, .map (some mb), (.func (.func 76) #[] #[]), (.func (.func 77) #[] #[])].toArray 127 (0, 0)) :: ((SV.own b35 2 []).mem 9 (([cmP a b (i + 1) j, cmP a b i (j + 1)]).map Value.string) ++ ((m ++ ([])))) : List (Nat × Obj)).Perm (((SV.own b35 2 []).mem 9 (([cmP a b (i + 1) j, cmP a b i (j + 1)]).map Value.string) ++ ((mb, .map y4.1 y4.2) :: (bw, .cells [.string a, .string b, .map (some mb), (.func (.func 76) #[] #[]), (.func (.func 77) #[] #[])].toArray 127 (0, 0)) :: (m ++ ([])))) : List (Nat × Obj)) from List.Perm.trans (List.Perm.of_eq (by simp only [List.append_assoc, List.cons_append, List.nil_append, List.append_nil])) (List.Perm.trans (List.perm_append_comm_assoc ((mb, .map y4.1 y4.2) :: (bw, .cells [.string a, .string b, .map (some mb), (.func (.func 76) #[] #[]), (.func (.func 77) #[] #[])].toArray 127 (0, 0)) :: [] : List (Nat × Obj)) (((SV.own b35 2 []).mem 9 (([cmP a b (i + 1) j, cmP a b i (j + 1)]).map Value.string) ++ ([])) : List (Nat × Obj)) ((m ++ ([])) : List (Nat × Obj))) (List.Perm.of_eq (by simp only [List.append_assoc, List.cons_append, List.nil_append, List.append_nil])))) ?_
      refine s_y (y_assign rfl) rfl rfl rfl rfl ?_
      refine s_nil ?_
      refine g_then ?_
      refine g_seq ?_
      refine g_seq ?_
      refine g_draw 13 (by kernel_rfl) ?_
      refine j_p (i := 0) rfl (y_move rfl) (by kernel_rfl) (by kernel_rfl) (by kernel_rfl) rfl rfl rfl rfl rfl (.inr (fun _ h => h)) ?_
      refine j_p (i := 1) rfl (y_nil rfl) (by kernel_rfl) (by kernel_rfl) (by kernel_rfl) rfl rfl rfl rfl rfl (.inr (fun _ h => h)) ?_
      refine j_p (i := 2) rfl (y_fld rfl (fun w => fld_127_0 _ _ w)) (by kernel_rfl) (by kernel_rfl) (by kernel_rfl) rfl rfl rfl rfl rfl (.inr (fun _ h => h)) ?_
      refine j_l (i := 3) rfl (y_ld1 1 rfl rfl agg_9 rfl) (by kernel_rfl) (by kernel_rfl) (by kernel_rfl) (by kernel_rfl) rfl rfl rfl rfl rfl (.inr (fun _ h => h)) ?_
      refine j_p (i := 4) rfl (y_move rfl) (by kernel_rfl) (by kernel_rfl) (by kernel_rfl) rfl rfl rfl rfl rfl (.inr (fun _ h => h)) ?_
      refine j_p (i := 5) rfl (y_idxs rfl rfl Try.underlying9 (by omega) (by omega)) (by kernel_rfl) (by kernel_rfl) (by kernel_rfl) rfl rfl rfl rfl rfl (.inr (fun _ h => h)) ?_
      refine j_p (i := 6) rfl (y_move rfl) (by kernel_rfl) (by kernel_rfl) (by kernel_rfl) rfl rfl rfl rfl rfl (.inr (fun _ h => h)) ?_
      refine j_p (i := 7) rfl (y_nil rfl) (by kernel_rfl) (by kernel_rfl) (by kernel_rfl) rfl rfl rfl rfl rfl (.inr (fun _ h => h)) ?_
      refine j_p (i := 8) rfl (y_fld rfl (fun w => fld_127_1 _ _ w)) (by kernel_rfl) (by kernel_rfl) (by kernel_rfl) rfl rfl rfl rfl rfl (.inr (fun _ h => h)) ?_
      refine j_l (i := 9) rfl (y_ld1 1 rfl rfl agg_9 rfl) (by kernel_rfl) (by kernel_rfl) (by kernel_rfl) (by kernel_rfl) rfl rfl rfl rfl rfl (.inr (fun _ h => h)) ?_
      refine j_p (i := 10) rfl (y_move rfl) (by kernel_rfl) (by kernel_rfl) (by kernel_rfl) rfl rfl rfl rfl rfl (.inr (fun _ h => h)) ?_
      refine j_p (i := 11) rfl (y_idxs rfl rfl Try.underlying9 (by omega) (by omega)) (by kernel_rfl) (by kernel_rfl) (by kernel_rfl) rfl rfl rfl rfl rfl (.inr (fun _ h => h)) ?_
      refine j_p (i := 12) rfl (y_eql rfl rfl) (by kernel_rfl) (by kernel_rfl) (by kernel_rfl) rfl rfl rfl rfl rfl (.inr (fun _ h => h)) ?_
      refine j_nil (by kernel_rfl) ?_
      refine g_then ?_
      refine g_cond rfl (fun cq6 => ?_) (fun cq6 => ?_)
      · (try simp at cq6)
        have hca := cutB_size (a := a) (i := i) h0 (by omega)
        unfold cutB at hca
        have q3 := zs1 (i + 1) (j + 1) (by omega) (by omega) (by omega) (by omega)
        refine g_drawC 19 (fun W => ∀ p ∈ ((bw, .cells [.string a, .string b, .map (some mb), (.func (.func 76) #[] #[]), (.func (.func 77) #[] #[])].toArray 127 (0, 0)) :: [] : List (Nat × Obj)), W.heap[p.1]? = some p.2) (by kernel_rfl) ?_
        refine j_p (i := 0) rfl (y_move rfl) (by kernel_rfl) (by kernel_rfl) (by kernel_rfl) rfl rfl rfl rfl rfl (.inr (fun _ h => at_all h (List.Sublist.cons _ (List.Sublist.cons_cons _ (List.nil_sublist _))))) ?_
        refine j_p (i := 1) rfl (y_move rfl) (by kernel_rfl) (by kernel_rfl) (by kernel_rfl) rfl rfl rfl rfl rfl (.inr (fun _ h => at_all h (List.Sublist.cons _ (List.Sublist.cons_cons _ (List.nil_sublist _))))) ?_
        refine j_p (i := 2) rfl (y_nil rfl) (by kernel_rfl) (by kernel_rfl) (by kernel_rfl) rfl rfl rfl rfl rfl (.inr (fun _ h => at_all h (List.Sublist.cons _ (List.Sublist.cons_cons _ (List.nil_sublist _))))) ?_
        refine j_p (i := 3) rfl (y_fld rfl (fun w => fld_127_0 _ _ w)) (by kernel_rfl) (by kernel_rfl) (by kernel_rfl) rfl rfl rfl rfl rfl (.inr (fun _ h => at_all h (List.Sublist.cons _ (List.Sublist.cons_cons _ (List.nil_sublist _))))) ?_
        refine j_l (i := 4) rfl (y_ldC (fun w h => h _ (List.mem_cons_self ..)) rfl agg_9 rfl) (by kernel_rfl) (by kernel_rfl) (by kernel_rfl) (by kernel_rfl) rfl rfl rfl rfl rfl (.inr (fun _ h => at_all h (List.Sublist.cons _ (List.Sublist.cons_cons _ (List.nil_sublist _))))) ?_
        refine j_p (i := 5) rfl (y_move rfl) (by kernel_rfl) (by kernel_rfl) (by kernel_rfl) rfl rfl rfl rfl rfl (.inr (fun _ h => at_all h (List.Sublist.cons _ (List.Sublist.cons_cons _ (List.nil_sublist _))))) ?_
        refine j_p (i := 6) rfl (y_move rfl) (by kernel_rfl) (by kernel_rfl) (by kernel_rfl) rfl rfl rfl rfl rfl (.inr (fun _ h => at_all h (List.Sublist.cons _ (List.Sublist.cons_cons _ (List.nil_sublist _))))) ?_
        refine j_p (i := 7) rfl (y_add rfl rfl (by omega) (by omega)) (by kernel_rfl) (by kernel_rfl) (by kernel_rfl) rfl rfl rfl rfl rfl (.inr (fun _ h => at_all h (List.Sublist.cons _ (List.Sublist.cons_cons _ (List.nil_sublist _))))) ?_
        refine j_p (i := 8) rfl (y_strlh rfl rfl rfl Try.underlying9 (by omega) (by omega) (by omega)) (by kernel_rfl) (by kernel_rfl) (by kernel_rfl) rfl rfl rfl rfl rfl (.inr (fun _ h => at_all h (List.Sublist.cons _ (List.Sublist.cons_cons _ (List.nil_sublist _))))) ?_
        refine j_p (i := 9) rfl (y_move rfl) (by kernel_rfl) (by kernel_rfl) (by kernel_rfl) rfl rfl rfl rfl rfl (.inr (fun _ h => at_all h (List.Sublist.cons _ (List.Sublist.cons_cons _ (List.nil_sublist _))))) ?_
        refine j_p (i := 10) rfl (y_move rfl) (by kernel_rfl) (by kernel_rfl) (by kernel_rfl) rfl rfl rfl rfl rfl (.inr (fun _ h => at_all h (List.Sublist.cons _ (List.Sublist.cons_cons _ (List.nil_sublist _))))) ?_
        refine j_p (i := 11) rfl (y_add rfl rfl (by omega) (by omega)) (by kernel_rfl) (by kernel_rfl) (by kernel_rfl) rfl rfl rfl rfl rfl (.inr (fun _ h => at_all h (List.Sublist.cons _ (List.Sublist.cons_cons _ (List.nil_sublist _))))) ?_
        refine j_p (i := 12) rfl (y_move rfl) (by kernel_rfl) (by kernel_rfl) (by kernel_rfl) rfl rfl rfl rfl rfl (.inr (fun _ h => at_all h (List.Sublist.cons _ (List.Sublist.cons_cons _ (List.nil_sublist _))))) ?_
        refine j_p (i := 13) rfl (y_add rfl rfl (by omega) (by omega)) (by kernel_rfl) (by kernel_rfl) (by kernel_rfl) rfl rfl rfl rfl rfl (.inr (fun _ h => at_all h (List.Sublist.cons _ (List.Sublist.cons_cons _ (List.nil_sublist _))))) ?_
        refine j_tr (i := 14) rfl (t_callx (ι := Array MapEntry × Nat) (A := fun y => SndW (cmP a b) y.1) (vf := fun _ => .string (cmP a b (i + 1) (j + 1))) (wf := fun _ => w1) (mf := fun y => (mb, .map y.1 y.2) :: (bw, .cells [.string a, .string b, .map (some mb), (.func (.func 76) #[] #[]), (.func (.func 77) #[] #[])].toArray 127 (0, 0)) :: ((SV.own b35 2 []).mem 9 (([cmP a b (i + 1) j, cmP a b i (j + 1)]).map Value.string) ++ ((m ++ ([]))))) rfl rfl ent_90 (fun w h => by simp only [Array.append_empty, Array.empty_append]; exact (IH (n - 1) (by omega) w0 w1 w _ bw mb y4.1 y4.2 (i + 1) (j + 1) (by omega) (by omega) (by omega) (by omega) (by omega) hy4 h).mono fun e w' ⟨y, q1, q2, q3⟩ => ⟨y, q1, q2, q3⟩)) (by kernel_rfl) rfl rfl rfl rfl (.inr (fun x w hb h => at_all h (List.Sublist.cons _ (List.Sublist.cons_cons _ (List.nil_sublist _))))) (fun y7 hy7 => ?_)
        refine j_p (i := 15) rfl (y_sadd rfl rfl (by omega)) (by kernel_rfl) (by kernel_rfl) (by kernel_rfl) rfl rfl rfl rfl rfl (.inr (fun _ h => at_all h (List.Sublist.cons _ (List.Sublist.cons_cons _ (List.nil_sublist _))))) ?_
        refine j_tr (i := 16) rfl (t_build (vs := [(0, .string ((a.extract (i : Int).toNat (i + 1 : Int).toNat) ++ (cmP a b (i + 1) (j + 1))))]) (cells := [.string ((a.extract (i : Int).toNat (i + 1 : Int).toNat) ++ (cmP a b (i + 1) (j + 1)))]) rfl rfl Try.underlying45 hi9.1 hi9.2.1 (by rw [hi9.2.2.1]; rfl) (by rw [hi9.2.2.1]; rfl) (by rw [hi9.2.2.1]; kernel_rfl)) (by kernel_rfl) rfl rfl rfl rfl (.inr (fun x w hb h => at_all h (List.Sublist.cons _ (List.Sublist.cons _ (List.Sublist.cons_cons _ (List.nil_sublist _)))))) (fun b65 hb65 => ?_)
        refine j_tr (i := 17) rfl (t_appendLO (enc := Value.string) (sv := (SV.own b35 2 [])) (xs := [cmP a b (i + 1) j, cmP a b i (j + 1)]) (n := 2) (v := (a.extract (i : Int).toNat (i + 1 : Int).toNat) ++ (cmP a b (i + 1) (j + 1))) [_, _, _] _ rfl rfl rfl hok5 Try.underlying45 hi9.1 hi9.2.1 hi9.2.2.1 hi9.2.2.2 rfl (fun w h => h.toHq.cell (i := 0) rfl rfl) rfl (by omega) (by unfold maxLen; omega)) (by kernel_rfl) rfl rfl rfl rfl (.inr (fun x w hb h => at_all h (List.Sublist.cons _ (List.Sublist.cons _ (List.Sublist.cons_cons _ (List.nil_sublist _)))))) (fun y11 hy12 => ?_)
        obtain ⟨sv8, gs9⟩ := y11
        obtain ⟨⟨hok10, hok10b, hok10c, hok10j, hok10e⟩, hok10n, hok10o⟩ := hy12
        refine j_p (i := 18) rfl (y_assign rfl) (by kernel_rfl) (by kernel_rfl) (by kernel_rfl) rfl rfl rfl rfl rfl (.inr (fun _ h => at_all h (List.Sublist.cons _ (List.Sublist.cons _ (List.Sublist.cons_cons _ (List.nil_sublist _)))))) ?_
        refine j_nil (by kernel_rfl) ?_
        refine g_then ?_
        refine g_seq ?_
        refine g_region ?_
        refine s_y (y_move rfl) rfl rfl rfl rfl ?_
        refine s_y (y_assign rfl) rfl rfl rfl rfl ?_
        refine s_nil ?_
        refine g_then ?_
        refine g_ret ?_
        rw [show (candW a b i j) = [cmP a b (i + 1) j, cmP a b i (j + 1)] ++ [(a.extract (i : Int).toNat (i + 1 : Int).toNat) ++ (cmP a b (i + 1) (j + 1))] from by unfold candW; (repeat' split) <;> first | rfl | (exfalso; omega)]
        exact g_end0 (fun a w ha hq_ => res1 ha rfl rfl  w) (fun w h => ⟨((y7.1, y7.2), _, ((b65, .cells [.string ((a.extract (i : Int).toNat (i + 1 : Int).toNat) ++ (cmP a b (i + 1) (j + 1)))].toArray 9 (0, 0)) :: (sv8.mem 9 (([cmP a b (i + 1) j, cmP a b i (j + 1)] ++ [(a.extract (i : Int).toNat (i + 1 : Int).toNat) ++ (cmP a b (i + 1) (j + 1))]).map Value.string) ++ ((gs9 ++ ([])))))), ⟨hy7, (OwnV.sv hok10).mono (fun p hp => (List.mem_cons_of_mem _ (mem_al (sv8.mem 9 (([cmP a b (i + 1) j, cmP a b i (j + 1)] ++ [(a.extract (i : Int).toNat (i + 1 : Int).toNat) ++ (cmP a b (i + 1) (j + 1))]).map Value.string)) hp))), (ge_con hb65.2 (ge_app (fun p hp => (ge_ids hb35.2 hok10o) p (List.mem_append_left _ hp)) (ge_app (fun p hp => (ge_ids hb35.2 hok10o) p (List.mem_append_right _ hp)) ge_nl)))⟩, rfl, by simpa only [List.cons_append, List.append_assoc, List.nil_append] using ((show Hp w0 w1 ((b65, .cells [.string ((a.extract (i : Int).toNat (i + 1 : Int).toNat) ++ (cmP a b (i + 1) (j + 1)))].toArray 9 (0, 0)) :: (mb, .map y7.1 y7.2) :: (bw, .cells [.string a, .string b, .map (some mb), (.func (.func 76) #[] #[]), (.func (.func 77) #[] #[])].toArray 127 (0, 0)) :: (sv8.mem 9 (([cmP a b (i + 1) j, cmP a b i (j + 1)] ++ [(a.extract (i : Int).toNat (i + 1 : Int).toNat) ++ (cmP a b (i + 1) (j + 1))]).map Value.string) ++ ((gs9 ++ ((m ++ ([]))))))) w from h).perm (show ((b65, .cells [.string ((a.extract (i : Int).toNat (i + 1 : Int).toNat) ++ (cmP a b (i + 1) (j + 1)))].toArray 9 (0, 0)) :: (mb, .map y7.1 y7.2) :: (bw, .cells [.string a, .string b, .map (some mb), (.func (.func 76) #[] #[]), (.func (.func 77) #[] #[])].toArray 127 (0, 0)) :: (sv8.mem 9 (([cmP a b (i + 1) j, cmP a b i (j + 1)] ++ [(a.extract (i : Int).toNat (i + 1 : Int).toNat) ++ (cmP a b (i + 1) (j + 1))]).map Value.string) ++ ((gs9 ++ ((m ++ ([])))))) : List (Nat × Obj)).Perm ((mb, .map y7.1 y7.2) :: (bw, .cells [.string a, .string b, .map (some mb), (.func (.func 76) #[] #[]), (.func (.func 77) #[] #[])].toArray 127 (0, 0)) :: (b65, .cells [.string ((a.extract (i : Int).toNat (i + 1 : Int).toNat) ++ (cmP a b (i + 1) (j + 1)))].toArray 9 (0, 0)) :: (sv8.mem 9 (([cmP a b (i + 1) j, cmP a b i (j + 1)] ++ [(a.extract (i : Int).toNat (i + 1 : Int).toNat) ++ (cmP a b (i + 1) (j + 1))]).map Value.string) ++ ((gs9 ++ ((m ++ ([])))))) : List (Nat × Obj)) from List.Perm.trans (List.Perm.of_eq (by simp only [List.append_assoc, List.cons_append, List.nil_append, List.append_nil])) (List.Perm.trans (List.perm_append_comm_assoc ((b65, .cells [.string ((a.extract (i : Int).toNat (i + 1 : Int).toNat) ++ (cmP a b (i + 1) (j + 1)))].toArray 9 (0, 0)) :: [] : List (Nat × Obj)) ((mb, .map y7.1 y7.2) :: (bw, .cells [.string a, .string b, .map (some mb), (.func (.func 76) #[] #[]), (.func (.func 77) #[] #[])].toArray 127 (0, 0)) :: [] : List (Nat × Obj)) ((sv8.mem 9 (([cmP a b (i + 1) j, cmP a b i (j + 1)] ++ [(a.extract (i : Int).toNat (i + 1 : Int).toNat) ++ (cmP a b (i + 1) (j + 1))]).map Value.string) ++ ((gs9 ++ ((m ++ ([])))))) : List (Nat × Obj))) (List.Perm.of_eq (by simp only [List.append_assoc, List.cons_append, List.nil_append, List.append_nil])))))⟩)
      · (try simp at cq6)
        refine g_skip ?_
        refine g_then ?_
        refine g_seq ?_
        refine g_region ?_
        refine s_y (y_move rfl) rfl rfl rfl rfl ?_
        refine s_y (y_assign rfl) rfl rfl rfl rfl ?_
        refine s_nil ?_
        refine g_then ?_
        refine g_ret ?_
        rw [show (candW a b i j) = [cmP a b (i + 1) j, cmP a b i (j + 1)] from by unfold candW; (repeat' split) <;> first | rfl | (exfalso; omega)]
        exact g_end0 (fun a w ha hq_ => res1 ha rfl rfl  w) (fun w h => ⟨((y4.1, y4.2), _, (((SV.own b35 2 []).mem 9 (([cmP a b (i + 1) j, cmP a b i (j + 1)]).map Value.string) ++ ([])))), ⟨hy4, (OwnV.sv hok5).mono (fun p hp => (mem_al ((SV.own b35 2 []).mem 9 (([cmP a b (i + 1) j, cmP a b i (j + 1)]).map Value.string)) hp)), (ge_app (ge_own hb35.2) ge_nl)⟩, rfl, by simpa only [List.cons_append, List.append_assoc, List.nil_append] using (show Hp w0 w1 ((mb, .map y4.1 y4.2) :: (bw, .cells [.string a, .string b, .map (some mb), (.func (.func 76) #[] #[]), (.func (.func 77) #[] #[])].toArray 127 (0, 0)) :: ((SV.own b35 2 []).mem 9 (([cmP a b (i + 1) j, cmP a b i (j + 1)]).map Value.string) ++ ((m ++ ([]))))) w from h)⟩)

theorem nextC_at {a b : ByteArray} (hla : a.size ≤ 12) (hlb : b.size ≤ 12) {n : Nat} (IH : ∀ n', n' < n → BestAtC a b n') : NextAtC a b n := fun w0 w1 w m bw mb es clock i j h0 h1 h2 h3 hn hS hw => by
  have h := nextC_any (m := m) hla hlb h0 h1 h2 h3 hn hS (by rw [List.append_nil]; exact hw) IH
  simpa only [List.append_nil] using h
theorem bestC_at {a b : ByteArray} (hla : a.size ≤ 12) (hlb : b.size ≤ 12) {n : Nat} (hNX : NextAtC a b n) : BestAtC a b n := fun w0 w1 w m bw mb es clock i j h0 h1 h2 h3 hn hS hw => by
  obtain ⟨F, hM, hFs⟩ := id hS
  have hw' : Hp w0 w1 ((mb, .map es clock) :: (bw, Obj.cells [.string a, .string b, .map (some mb), (.func (.func 76) #[] #[]), (.func (.func 77) #[] #[])].toArray 127 (0, 0)) :: (m ++ [])) w := by rw [List.append_nil]; exact hw
  cases hF : F (i, j) with
  | none =>
    have h := bestC_new (m := m) hla hlb h0 h1 h2 h3 hn hS hw' F hM hF hNX
    simpa only [List.append_nil] using h
  | some v =>
    have hv := hFs _ _ hF
    subst hv
    have h := bestC_known (m := m) hla hlb h0 h1 h2 h3 hn hS hw' _ F hM hF rfl
    simpa only [List.append_nil] using h
theorem bestC_all {a b : ByteArray} (hla : a.size ≤ 12) (hlb : b.size ≤ 12) (n : Nat) : BestAtC a b n := Nat.strongRecOn n fun n ih => bestC_at hla hlb (nextC_at hla hlb fun n' h => ih n' h)

theorem foundC_ok (w : World) (a b : ByteArray) (hla : a.size ≤ 12) (hlb : b.size ≤ 12) :
    Calls Try.prog 75 [.string a, .string b, (.func (.func 76) #[] #[]), (.func (.func 77) #[] #[])].toArray w fun e w' => e = .returned (.tuple #[.string (cmP a b 0 0), .int .i64 0]) ∧ Below w.heap.size w w' := by
  refine enter (N := 26) Try.func75 rfl rfl rfl ?_
  refine g_seq ?_
  refine g_region ?_
  refine s_y (y_assign rfl) rfl rfl rfl rfl ?_
  refine s_y (y_assign rfl) rfl rfl rfl rfl ?_
  refine s_nil ?_
  refine g_then ?_
  refine g_seq ?_
  refine g_seq ?_
  refine g_region ?_
  refine s_y (y_move rfl) rfl rfl rfl rfl ?_
  refine s_tr (t_call rfl rfl ent_68 (fun w h => by have h_ := isLine_any w a; rwa [decide_eq_true (show (a.size : Int) ≤ 12 by omega)] at h_)) rfl rfl rfl rfl (fun _ _ => ?_)
  refine s_y (y_not_t rfl) rfl rfl rfl rfl ?_
  refine s_y (y_move rfl) rfl rfl rfl rfl ?_
  refine s_y (y_move rfl) rfl rfl rfl rfl ?_
  refine s_tr (t_call rfl rfl ent_68 (fun w h => by have h_ := isLine_any w b; rwa [decide_eq_true (show (b.size : Int) ≤ 12 by omega)] at h_)) rfl rfl rfl rfl (fun _ _ => ?_)
  refine s_y (y_not_t rfl) rfl rfl rfl rfl ?_
  refine s_y (y_pick_f rfl rfl) rfl rfl rfl rfl ?_
  refine s_nil ?_
  refine g_then ?_
  refine g_cond_f rfl ?_
  refine g_skip ?_
  refine g_then ?_
  refine g_seq ?_
  refine g_region ?_
  refine s_y (y_move rfl) rfl rfl rfl rfl ?_
  refine s_y (y_move rfl) rfl rfl rfl rfl ?_
  refine s_tr (t_makeMap) rfl rfl rfl rfl (fun mb hmb => ?_)
  refine s_y (y_move rfl) rfl rfl rfl rfl ?_
  refine s_y (y_move rfl) rfl rfl rfl rfl ?_
  refine s_y (y_build (vs := [(0, _), (1, _), (2, _), (3, _), (4, _)]) rfl rfl (fun w => bld_127_0_1_2_3_4 _ _ _ _ _ _ _ _ _ w)) rfl rfl rfl rfl ?_
  refine s_tr (t_box rfl rfl) rfl rfl rfl rfl (fun bw hbw => ?_)
  refine g_perm' (m' := (mb, .map #[] 0) :: (bw, .cells [.string a, .string b, .map (some mb), (.func (.func 76) #[] #[]), (.func (.func 77) #[] #[])].toArray 127 (0, 0)) :: []) (show ((mb, .map #[] 0) :: (bw, .cells [.string a, .string b, .map (some mb), (.func (.func 76) #[] #[]), (.func (.func 77) #[] #[])].toArray 127 (0, 0)) :: [] : List (Nat × Obj)).Perm ((bw, .cells [.string a, .string b, .map (some mb), (.func (.func 76) #[] #[]), (.func (.func 77) #[] #[])].toArray 127 (0, 0)) :: (mb, .map #[] 0) :: [] : List (Nat × Obj)) from List.Perm.trans (List.Perm.of_eq (by simp only [List.append_assoc, List.cons_append, List.nil_append, List.append_nil])) (List.Perm.trans (List.perm_append_comm_assoc ((mb, .map #[] 0) :: [] : List (Nat × Obj)) ((bw, .cells [.string a, .string b, .map (some mb), (.func (.func 76) #[] #[]), (.func (.func 77) #[] #[])].toArray 127 (0, 0)) :: [] : List (Nat × Obj)) ([] : List (Nat × Obj))) (List.Perm.of_eq (by simp only [List.append_assoc, List.cons_append, List.nil_append, List.append_nil])))) ?_
  refine s_tr (t_callx (ι := Array MapEntry × Nat) (A := fun y => SndW (cmP a b) y.1) (vf := fun _ => .string (cmP a b 0 0)) (wf := fun _ => _) (mf := fun y => (mb, .map y.1 y.2) :: (bw, .cells [.string a, .string b, .map (some mb), (.func (.func 76) #[] #[]), (.func (.func 77) #[] #[])].toArray 127 (0, 0)) :: []) rfl rfl ent_90 (fun w h => by simp only [Array.append_empty, Array.empty_append]; exact (bestC_all hla hlb (a.size + b.size) _ _ w _ bw mb #[] 0 0 0 (by omega) (by omega) (by omega) (by omega) (by omega) SndW.empty h).mono fun e w' ⟨y, q1, q2, q3⟩ => ⟨y, q1, q2, q3⟩)) rfl rfl rfl rfl (fun y hy => ?_)
  refine s_y (y_assign rfl) rfl rfl rfl rfl ?_
  refine s_y (y_assign rfl) rfl rfl rfl rfl ?_
  refine s_nil ?_
  refine g_then ?_
  refine g_ret ?_
  exact g_end trivial (fun a w ha hq_ => res2 ha rfl rfl rfl  w) (fun w h => ⟨rfl, h.below⟩)

theorem foundC_no (w : World) (a b : ByteArray) (hno : ¬ (a.size ≤ 12 ∧ b.size ≤ 12)) :
    Calls Try.prog 75 [.string a, .string b, (.func (.func 76) #[] #[]), (.func (.func 77) #[] #[])].toArray w fun e w' => e = .returned (.tuple #[.string (ByteArray.empty), .int .i64 2]) ∧ Below w.heap.size w w' := by
  refine enter (N := 26) Try.func75 rfl rfl rfl ?_
  refine g_seq ?_
  refine g_region ?_
  refine s_y (y_assign rfl) rfl rfl rfl rfl ?_
  refine s_y (y_assign rfl) rfl rfl rfl rfl ?_
  refine s_nil ?_
  refine g_then ?_
  refine g_seq ?_
  refine g_seq ?_
  refine g_region ?_
  refine s_y (y_move rfl) rfl rfl rfl rfl ?_
  refine s_tr (t_call rfl rfl ent_68 (fun w h => isLine_any w a)) rfl rfl rfl rfl (fun _ _ => ?_)
  refine s_y (y_not rfl) rfl rfl rfl rfl ?_
  refine s_y (y_move rfl) rfl rfl rfl rfl ?_
  refine g_bool 13 rfl (fun cq1 => ?_) (fun cq1 => ?_)
  · (try simp at cq1)
    refine s_no rfl rfl rfl ?_
    refine s_no rfl rfl rfl ?_
    refine s_no rfl rfl rfl ?_
    refine s_y (y_pick_t rfl rfl) rfl rfl rfl rfl ?_
    refine s_nil ?_
    refine g_then ?_
    refine g_cond_t rfl ?_
    refine g_seq ?_
    refine g_region ?_
    refine s_y (y_assign rfl) rfl rfl rfl rfl ?_
    refine s_y (y_assign rfl) rfl rfl rfl rfl ?_
    refine s_nil ?_
    refine g_then ?_
    refine g_ret ?_
    refine g_thenr ?_
    exact g_end trivial (fun a w ha hq_ => res2 ha rfl rfl rfl  w) (fun w h => ⟨rfl, h.below⟩)
  · (try simp at cq1)
    refine s_y (y_move rfl) rfl rfl rfl rfl ?_
    refine s_tr (t_call rfl rfl ent_68 (fun w h => isLine_any w b)) rfl rfl rfl rfl (fun _ _ => ?_)
    refine s_y (y_not rfl) rfl rfl rfl rfl ?_
    refine s_y (y_pick_f rfl rfl) rfl rfl rfl rfl ?_
    refine s_nil ?_
    refine g_then ?_
    refine g_cond rfl (fun cq2 => ?_) (fun cq2 => ?_)
    · (try simp at cq2)
      refine g_seq ?_
      refine g_region ?_
      refine s_y (y_assign rfl) rfl rfl rfl rfl ?_
      refine s_y (y_assign rfl) rfl rfl rfl rfl ?_
      refine s_nil ?_
      refine g_then ?_
      refine g_ret ?_
      refine g_thenr ?_
      exact g_end trivial (fun a w ha hq_ => res2 ha rfl rfl rfl  w) (fun w h => ⟨rfl, h.below⟩)
    · (try simp at cq2)
      exact absurd ⟨by omega, by omega⟩ hno

theorem Common_ok (w : World) (a b : ByteArray) (hla : a.size ≤ 12) (hlb : b.size ≤ 12) :
    Calls Try.prog 41 [.string a, .string b].toArray w fun e w' => e = .returned (.tuple #[.string (cmP a b 0 0), .int .i64 0]) ∧ Below w.heap.size w w' := by
  refine enter (N := 11) Try.func41 rfl rfl rfl ?_
  refine g_seq ?_
  refine g_region ?_
  refine s_y (y_assign rfl) rfl rfl rfl rfl ?_
  refine s_y (y_assign rfl) rfl rfl rfl rfl ?_
  refine s_nil ?_
  refine g_then ?_
  refine g_seq ?_
  refine g_region ?_
  refine s_y (y_move rfl) rfl rfl rfl rfl ?_
  refine s_y (y_move rfl) rfl rfl rfl rfl ?_
  refine s_tr (t_call rfl rfl ent_75 (fun w h => foundC_ok w a b hla hlb)) rfl rfl rfl rfl (fun _ _ => ?_)
  refine s_y (y_extract rfl rfl) rfl rfl rfl rfl ?_
  refine s_y (y_extract rfl rfl) rfl rfl rfl rfl ?_
  refine s_y (y_assign rfl) rfl rfl rfl rfl ?_
  refine s_y (y_assign rfl) rfl rfl rfl rfl ?_
  refine s_nil ?_
  refine g_then ?_
  refine g_ret ?_
  exact g_end trivial (fun a w ha hq_ => res2 ha rfl rfl rfl  w) (fun w h => ⟨rfl, h.below⟩)

theorem Common_no (w : World) (a b : ByteArray) (hno : ¬ (a.size ≤ 12 ∧ b.size ≤ 12)) :
    Calls Try.prog 41 [.string a, .string b].toArray w fun e w' => e = .returned (.tuple #[.string (ByteArray.empty), .int .i64 2]) ∧ Below w.heap.size w w' := by
  refine enter (N := 11) Try.func41 rfl rfl rfl ?_
  refine g_seq ?_
  refine g_region ?_
  refine s_y (y_assign rfl) rfl rfl rfl rfl ?_
  refine s_y (y_assign rfl) rfl rfl rfl rfl ?_
  refine s_nil ?_
  refine g_then ?_
  refine g_seq ?_
  refine g_region ?_
  refine s_y (y_move rfl) rfl rfl rfl rfl ?_
  refine s_y (y_move rfl) rfl rfl rfl rfl ?_
  refine s_tr (t_call rfl rfl ent_75 (fun w h => foundC_no w a b hno)) rfl rfl rfl rfl (fun _ _ => ?_)
  refine s_y (y_extract rfl rfl) rfl rfl rfl rfl ?_
  refine s_y (y_extract rfl rfl) rfl rfl rfl rfl ?_
  refine s_y (y_assign rfl) rfl rfl rfl rfl ?_
  refine s_y (y_assign rfl) rfl rfl rfl rfl ?_
  refine s_nil ?_
  refine g_then ?_
  refine g_ret ?_
  exact g_end trivial (fun a w ha hq_ => res2 ha rfl rfl rfl  w) (fun w h => ⟨rfl, h.below⟩)

theorem gtJ_any (w : World) (x y : ByteArray) (hx : x.size ≤ 100) (hy : y.size ≤ 100) :
    Calls Try.prog 78 [.string x, .string y].toArray w fun e w' => e = .returned (.int .i64 ((x.size : Int) - (y.size : Int))) ∧ Below w.heap.size w w' := by
  refine enter (N := 10) Try.func78 rfl rfl rfl ?_
  refine g_seq ?_
  refine g_region ?_
  refine s_y (y_assign rfl) rfl rfl rfl rfl ?_
  refine s_nil ?_
  refine g_then ?_
  refine g_seq ?_
  refine g_region ?_
  refine s_y (y_move rfl) rfl rfl rfl rfl ?_
  refine s_y (y_lens rfl Try.underlying9) rfl rfl rfl rfl ?_
  refine s_y (y_move rfl) rfl rfl rfl rfl ?_
  refine s_y (y_lens rfl Try.underlying9) rfl rfl rfl rfl ?_
  refine s_y (y_sub rfl rfl (by omega) (by omega)) rfl rfl rfl rfl ?_
  refine s_y (y_assign rfl) rfl rfl rfl rfl ?_
  refine s_nil ?_
  refine g_then ?_
  refine g_ret ?_
  exact g_end trivial (fun a w ha hq_ => res1 ha rfl rfl  w) (fun w h => ⟨rfl, h.below⟩)

def BestAtJ (a b : ByteArray) (n : Nat) : Prop := ∀ (w0 w1 w : World) (m : List (Nat × Obj)) (bw mb : Nat) (es : Array MapEntry) (clock : Nat) (i j : Int), 0 ≤ i → i ≤ a.size → 0 ≤ j → j ≤ b.size → (a.size : Int) - i + ((b.size : Int) - j) ≤ n → SndW (jnP a b) es → Hp w0 w1 ((mb, .map es clock) :: (bw, Obj.cells [.string a, .string b, .map (some mb), (.func (.func 78) #[] #[]), (.func (.func 79) #[] #[])].toArray 127 (0, 0)) :: m) w →
    Calls Try.prog 90 [.pointer (some ⟨bw, 0, none⟩), .int .i64 i, .int .i64 j].toArray w fun e w' => ∃ y : Array MapEntry × Nat, SndW (jnP a b) y.1 ∧ e = .returned (.string (jnP a b i j)) ∧ Hp w0 w1 ((mb, .map y.1 y.2) :: (bw, Obj.cells [.string a, .string b, .map (some mb), (.func (.func 78) #[] #[]), (.func (.func 79) #[] #[])].toArray 127 (0, 0)) :: m) w'

def NextAtJ (a b : ByteArray) (n : Nat) : Prop := ∀ (w0 w1 w : World) (m : List (Nat × Obj)) (bw mb : Nat) (es : Array MapEntry) (clock : Nat) (i j : Int), 0 ≤ i → i ≤ a.size → 0 ≤ j → j ≤ b.size → (a.size : Int) - i + ((b.size : Int) - j) ≤ n → SndW (jnP a b) es → Hp w0 w1 ((mb, .map es clock) :: (bw, Obj.cells [.string a, .string b, .map (some mb), (.func (.func 78) #[] #[]), (.func (.func 79) #[] #[])].toArray 127 (0, 0)) :: m) w →
    Calls Try.prog 79 [.pointer (some ⟨bw, 0, none⟩), .int .i64 i, .int .i64 j].toArray w fun e w' => ∃ y : (Array MapEntry × Nat) × Value × List (Nat × Obj), (SndW (jnP a b) y.1.1 ∧ OwnV Value.string y.2.1 (candJ a b i j) y.2.2 ∧ ∀ p ∈ y.2.2, w1.heap.size ≤ p.1) ∧ e = .returned y.2.1 ∧ Hp w0 w1 ((mb, .map y.1.1 y.1.2) :: (bw, Obj.cells [.string a, .string b, .map (some mb), (.func (.func 78) #[] #[]), (.func (.func 79) #[] #[])].toArray 127 (0, 0)) :: (y.2.2 ++ m)) w'

theorem bestJ_known {a b : ByteArray} (hla : a.size ≤ 12) (hlb : b.size ≤ 12) {n : Nat} {w0 w1 w : World} {m : List (Nat × Obj)} {bw mb : Nat} {es : Array MapEntry} {clock : Nat} {i j : Int} (h0 : 0 ≤ i) (h1 : i ≤ a.size) (h2 : 0 ≤ j) (h3 : j ≤ b.size) (hn : (a.size : Int) - i + ((b.size : Int) - j) ≤ n) (hS : SndW (jnP a b) es) (hw : Hp w0 w1 ((mb, .map es clock) :: (bw, Obj.cells [.string a, .string b, .map (some mb), (.func (.func 78) #[] #[]), (.func (.func 79) #[] #[])].toArray 127 (0, 0)) :: (m ++ [])) w) (z : ByteArray) (F : Int × Int → Option Value) (hM : MapG kvp okp es F) (hF : F (i, j) = some (.string z)) (hz : z = jnP a b i j) :
    Calls Try.prog 90 [.pointer (some ⟨bw, 0, none⟩), .int .i64 i, .int .i64 j].toArray w fun e w' => ∃ y : Array MapEntry × Nat, SndW (jnP a b) y.1 ∧ e = .returned (.string (jnP a b i j)) ∧ Hp w0 w1 ((mb, .map y.1 y.2) :: (bw, Obj.cells [.string a, .string b, .map (some mb), (.func (.func 78) #[] #[]), (.func (.func 79) #[] #[])].toArray 127 (0, 0)) :: (m ++ [])) w' := by
  refine enterM (N := 70) Try.func90 rfl rfl rfl hw ?_
  refine g_seq ?_
  refine g_region ?_
  refine s_y (y_assign rfl) rfl rfl rfl rfl ?_
  refine s_nil ?_
  refine g_then ?_
  refine g_seq ?_
  refine g_seq ?_
  refine g_region ?_
  refine s_y (y_move rfl) rfl rfl rfl rfl ?_
  refine s_y (y_nil rfl) rfl rfl rfl rfl ?_
  refine s_y (y_fld rfl (fun w => fld_127_2 _ _ w)) rfl rfl rfl rfl ?_
  refine s_y (y_ld1 1 rfl rfl agg_125 rfl) rfl rfl rfl rfl ?_
  refine s_y (y_move rfl) rfl rfl rfl rfl ?_
  refine s_y (y_move rfl) rfl rfl rfl rfl ?_
  refine s_y (y_build (vs := [(0, _), (1, _)]) rfl rfl (fun w => bld_79_0_1 _ _ w)) rfl rfl rfl rfl ?_
  refine s_y (y_lookS (k := (i, j)) hF word_map hM (fun w h => h.at_ _ (List.mem_cons_self ..)) rfl rfl rfl (okpI (by simp only; omega) (by simp only; omega))) rfl rfl rfl rfl ?_
  refine s_y (y_move rfl) rfl rfl rfl rfl ?_
  refine s_y (y_extract rfl rfl) rfl rfl rfl rfl ?_
  refine s_y (y_extract rfl rfl) rfl rfl rfl rfl ?_
  refine s_y (y_assign rfl) rfl rfl rfl rfl ?_
  refine s_y (y_assign rfl) rfl rfl rfl rfl ?_
  refine s_nil ?_
  refine g_then ?_
  refine g_seq ?_
  refine g_region ?_
  refine s_y (y_move rfl) rfl rfl rfl rfl ?_
  refine s_nil ?_
  refine g_then ?_
  refine g_cond_t rfl ?_
  refine g_seq ?_
  refine g_region ?_
  refine s_y (y_move rfl) rfl rfl rfl rfl ?_
  refine s_y (y_assign rfl) rfl rfl rfl rfl ?_
  refine s_nil ?_
  refine g_then ?_
  refine g_ret ?_
  refine g_thenr ?_
  exact g_end0 (fun a w ha hq_ => res1 ha rfl rfl  w) (fun w h => ⟨(es, clock), hS, congrArg (fun q_ => Ending.returned (Value.string q_)) hz, h⟩)

theorem bestJ_new {a b : ByteArray} (hla : a.size ≤ 12) (hlb : b.size ≤ 12) {n : Nat} {w0 w1 w : World} {m : List (Nat × Obj)} {bw mb : Nat} {es : Array MapEntry} {clock : Nat} {i j : Int} (h0 : 0 ≤ i) (h1 : i ≤ a.size) (h2 : 0 ≤ j) (h3 : j ≤ b.size) (hn : (a.size : Int) - i + ((b.size : Int) - j) ≤ n) (hS : SndW (jnP a b) es) (hw : Hp w0 w1 ((mb, .map es clock) :: (bw, Obj.cells [.string a, .string b, .map (some mb), (.func (.func 78) #[] #[]), (.func (.func 79) #[] #[])].toArray 127 (0, 0)) :: (m ++ [])) w) (F : Int × Int → Option Value) (hM : MapG kvp okp es F) (hF : F (i, j) = none) (hNX : NextAtJ a b n) :
    Calls Try.prog 90 [.pointer (some ⟨bw, 0, none⟩), .int .i64 i, .int .i64 j].toArray w fun e w' => ∃ y : Array MapEntry × Nat, SndW (jnP a b) y.1 ∧ e = .returned (.string (jnP a b i j)) ∧ Hp w0 w1 ((mb, .map y.1 y.2) :: (bw, Obj.cells [.string a, .string b, .map (some mb), (.func (.func 78) #[] #[]), (.func (.func 79) #[] #[])].toArray 127 (0, 0)) :: (m ++ [])) w' := by
  obtain ⟨ie9_, hi9_⟩ := inf_9
  obtain ⟨ie3, hi3⟩ := inf_3
  refine enterM (N := 70) Try.func90 rfl rfl rfl hw ?_
  refine g_seq ?_
  refine g_region ?_
  refine s_y (y_assign rfl) rfl rfl rfl rfl ?_
  refine s_nil ?_
  refine g_then ?_
  refine g_seq ?_
  refine g_seq ?_
  refine g_region ?_
  refine s_y (y_move rfl) rfl rfl rfl rfl ?_
  refine s_y (y_nil rfl) rfl rfl rfl rfl ?_
  refine s_y (y_fld rfl (fun w => fld_127_2 _ _ w)) rfl rfl rfl rfl ?_
  refine s_y (y_ld1 1 rfl rfl agg_125 rfl) rfl rfl rfl rfl ?_
  refine s_y (y_move rfl) rfl rfl rfl rfl ?_
  refine s_y (y_move rfl) rfl rfl rfl rfl ?_
  refine s_y (y_build (vs := [(0, _), (1, _)]) rfl rfl (fun w => bld_79_0_1 _ _ w)) rfl rfl rfl rfl ?_
  refine s_y (y_lookN (k := (i, j)) hF word_map hM (fun w h => h.at_ _ (List.mem_cons_self ..)) rfl rfl rfl (okpI (by simp only; omega) (by simp only; omega))) rfl rfl rfl rfl ?_
  refine s_y (y_move rfl) rfl rfl rfl rfl ?_
  refine s_y (y_extract rfl rfl) rfl rfl rfl rfl ?_
  refine s_y (y_extract rfl rfl) rfl rfl rfl rfl ?_
  refine s_y (y_assign rfl) rfl rfl rfl rfl ?_
  refine s_y (y_assign rfl) rfl rfl rfl rfl ?_
  refine s_nil ?_
  refine g_then ?_
  refine g_seq ?_
  refine g_region ?_
  refine s_y (y_move rfl) rfl rfl rfl rfl ?_
  refine s_nil ?_
  refine g_then ?_
  refine g_cond_f rfl ?_
  refine g_skip ?_
  refine g_then ?_
  refine g_seq ?_
  refine g_region ?_
  refine s_y (y_move rfl) rfl rfl rfl rfl ?_
  refine s_y (y_nil rfl) rfl rfl rfl rfl ?_
  refine s_y (y_fld rfl (fun w => fld_127_4 _ _ w)) rfl rfl rfl rfl ?_
  refine s_y (y_ld1 1 rfl rfl agg_113 rfl) rfl rfl rfl rfl ?_
  refine s_y (y_move rfl) rfl rfl rfl rfl ?_
  refine s_y (y_move rfl) rfl rfl rfl rfl ?_
  refine s_y (y_move rfl) rfl rfl rfl rfl ?_
  refine s_tr (t_callx (ι := (Array MapEntry × Nat) × Value × List (Nat × Obj)) (A := fun y => (SndW (jnP a b) y.1.1 ∧ OwnV Value.string y.2.1 (candJ a b i j) y.2.2 ∧ ∀ p ∈ y.2.2, w1.heap.size ≤ p.1) ∧ ∃ W : World, ∀ p ∈ y.2.2, W.heap[p.1]? = some p.2) (vf := fun y => y.2.1) (wf := fun _ => w1) (mf := fun y => ((mb, .map y.1.1 y.1.2) :: (bw, Obj.cells [.string a, .string b, .map (some mb), (.func (.func 78) #[] #[]), (.func (.func 79) #[] #[])].toArray 127 (0, 0)) :: (y.2.2 ++ (m ++ [])))) rfl rfl ent_79 (fun w h => by simp only [Array.append_empty, Array.empty_append]; exact (hNX w0 w1 w _ bw mb es clock i j h0 h1 h2 h3 hn hS h).mono fun e w' ⟨y, q1, q2, q3⟩ => ⟨y, ⟨q1, w', fun p hp => q3.at_ p (List.mem_cons_of_mem _ (List.mem_cons_of_mem _ (List.mem_append_left _ hp)))⟩, q2, q3⟩)) rfl rfl rfl rfl (fun y hy => ?_)
  obtain ⟨⟨es2, clock2⟩, vo, mo⟩ := y
  obtain ⟨⟨hS2, hOo', hge'⟩, hEo'⟩ := hy
  have hOo : OwnV Value.string vo (candJ a b i j) mo := hOo'
  have hEo : ∃ W : World, ∀ p ∈ mo, W.heap[p.1]? = some p.2 := hEo'
  have hge : ∀ p ∈ mo, w1.heap.size ≤ p.1 := hge'
  have hcl := candJ_len a b i j
  obtain ⟨F2, hM2, hFs2⟩ := id hS2
  have hsz := candJ_size hla hlb h0 h1 h2 h3
  refine s_y (y_assign rfl) rfl rfl rfl rfl ?_
  refine s_nil ?_
  refine g_then ?_
  refine g_seq ?_
  refine g_region ?_
  refine s_y (y_move rfl) rfl rfl rfl rfl ?_
  refine s_y (y_idxO (enc := Value.string) rfl rfl hOo hEo Try.underlying45 size_9 (by omega) (by omega)) rfl rfl rfl rfl ?_
  refine s_y (y_ldV (enc := Value.string) (xs := (candJ a b i j)) (fun w h => (hOo.rd fun p hp => h.at_ p (List.mem_cons_of_mem _ (List.mem_cons_of_mem _ (mem_al mo hp)))).rdl) rfl agg_9 (rdS_at (by omega) (by omega))) rfl rfl rfl rfl ?_
  refine s_y (y_assign rfl) rfl rfl rfl rfl ?_
  refine s_nil ?_
  refine g_then ?_
  refine g_seq ?_
  refine g_seq ?_
  obtain ⟨We, hWe⟩ := id hEo
  obtain ⟨v7, hc7, hr7⟩ := run_cut_lo (P := Try.prog) (hOo.2 We hWe) Try.underlying45 hi9_.1 hi9_.2.2.1 1 (by omega)
  have hO7 : OwnV Value.string v7 ((candJ a b i j).drop 1) mo := ⟨(by obtain ⟨A_, c_, h_, _⟩ := hr7 We (hOo.2 We hWe); exact ⟨A_, c_, h_⟩), fun W h => hr7 W (hOo.2 W h)⟩
  have hdl : ((candJ a b i j).drop 1).length = (candJ a b i j).length - 1 := by simp
  refine g_region ?_
  refine s_y (y_move rfl) rfl rfl rfl rfl ?_
  refine s_y (y_slice rfl (some_ev rfl) none_ev hc7 sle_45) rfl rfl rfl rfl ?_
  refine s_y (y_lenV (n := (((candJ a b i j).drop 1).length)) rfl hO7.1 sle_45) rfl rfl rfl rfl ?_
  refine s_y (y_move rfl) rfl rfl rfl rfl ?_
  refine s_nil ?_
  refine g_then ?_
  refine g_block ?_
  refine g_loop (fun (k : Nat) act W => k ≤ (candJ a b i j).length - 1 ∧ ∃ (out : ByteArray) , (out = bstK betJ (candJ a b i j) k) ∧ Has 70 [] [(0, .pointer (some ⟨bw, 0, none⟩)), (1, .int .i64 i), (2, .int .i64 j), (6, .string (⟨#[]⟩ : ByteArray)), (10, .string out), (39, v7), (40, .int .i64 (((candJ a b i j).drop 1).length : Nat)), (41, .int .i64 (k : Int))] act ∧ Hp w0 w1 ((mb, .map es2 clock2) :: (bw, .cells [.string a, .string b, .map (some mb), (.func (.func 78) #[] #[]), (.func (.func 79) #[] #[])].toArray 127 (0, 0)) :: (mo ++ ((m ++ ([]))))) W) (fun k => (candJ a b i j).length - 1 - k) 0 (fun act W ha hw => ⟨by omega, (rdS (candJ a b i j) 0), (by rfl), ha.weak (sub_get ⟨rfl, rfl, rfl, rfl, rfl, rfl, rfl, rfl, trivial⟩), hw ⟩) ?_
  intro k act W ⟨hb_k, out, hout, ha, hw⟩
  refine g_go ha hw ?_
  clear ha hw act W
  have hos : out.size ≤ 50 := by rw [hout]; exact hsz _ (bstK_mem betJ (by omega) k (by omega))
  refine g_seq ?_
  refine g_region ?_
  refine s_y (y_lss rfl rfl) rfl rfl rfl rfl ?_
  refine s_nil ?_
  refine g_then ?_
  refine g_seq ?_
  refine g_cond rfl (fun cq1 => ?_) (fun cq1 => ?_)
  · (try simp at cq1)
    refine g_skip ?_
    refine g_then ?_
    refine g_seq ?_
    refine g_block ?_
    refine g_seq ?_
    refine g_region ?_
    refine s_y (y_idxO (enc := Value.string) rfl rfl hO7 hEo Try.underlying45 size_9 (by omega) (by omega)) rfl rfl rfl rfl ?_
    refine s_y (y_ldV (enc := Value.string) (xs := ((candJ a b i j).drop 1)) (fun w h => (hO7.rd fun p hp => h.at_ p (List.mem_cons_of_mem _ (List.mem_cons_of_mem _ (mem_al mo hp)))).rdl) rfl agg_9 (rdS_at (by omega) (by omega))) rfl rfl rfl rfl ?_
    refine s_y (y_assign rfl) rfl rfl rfl rfl ?_
    refine s_nil ?_
    refine g_then ?_
    refine g_seq ?_
    have hss : (rdS ((candJ a b i j).drop 1) (k : Int)).size ≤ 50 := hsz _ (List.mem_of_mem_drop (rdS_mem (by omega) (by omega)))
    refine g_region ?_
    refine s_y (y_move rfl) rfl rfl rfl rfl ?_
    refine s_y (y_nil rfl) rfl rfl rfl rfl ?_
    refine s_y (y_fld rfl (fun w => fld_127_3 _ _ w)) rfl rfl rfl rfl ?_
    refine s_y (y_ld1 1 rfl rfl agg_112 rfl) rfl rfl rfl rfl ?_
    refine s_y (y_move rfl) rfl rfl rfl rfl ?_
    refine s_y (y_move rfl) rfl rfl rfl rfl ?_
    refine s_tr (t_call rfl rfl ent_78 (fun w h => gtJ_any w (rdS ((candJ a b i j).drop 1) (k : Int)) out (by omega) (by omega))) rfl rfl rfl rfl (fun _ _ => ?_)
    refine s_y (y_move rfl) rfl rfl rfl rfl ?_
    refine s_y (y_move rfl) rfl rfl rfl rfl ?_
    refine s_tr (t_call rfl rfl ent_94 (fun w h => cmp_any w (rdS ((candJ a b i j).drop 1) (k : Int)) out)) rfl rfl rfl rfl (fun _ _ => ?_)
    refine s_tr (t_build (vs := [(0, .int .i64 (((rdS ((candJ a b i j).drop 1) (k : Int)).size : Int) - (out.size : Int))), (1, .int .i64 (Lib.compareBytes (rdS ((candJ a b i j).drop 1) (k : Int)).data.toList out.data.toList))]) (cells := [.int .i64 (((rdS ((candJ a b i j).drop 1) (k : Int)).size : Int) - (out.size : Int)), .int .i64 (Lib.compareBytes (rdS ((candJ a b i j).drop 1) (k : Int)).data.toList out.data.toList)]) rfl rfl Try.underlying46 hi3.1 hi3.2.1 (by rw [hi3.2.2.1]; rfl) (by rw [hi3.2.2.1]; rfl) (by rw [hi3.2.2.1]; kernel_rfl)) rfl rfl rfl rfl (fun b55 hb55 => ?_)
    refine s_tr (t_call rfl rfl ent_93 (fun w h => Or_any w _ (((rdS ((candJ a b i j).drop 1) (k : Int)).size : Int) - (out.size : Int)) (Lib.compareBytes (rdS ((candJ a b i j).drop 1) (k : Int)).data.toList out.data.toList) (RdV.own (enc := (Value.int .i64)) (xs := [((rdS ((candJ a b i j).drop 1) (k : Int)).size : Int) - (out.size : Int), Lib.compareBytes (rdS ((candJ a b i j).drop 1) (k : Int)).data.toList out.data.toList]) (jk := []) (at_of (i := 0) h rfl) rfl (Nat.le_refl _)))) rfl rfl rfl rfl (fun _ _ => ?_)
    refine s_y (y_assign rfl) rfl rfl rfl rfl ?_
    refine s_nil ?_
    refine g_then ?_
    refine g_seq ?_
    refine g_region ?_
    refine s_y (y_move rfl) rfl rfl rfl rfl ?_
    refine s_y (y_lss rfl rfl) rfl rfl rfl rfl ?_
    refine s_nil ?_
    refine g_then ?_
    refine g_cond rfl (fun cq2 => ?_) (fun cq2 => ?_)
    · (try simp at cq2)
      have hbt : betJ (rdS ((candJ a b i j).drop 1) (k : Int)) out = true := by rw [← or_J (rdS ((candJ a b i j).drop 1) (k : Int)) out]; exact decide_eq_true (by simpa only [List.drop_one] using cq2)
      refine g_region ?_
      refine s_y (y_move rfl) rfl rfl rfl rfl ?_
      refine s_y (y_assign rfl) rfl rfl rfl rfl ?_
      refine s_nil ?_
      refine g_inb ?_
      refine g_then ?_
      refine g_region ?_
      refine s_y (y_add rfl rfl (by omega) (by omega)) rfl rfl rfl rfl ?_
      refine s_y (y_move rfl) rfl rfl rfl rfl ?_
      refine s_nil ?_
      refine g_then ?_
      exact fun act W ha hw => ⟨k + 1, by omega, by omega, (rdS ((candJ a b i j).drop 1) (k : Int)), (by rw [bstK, ← hout]; first | exact (if_pos hbt).symm | exact (if_neg hbt).symm), ha.weak (sub_get ⟨rfl, rfl, rfl, rfl, rfl, rfl, rfl, rfl, trivial⟩), (hw.tail hb55.2) ⟩
    · (try simp at cq2)
      have hbt : ¬ betJ (rdS ((candJ a b i j).drop 1) (k : Int)) out = true := by rw [← or_J (rdS ((candJ a b i j).drop 1) (k : Int)) out, decide_eq_true_iff, List.drop_one]; omega
      refine g_skip ?_
      refine g_inb ?_
      refine g_then ?_
      refine g_region ?_
      refine s_y (y_add rfl rfl (by omega) (by omega)) rfl rfl rfl rfl ?_
      refine s_y (y_move rfl) rfl rfl rfl rfl ?_
      refine s_nil ?_
      refine g_then ?_
      exact fun act W ha hw => ⟨k + 1, by omega, by omega, out, (by rw [bstK, ← hout]; first | exact (if_pos hbt).symm | exact (if_neg hbt).symm), ha.weak (sub_get ⟨rfl, rfl, rfl, rfl, rfl, rfl, rfl, rfl, trivial⟩), (hw.tail hb55.2) ⟩
  · (try simp at cq1)
    refine g_exit ?_
    refine g_thenx ?_
    refine g_thenx ?_
    refine g_inbx ?_
    refine g_then ?_
    refine g_seq ?_
    refine g_region ?_
    refine s_y (y_move rfl) rfl rfl rfl rfl ?_
    refine s_y (y_nil rfl) rfl rfl rfl rfl ?_
    refine s_y (y_fld rfl (fun w => fld_127_2 _ _ w)) rfl rfl rfl rfl ?_
    refine s_y (y_ld1 1 rfl rfl agg_125 rfl) rfl rfl rfl rfl ?_
    refine s_y (y_move rfl) rfl rfl rfl rfl ?_
    refine s_y (y_move rfl) rfl rfl rfl rfl ?_
    refine s_y (y_build (vs := [(0, _), (1, _)]) rfl rfl (fun w => bld_79_0_1 _ _ w)) rfl rfl rfl rfl ?_
    refine s_y (y_move rfl) rfl rfl rfl rfl ?_
    refine s_tr0 (t_putG (k := (i, j)) (v := .string out) 0 word_map hM2 rfl rfl rfl rfl rfl (okpI (by simp only; omega) (by simp only; omega))) rfl rfl rfl (fun y hy => ?_)
    refine s_nil ?_
    refine g_then ?_
    refine g_seq ?_
    refine g_region ?_
    refine s_y (y_move rfl) rfl rfl rfl rfl ?_
    refine s_y (y_assign rfl) rfl rfl rfl rfl ?_
    refine s_nil ?_
    refine g_then ?_
    refine g_ret ?_
    have hfin : out = jnP a b i j := by rw [hout, show k = (candJ a b i j).length - 1 by omega]; exact bst_J h0 h1 h2 h3
    exact g_end0 (fun a w ha hq_ => res1 ha rfl rfl  w) (fun w h => ⟨y, SndW.put hFs2 hy hfin, by rw [hfin], Hp.drops (nw := mo) ((show Hp w0 w1 ((mb, .map y.1 y.2) :: (bw, .cells [.string a, .string b, .map (some mb), (.func (.func 78) #[] #[]), (.func (.func 79) #[] #[])].toArray 127 (0, 0)) :: (mo ++ ((m ++ ([]))))) w from h).perm (show ((mb, .map y.1 y.2) :: (bw, .cells [.string a, .string b, .map (some mb), (.func (.func 78) #[] #[]), (.func (.func 79) #[] #[])].toArray 127 (0, 0)) :: (mo ++ ((m ++ ([])))) : List (Nat × Obj)).Perm ((mo ++ ((mb, .map y.1 y.2) :: (bw, .cells [.string a, .string b, .map (some mb), (.func (.func 78) #[] #[]), (.func (.func 79) #[] #[])].toArray 127 (0, 0)) :: (m ++ ([])))) : List (Nat × Obj)) from List.Perm.trans (List.Perm.of_eq (by simp only [List.append_assoc, List.cons_append, List.nil_append, List.append_nil])) (List.Perm.trans (List.perm_append_comm_assoc ((mb, .map y.1 y.2) :: (bw, .cells [.string a, .string b, .map (some mb), (.func (.func 78) #[] #[]), (.func (.func 79) #[] #[])].toArray 127 (0, 0)) :: [] : List (Nat × Obj)) ((mo ++ ([])) : List (Nat × Obj)) ((m ++ ([])) : List (Nat × Obj))) (List.Perm.of_eq (by simp only [List.append_assoc, List.cons_append, List.nil_append, List.append_nil]))))) hge⟩)

theorem nextJ_any {a b : ByteArray} (hla : a.size ≤ 12) (hlb : b.size ≤ 12) {n : Nat} {w0 w1 w : World} {m : List (Nat × Obj)} {bw mb : Nat} {es : Array MapEntry} {clock : Nat} {i j : Int} (h0 : 0 ≤ i) (h1 : i ≤ a.size) (h2 : 0 ≤ j) (h3 : j ≤ b.size) (hn : (a.size : Int) - i + ((b.size : Int) - j) ≤ n) (hS : SndW (jnP a b) es) (hw : Hp w0 w1 ((mb, .map es clock) :: (bw, Obj.cells [.string a, .string b, .map (some mb), (.func (.func 78) #[] #[]), (.func (.func 79) #[] #[])].toArray 127 (0, 0)) :: (m ++ [])) w) (IH : ∀ n', n' < n → BestAtJ a b n') :
    Calls Try.prog 79 [.pointer (some ⟨bw, 0, none⟩), .int .i64 i, .int .i64 j].toArray w fun e w' => ∃ y : (Array MapEntry × Nat) × Value × List (Nat × Obj), (SndW (jnP a b) y.1.1 ∧ OwnV Value.string y.2.1 (candJ a b i j) y.2.2 ∧ ∀ p ∈ y.2.2, w1.heap.size ≤ p.1) ∧ e = .returned y.2.1 ∧ Hp w0 w1 ((mb, .map y.1.1 y.1.2) :: (bw, Obj.cells [.string a, .string b, .map (some mb), (.func (.func 78) #[] #[]), (.func (.func 79) #[] #[])].toArray 127 (0, 0)) :: (y.2.2 ++ (m ++ []))) w' := by
  obtain ⟨ie9_, hi9_⟩ := inf_9
  have zs1 := fun (p q : Int) (r0 : 0 ≤ p) (r1 : p ≤ a.size) (r2 : 0 ≤ q) (r3 : q ≤ b.size) => jnP_size (a := a) (b := b) 100 p q r0 r1 r2 r3 (by omega)
  obtain ⟨ie9, hi9⟩ := inf_9
  refine enterM (N := 96) Try.func79 rfl rfl rfl hw ?_
  refine g_seq ?_
  refine g_region ?_
  refine s_y (y_assign rfl) rfl rfl rfl rfl ?_
  refine s_nil ?_
  refine g_then ?_
  refine g_seq ?_
  refine g_block ?_
  refine g_seq ?_
  refine g_region ?_
  refine s_y (y_move rfl) rfl rfl rfl rfl ?_
  refine s_y (y_move rfl) rfl rfl rfl rfl ?_
  refine s_y (y_nil rfl) rfl rfl rfl rfl ?_
  refine s_y (y_fld rfl (fun w => fld_127_0 _ _ w)) rfl rfl rfl rfl ?_
  refine s_y (y_ld1 1 rfl rfl agg_9 rfl) rfl rfl rfl rfl ?_
  refine s_y (y_lens rfl Try.underlying9) rfl rfl rfl rfl ?_
  refine s_y (y_eql rfl rfl) rfl rfl rfl rfl ?_
  refine s_y (y_assign rfl) rfl rfl rfl rfl ?_
  refine s_nil ?_
  refine g_then ?_
  refine g_cond rfl (fun cq1 => ?_) (fun cq1 => ?_)
  · (try simp at cq1)
    refine g_seq ?_
    refine g_region ?_
    refine s_y (y_move rfl) rfl rfl rfl rfl ?_
    refine s_y (y_nil rfl) rfl rfl rfl rfl ?_
    refine s_y (y_fld rfl (fun w => fld_127_1 _ _ w)) rfl rfl rfl rfl ?_
    refine s_y (y_ld1 1 rfl rfl agg_9 rfl) rfl rfl rfl rfl ?_
    refine s_y (y_move rfl) rfl rfl rfl rfl ?_
    refine s_y (y_strl rfl rfl Try.underlying9 (by omega) (by omega)) rfl rfl rfl rfl ?_
    refine s_tr (t_build (vs := [(0, .string (b.extract (j : Int).toNat b.size))]) (cells := [.string (b.extract (j : Int).toNat b.size)]) rfl rfl Try.underlying45 hi9.1 hi9.2.1 (by rw [hi9.2.2.1]; rfl) (by rw [hi9.2.2.1]; rfl) (by rw [hi9.2.2.1]; kernel_rfl)) rfl rfl rfl rfl (fun b21 hb21 => ?_)
    refine s_y (y_assign rfl) rfl rfl rfl rfl ?_
    refine s_nil ?_
    refine g_then ?_
    refine g_ret ?_
    refine g_inbr ?_
    refine g_thenr ?_
    rw [show (candJ a b i j) = [b.extract (j : Int).toNat b.size] from by unfold candJ; (repeat' split) <;> first | rfl | (exfalso; omega)]
    exact g_end0 (fun a w ha hq_ => res1 ha rfl rfl  w) (fun w h => ⟨((es, clock), _, ((b21, .cells [.string (b.extract (j : Int).toNat b.size)].toArray 9 (0, 0)) :: [])), ⟨hS, (OwnV.blk (enc := Value.string) (xs := [b.extract (j : Int).toNat b.size]) (jk := []) (t := 9) rfl (Nat.le_refl _)).mono (fun p hp => by rw [List.mem_singleton] at hp; rw [hp]; exact (List.mem_cons_self ..)), (ge_con hb21.2 ge_nl)⟩, rfl, by simpa only [List.cons_append, List.append_assoc, List.nil_append] using ((show Hp w0 w1 ((b21, .cells [.string (b.extract (j : Int).toNat b.size)].toArray 9 (0, 0)) :: (mb, .map es clock) :: (bw, .cells [.string a, .string b, .map (some mb), (.func (.func 78) #[] #[]), (.func (.func 79) #[] #[])].toArray 127 (0, 0)) :: (m ++ ([]))) w from h).perm (show ((b21, .cells [.string (b.extract (j : Int).toNat b.size)].toArray 9 (0, 0)) :: (mb, .map es clock) :: (bw, .cells [.string a, .string b, .map (some mb), (.func (.func 78) #[] #[]), (.func (.func 79) #[] #[])].toArray 127 (0, 0)) :: (m ++ ([])) : List (Nat × Obj)).Perm ((mb, .map es clock) :: (bw, .cells [.string a, .string b, .map (some mb), (.func (.func 78) #[] #[]), (.func (.func 79) #[] #[])].toArray 127 (0, 0)) :: (b21, .cells [.string (b.extract (j : Int).toNat b.size)].toArray 9 (0, 0)) :: (m ++ ([])) : List (Nat × Obj)) from List.Perm.trans (List.Perm.of_eq (by simp only [List.append_assoc, List.cons_append, List.nil_append, List.append_nil])) (List.Perm.trans (List.perm_append_comm_assoc ((b21, .cells [.string (b.extract (j : Int).toNat b.size)].toArray 9 (0, 0)) :: [] : List (Nat × Obj)) ((mb, .map es clock) :: (bw, .cells [.string a, .string b, .map (some mb), (.func (.func 78) #[] #[]), (.func (.func 79) #[] #[])].toArray 127 (0, 0)) :: [] : List (Nat × Obj)) ((m ++ ([])) : List (Nat × Obj))) (List.Perm.of_eq (by simp only [List.append_assoc, List.cons_append, List.nil_append, List.append_nil])))))⟩)
  · (try simp at cq1)
    refine g_seq ?_
    refine g_region ?_
    refine s_y (y_move rfl) rfl rfl rfl rfl ?_
    refine s_y (y_move rfl) rfl rfl rfl rfl ?_
    refine s_y (y_nil rfl) rfl rfl rfl rfl ?_
    refine s_y (y_fld rfl (fun w => fld_127_1 _ _ w)) rfl rfl rfl rfl ?_
    refine s_y (y_ld1 1 rfl rfl agg_9 rfl) rfl rfl rfl rfl ?_
    refine s_y (y_lens rfl Try.underlying9) rfl rfl rfl rfl ?_
    refine s_y (y_eql rfl rfl) rfl rfl rfl rfl ?_
    refine s_y (y_assign rfl) rfl rfl rfl rfl ?_
    refine s_nil ?_
    refine g_then ?_
    refine g_cond rfl (fun cq2 => ?_) (fun cq2 => ?_)
    · (try simp at cq2)
      refine g_seq ?_
      refine g_region ?_
      refine s_y (y_move rfl) rfl rfl rfl rfl ?_
      refine s_y (y_nil rfl) rfl rfl rfl rfl ?_
      refine s_y (y_fld rfl (fun w => fld_127_0 _ _ w)) rfl rfl rfl rfl ?_
      refine s_y (y_ld1 1 rfl rfl agg_9 rfl) rfl rfl rfl rfl ?_
      refine s_y (y_move rfl) rfl rfl rfl rfl ?_
      refine s_y (y_strl rfl rfl Try.underlying9 (by omega) (by omega)) rfl rfl rfl rfl ?_
      refine s_tr (t_build (vs := [(0, .string (a.extract (i : Int).toNat a.size))]) (cells := [.string (a.extract (i : Int).toNat a.size)]) rfl rfl Try.underlying45 hi9.1 hi9.2.1 (by rw [hi9.2.2.1]; rfl) (by rw [hi9.2.2.1]; rfl) (by rw [hi9.2.2.1]; kernel_rfl)) rfl rfl rfl rfl (fun b36 hb36 => ?_)
      refine s_y (y_assign rfl) rfl rfl rfl rfl ?_
      refine s_nil ?_
      refine g_then ?_
      refine g_ret ?_
      refine g_inbr ?_
      refine g_thenr ?_
      rw [show (candJ a b i j) = [a.extract (i : Int).toNat a.size] from by unfold candJ; (repeat' split) <;> first | rfl | (exfalso; omega)]
      exact g_end0 (fun a w ha hq_ => res1 ha rfl rfl  w) (fun w h => ⟨((es, clock), _, ((b36, .cells [.string (a.extract (i : Int).toNat a.size)].toArray 9 (0, 0)) :: [])), ⟨hS, (OwnV.blk (enc := Value.string) (xs := [a.extract (i : Int).toNat a.size]) (jk := []) (t := 9) rfl (Nat.le_refl _)).mono (fun p hp => by rw [List.mem_singleton] at hp; rw [hp]; exact (List.mem_cons_self ..)), (ge_con hb36.2 ge_nl)⟩, rfl, by simpa only [List.cons_append, List.append_assoc, List.nil_append] using ((show Hp w0 w1 ((b36, .cells [.string (a.extract (i : Int).toNat a.size)].toArray 9 (0, 0)) :: (mb, .map es clock) :: (bw, .cells [.string a, .string b, .map (some mb), (.func (.func 78) #[] #[]), (.func (.func 79) #[] #[])].toArray 127 (0, 0)) :: (m ++ ([]))) w from h).perm (show ((b36, .cells [.string (a.extract (i : Int).toNat a.size)].toArray 9 (0, 0)) :: (mb, .map es clock) :: (bw, .cells [.string a, .string b, .map (some mb), (.func (.func 78) #[] #[]), (.func (.func 79) #[] #[])].toArray 127 (0, 0)) :: (m ++ ([])) : List (Nat × Obj)).Perm ((mb, .map es clock) :: (bw, .cells [.string a, .string b, .map (some mb), (.func (.func 78) #[] #[]), (.func (.func 79) #[] #[])].toArray 127 (0, 0)) :: (b36, .cells [.string (a.extract (i : Int).toNat a.size)].toArray 9 (0, 0)) :: (m ++ ([])) : List (Nat × Obj)) from List.Perm.trans (List.Perm.of_eq (by simp only [List.append_assoc, List.cons_append, List.nil_append, List.append_nil])) (List.Perm.trans (List.perm_append_comm_assoc ((b36, .cells [.string (a.extract (i : Int).toNat a.size)].toArray 9 (0, 0)) :: [] : List (Nat × Obj)) ((mb, .map es clock) :: (bw, .cells [.string a, .string b, .map (some mb), (.func (.func 78) #[] #[]), (.func (.func 79) #[] #[])].toArray 127 (0, 0)) :: [] : List (Nat × Obj)) ((m ++ ([])) : List (Nat × Obj))) (List.Perm.of_eq (by simp only [List.append_assoc, List.cons_append, List.nil_append, List.append_nil])))))⟩)
    · (try simp at cq2)
      refine g_seq ?_
      refine g_draw 14 (by kernel_rfl) ?_
      refine j_p (i := 0) rfl (y_move rfl) (by kernel_rfl) (by kernel_rfl) (by kernel_rfl) rfl rfl rfl rfl rfl (.inr (fun _ h => h)) ?_
      refine j_p (i := 1) rfl (y_nil rfl) (by kernel_rfl) (by kernel_rfl) (by kernel_rfl) rfl rfl rfl rfl rfl (.inr (fun _ h => h)) ?_
      refine j_p (i := 2) rfl (y_fld rfl (fun w => fld_127_0 _ _ w)) (by kernel_rfl) (by kernel_rfl) (by kernel_rfl) rfl rfl rfl rfl rfl (.inr (fun _ h => h)) ?_
      refine j_l (i := 3) rfl (y_ld1 1 rfl rfl agg_9 rfl) (by kernel_rfl) (by kernel_rfl) (by kernel_rfl) (by kernel_rfl) rfl rfl rfl rfl rfl (.inr (fun _ h => h)) ?_
      refine j_p (i := 4) rfl (y_move rfl) (by kernel_rfl) (by kernel_rfl) (by kernel_rfl) rfl rfl rfl rfl rfl (.inr (fun _ h => h)) ?_
      refine j_p (i := 5) rfl (y_idxs rfl rfl Try.underlying9 (by omega) (by omega)) (by kernel_rfl) (by kernel_rfl) (by kernel_rfl) rfl rfl rfl rfl rfl (.inr (fun _ h => h)) ?_
      refine j_p (i := 6) rfl (y_move rfl) (by kernel_rfl) (by kernel_rfl) (by kernel_rfl) rfl rfl rfl rfl rfl (.inr (fun _ h => h)) ?_
      refine j_p (i := 7) rfl (y_nil rfl) (by kernel_rfl) (by kernel_rfl) (by kernel_rfl) rfl rfl rfl rfl rfl (.inr (fun _ h => h)) ?_
      refine j_p (i := 8) rfl (y_fld rfl (fun w => fld_127_1 _ _ w)) (by kernel_rfl) (by kernel_rfl) (by kernel_rfl) rfl rfl rfl rfl rfl (.inr (fun _ h => h)) ?_
      refine j_l (i := 9) rfl (y_ld1 1 rfl rfl agg_9 rfl) (by kernel_rfl) (by kernel_rfl) (by kernel_rfl) (by kernel_rfl) rfl rfl rfl rfl rfl (.inr (fun _ h => h)) ?_
      refine j_p (i := 10) rfl (y_move rfl) (by kernel_rfl) (by kernel_rfl) (by kernel_rfl) rfl rfl rfl rfl rfl (.inr (fun _ h => h)) ?_
      refine j_p (i := 11) rfl (y_idxs rfl rfl Try.underlying9 (by omega) (by omega)) (by kernel_rfl) (by kernel_rfl) (by kernel_rfl) rfl rfl rfl rfl rfl (.inr (fun _ h => h)) ?_
      refine j_p (i := 12) rfl (y_eql rfl rfl) (by kernel_rfl) (by kernel_rfl) (by kernel_rfl) rfl rfl rfl rfl rfl (.inr (fun _ h => h)) ?_
      refine j_p (i := 13) rfl (y_assign rfl) (by kernel_rfl) (by kernel_rfl) (by kernel_rfl) rfl rfl rfl rfl rfl (.inr (fun _ h => h)) ?_
      refine j_nil (by kernel_rfl) ?_
      refine g_then ?_
      refine g_cond rfl (fun cq3 => ?_) (fun cq3 => ?_)
      · (try simp at cq3)
        refine g_seq ?_
        have hca := cutB_size (a := a) (i := i) h0 (by omega)
        unfold cutB at hca
        have q3 := zs1 (i + 1) (j + 1) (by omega) (by omega) (by omega) (by omega)
        refine g_drawC 17 (fun W => ∀ p ∈ ((bw, .cells [.string a, .string b, .map (some mb), (.func (.func 78) #[] #[]), (.func (.func 79) #[] #[])].toArray 127 (0, 0)) :: [] : List (Nat × Obj)), W.heap[p.1]? = some p.2) (by kernel_rfl) ?_
        refine j_p (i := 0) rfl (y_move rfl) (by kernel_rfl) (by kernel_rfl) (by kernel_rfl) rfl rfl rfl rfl rfl (.inr (fun _ h => at_all h (List.Sublist.cons _ (List.Sublist.cons_cons _ (List.nil_sublist _))))) ?_
        refine j_p (i := 1) rfl (y_nil rfl) (by kernel_rfl) (by kernel_rfl) (by kernel_rfl) rfl rfl rfl rfl rfl (.inr (fun _ h => at_all h (List.Sublist.cons _ (List.Sublist.cons_cons _ (List.nil_sublist _))))) ?_
        refine j_p (i := 2) rfl (y_fld rfl (fun w => fld_127_0 _ _ w)) (by kernel_rfl) (by kernel_rfl) (by kernel_rfl) rfl rfl rfl rfl rfl (.inr (fun _ h => at_all h (List.Sublist.cons _ (List.Sublist.cons_cons _ (List.nil_sublist _))))) ?_
        refine j_l (i := 3) rfl (y_ldC (fun w h => h _ (List.mem_cons_self ..)) rfl agg_9 rfl) (by kernel_rfl) (by kernel_rfl) (by kernel_rfl) (by kernel_rfl) rfl rfl rfl rfl rfl (.inr (fun _ h => at_all h (List.Sublist.cons _ (List.Sublist.cons_cons _ (List.nil_sublist _))))) ?_
        refine j_p (i := 4) rfl (y_move rfl) (by kernel_rfl) (by kernel_rfl) (by kernel_rfl) rfl rfl rfl rfl rfl (.inr (fun _ h => at_all h (List.Sublist.cons _ (List.Sublist.cons_cons _ (List.nil_sublist _))))) ?_
        refine j_p (i := 5) rfl (y_move rfl) (by kernel_rfl) (by kernel_rfl) (by kernel_rfl) rfl rfl rfl rfl rfl (.inr (fun _ h => at_all h (List.Sublist.cons _ (List.Sublist.cons_cons _ (List.nil_sublist _))))) ?_
        refine j_p (i := 6) rfl (y_add rfl rfl (by omega) (by omega)) (by kernel_rfl) (by kernel_rfl) (by kernel_rfl) rfl rfl rfl rfl rfl (.inr (fun _ h => at_all h (List.Sublist.cons _ (List.Sublist.cons_cons _ (List.nil_sublist _))))) ?_
        refine j_p (i := 7) rfl (y_strlh rfl rfl rfl Try.underlying9 (by omega) (by omega) (by omega)) (by kernel_rfl) (by kernel_rfl) (by kernel_rfl) rfl rfl rfl rfl rfl (.inr (fun _ h => at_all h (List.Sublist.cons _ (List.Sublist.cons_cons _ (List.nil_sublist _))))) ?_
        refine j_p (i := 8) rfl (y_move rfl) (by kernel_rfl) (by kernel_rfl) (by kernel_rfl) rfl rfl rfl rfl rfl (.inr (fun _ h => at_all h (List.Sublist.cons _ (List.Sublist.cons_cons _ (List.nil_sublist _))))) ?_
        refine j_p (i := 9) rfl (y_move rfl) (by kernel_rfl) (by kernel_rfl) (by kernel_rfl) rfl rfl rfl rfl rfl (.inr (fun _ h => at_all h (List.Sublist.cons _ (List.Sublist.cons_cons _ (List.nil_sublist _))))) ?_
        refine j_p (i := 10) rfl (y_add rfl rfl (by omega) (by omega)) (by kernel_rfl) (by kernel_rfl) (by kernel_rfl) rfl rfl rfl rfl rfl (.inr (fun _ h => at_all h (List.Sublist.cons _ (List.Sublist.cons_cons _ (List.nil_sublist _))))) ?_
        refine j_p (i := 11) rfl (y_move rfl) (by kernel_rfl) (by kernel_rfl) (by kernel_rfl) rfl rfl rfl rfl rfl (.inr (fun _ h => at_all h (List.Sublist.cons _ (List.Sublist.cons_cons _ (List.nil_sublist _))))) ?_
        refine j_p (i := 12) rfl (y_add rfl rfl (by omega) (by omega)) (by kernel_rfl) (by kernel_rfl) (by kernel_rfl) rfl rfl rfl rfl rfl (.inr (fun _ h => at_all h (List.Sublist.cons _ (List.Sublist.cons_cons _ (List.nil_sublist _))))) ?_
        refine j_tr (i := 13) rfl (t_callx (ι := Array MapEntry × Nat) (A := fun y => SndW (jnP a b) y.1) (vf := fun _ => .string (jnP a b (i + 1) (j + 1))) (wf := fun _ => w1) (mf := fun y => (mb, .map y.1 y.2) :: (bw, .cells [.string a, .string b, .map (some mb), (.func (.func 78) #[] #[]), (.func (.func 79) #[] #[])].toArray 127 (0, 0)) :: (m ++ ([]))) rfl rfl ent_90 (fun w h => by simp only [Array.append_empty, Array.empty_append]; exact (IH (n - 1) (by omega) w0 w1 w _ bw mb es clock (i + 1) (j + 1) (by omega) (by omega) (by omega) (by omega) (by omega) hS h).mono fun e w' ⟨y, q1, q2, q3⟩ => ⟨y, q1, q2, q3⟩)) (by kernel_rfl) rfl rfl rfl rfl (.inr (fun x w hb h => at_all h (List.Sublist.cons _ (List.Sublist.cons_cons _ (List.nil_sublist _))))) (fun y4 hy4 => ?_)
        refine j_p (i := 14) rfl (y_sadd rfl rfl (by omega)) (by kernel_rfl) (by kernel_rfl) (by kernel_rfl) rfl rfl rfl rfl rfl (.inr (fun _ h => at_all h (List.Sublist.cons _ (List.Sublist.cons_cons _ (List.nil_sublist _))))) ?_
        refine j_tr (i := 15) rfl (t_build (vs := [(0, .string ((a.extract (i : Int).toNat (i + 1 : Int).toNat) ++ (jnP a b (i + 1) (j + 1))))]) (cells := [.string ((a.extract (i : Int).toNat (i + 1 : Int).toNat) ++ (jnP a b (i + 1) (j + 1)))]) rfl rfl Try.underlying45 hi9.1 hi9.2.1 (by rw [hi9.2.2.1]; rfl) (by rw [hi9.2.2.1]; rfl) (by rw [hi9.2.2.1]; kernel_rfl)) (by kernel_rfl) rfl rfl rfl rfl (.inr (fun x w hb h => at_all h (List.Sublist.cons _ (List.Sublist.cons _ (List.Sublist.cons_cons _ (List.nil_sublist _)))))) (fun b66 hb66 => ?_)
        refine j_p (i := 16) rfl (y_assign rfl) (by kernel_rfl) (by kernel_rfl) (by kernel_rfl) rfl rfl rfl rfl rfl (.inr (fun _ h => at_all h (List.Sublist.cons _ (List.Sublist.cons _ (List.Sublist.cons_cons _ (List.nil_sublist _)))))) ?_
        refine j_nil (by kernel_rfl) ?_
        refine g_then ?_
        refine g_ret ?_
        refine g_inbr ?_
        refine g_thenr ?_
        rw [show (candJ a b i j) = [(a.extract (i : Int).toNat (i + 1 : Int).toNat) ++ (jnP a b (i + 1) (j + 1))] from by unfold candJ; (repeat' split) <;> first | rfl | (exfalso; omega)]
        exact g_end0 (fun a w ha hq_ => res1 ha rfl rfl  w) (fun w h => ⟨((y4.1, y4.2), _, ((b66, .cells [.string ((a.extract (i : Int).toNat (i + 1 : Int).toNat) ++ (jnP a b (i + 1) (j + 1)))].toArray 9 (0, 0)) :: [])), ⟨hy4, (OwnV.blk (enc := Value.string) (xs := [(a.extract (i : Int).toNat (i + 1 : Int).toNat) ++ (jnP a b (i + 1) (j + 1))]) (jk := []) (t := 9) rfl (Nat.le_refl _)).mono (fun p hp => by rw [List.mem_singleton] at hp; rw [hp]; exact (List.mem_cons_self ..)), (ge_con hb66.2 ge_nl)⟩, rfl, by simpa only [List.cons_append, List.append_assoc, List.nil_append] using ((show Hp w0 w1 ((b66, .cells [.string ((a.extract (i : Int).toNat (i + 1 : Int).toNat) ++ (jnP a b (i + 1) (j + 1)))].toArray 9 (0, 0)) :: (mb, .map y4.1 y4.2) :: (bw, .cells [.string a, .string b, .map (some mb), (.func (.func 78) #[] #[]), (.func (.func 79) #[] #[])].toArray 127 (0, 0)) :: (m ++ ([]))) w from h).perm (show ((b66, .cells [.string ((a.extract (i : Int).toNat (i + 1 : Int).toNat) ++ (jnP a b (i + 1) (j + 1)))].toArray 9 (0, 0)) :: (mb, .map y4.1 y4.2) :: (bw, .cells [.string a, .string b, .map (some mb), (.func (.func 78) #[] #[]), (.func (.func 79) #[] #[])].toArray 127 (0, 0)) :: (m ++ ([])) : List (Nat × Obj)).Perm ((mb, .map y4.1 y4.2) :: (bw, .cells [.string a, .string b, .map (some mb), (.func (.func 78) #[] #[]), (.func (.func 79) #[] #[])].toArray 127 (0, 0)) :: (b66, .cells [.string ((a.extract (i : Int).toNat (i + 1 : Int).toNat) ++ (jnP a b (i + 1) (j + 1)))].toArray 9 (0, 0)) :: (m ++ ([])) : List (Nat × Obj)) from List.Perm.trans (List.Perm.of_eq (by simp only [List.append_assoc, List.cons_append, List.nil_append, List.append_nil])) (List.Perm.trans (List.perm_append_comm_assoc ((b66, .cells [.string ((a.extract (i : Int).toNat (i + 1 : Int).toNat) ++ (jnP a b (i + 1) (j + 1)))].toArray 9 (0, 0)) :: [] : List (Nat × Obj)) ((mb, .map y4.1 y4.2) :: (bw, .cells [.string a, .string b, .map (some mb), (.func (.func 78) #[] #[]), (.func (.func 79) #[] #[])].toArray 127 (0, 0)) :: [] : List (Nat × Obj)) ((m ++ ([])) : List (Nat × Obj))) (List.Perm.of_eq (by simp only [List.append_assoc, List.cons_append, List.nil_append, List.append_nil])))))⟩)
      · (try simp at cq3)
        refine g_skip ?_
        refine g_inb ?_
        refine g_then ?_
        refine g_seq ?_
        have hca := cutB_size (a := a) (i := i) h0 (by omega)
        unfold cutB at hca
        have hcb := cutB_size (a := b) (i := j) h2 (by omega)
        unfold cutB at hcb
        have q1 := zs1 (i + 1) j (by omega) (by omega) (by omega) (by omega)
        have q2 := zs1 i (j + 1) (by omega) (by omega) (by omega) (by omega)
        refine g_drawC 30 (fun W => ∀ p ∈ ((bw, .cells [.string a, .string b, .map (some mb), (.func (.func 78) #[] #[]), (.func (.func 79) #[] #[])].toArray 127 (0, 0)) :: [] : List (Nat × Obj)), W.heap[p.1]? = some p.2) (by kernel_rfl) ?_
        refine j_p (i := 0) rfl (y_move rfl) (by kernel_rfl) (by kernel_rfl) (by kernel_rfl) rfl rfl rfl rfl rfl (.inr (fun _ h => at_all h (List.Sublist.cons _ (List.Sublist.cons_cons _ (List.nil_sublist _))))) ?_
        refine j_p (i := 1) rfl (y_nil rfl) (by kernel_rfl) (by kernel_rfl) (by kernel_rfl) rfl rfl rfl rfl rfl (.inr (fun _ h => at_all h (List.Sublist.cons _ (List.Sublist.cons_cons _ (List.nil_sublist _))))) ?_
        refine j_p (i := 2) rfl (y_fld rfl (fun w => fld_127_0 _ _ w)) (by kernel_rfl) (by kernel_rfl) (by kernel_rfl) rfl rfl rfl rfl rfl (.inr (fun _ h => at_all h (List.Sublist.cons _ (List.Sublist.cons_cons _ (List.nil_sublist _))))) ?_
        refine j_l (i := 3) rfl (y_ldC (fun w h => h _ (List.mem_cons_self ..)) rfl agg_9 rfl) (by kernel_rfl) (by kernel_rfl) (by kernel_rfl) (by kernel_rfl) rfl rfl rfl rfl rfl (.inr (fun _ h => at_all h (List.Sublist.cons _ (List.Sublist.cons_cons _ (List.nil_sublist _))))) ?_
        refine j_p (i := 4) rfl (y_move rfl) (by kernel_rfl) (by kernel_rfl) (by kernel_rfl) rfl rfl rfl rfl rfl (.inr (fun _ h => at_all h (List.Sublist.cons _ (List.Sublist.cons_cons _ (List.nil_sublist _))))) ?_
        refine j_p (i := 5) rfl (y_move rfl) (by kernel_rfl) (by kernel_rfl) (by kernel_rfl) rfl rfl rfl rfl rfl (.inr (fun _ h => at_all h (List.Sublist.cons _ (List.Sublist.cons_cons _ (List.nil_sublist _))))) ?_
        refine j_p (i := 6) rfl (y_add rfl rfl (by omega) (by omega)) (by kernel_rfl) (by kernel_rfl) (by kernel_rfl) rfl rfl rfl rfl rfl (.inr (fun _ h => at_all h (List.Sublist.cons _ (List.Sublist.cons_cons _ (List.nil_sublist _))))) ?_
        refine j_p (i := 7) rfl (y_strlh rfl rfl rfl Try.underlying9 (by omega) (by omega) (by omega)) (by kernel_rfl) (by kernel_rfl) (by kernel_rfl) rfl rfl rfl rfl rfl (.inr (fun _ h => at_all h (List.Sublist.cons _ (List.Sublist.cons_cons _ (List.nil_sublist _))))) ?_
        refine j_p (i := 8) rfl (y_move rfl) (by kernel_rfl) (by kernel_rfl) (by kernel_rfl) rfl rfl rfl rfl rfl (.inr (fun _ h => at_all h (List.Sublist.cons _ (List.Sublist.cons_cons _ (List.nil_sublist _))))) ?_
        refine j_p (i := 9) rfl (y_move rfl) (by kernel_rfl) (by kernel_rfl) (by kernel_rfl) rfl rfl rfl rfl rfl (.inr (fun _ h => at_all h (List.Sublist.cons _ (List.Sublist.cons_cons _ (List.nil_sublist _))))) ?_
        refine j_p (i := 10) rfl (y_add rfl rfl (by omega) (by omega)) (by kernel_rfl) (by kernel_rfl) (by kernel_rfl) rfl rfl rfl rfl rfl (.inr (fun _ h => at_all h (List.Sublist.cons _ (List.Sublist.cons_cons _ (List.nil_sublist _))))) ?_
        refine j_p (i := 11) rfl (y_move rfl) (by kernel_rfl) (by kernel_rfl) (by kernel_rfl) rfl rfl rfl rfl rfl (.inr (fun _ h => at_all h (List.Sublist.cons _ (List.Sublist.cons_cons _ (List.nil_sublist _))))) ?_
        refine j_p (i := 14) rfl (y_move rfl) (by kernel_rfl) (by kernel_rfl) (by kernel_rfl) rfl rfl rfl rfl rfl (.inr (fun _ h => at_all h (List.Sublist.cons _ (List.Sublist.cons_cons _ (List.nil_sublist _))))) ?_
        refine j_p (i := 15) rfl (y_nil rfl) (by kernel_rfl) (by kernel_rfl) (by kernel_rfl) rfl rfl rfl rfl rfl (.inr (fun _ h => at_all h (List.Sublist.cons _ (List.Sublist.cons_cons _ (List.nil_sublist _))))) ?_
        refine j_p (i := 16) rfl (y_fld rfl (fun w => fld_127_1 _ _ w)) (by kernel_rfl) (by kernel_rfl) (by kernel_rfl) rfl rfl rfl rfl rfl (.inr (fun _ h => at_all h (List.Sublist.cons _ (List.Sublist.cons_cons _ (List.nil_sublist _))))) ?_
        refine j_l (i := 17) rfl (y_ldC (fun w h => h _ (List.mem_cons_self ..)) rfl agg_9 rfl) (by kernel_rfl) (by kernel_rfl) (by kernel_rfl) (by kernel_rfl) rfl rfl rfl rfl rfl (.inr (fun _ h => at_all h (List.Sublist.cons _ (List.Sublist.cons_cons _ (List.nil_sublist _))))) ?_
        refine j_p (i := 18) rfl (y_move rfl) (by kernel_rfl) (by kernel_rfl) (by kernel_rfl) rfl rfl rfl rfl rfl (.inr (fun _ h => at_all h (List.Sublist.cons _ (List.Sublist.cons_cons _ (List.nil_sublist _))))) ?_
        refine j_p (i := 19) rfl (y_move rfl) (by kernel_rfl) (by kernel_rfl) (by kernel_rfl) rfl rfl rfl rfl rfl (.inr (fun _ h => at_all h (List.Sublist.cons _ (List.Sublist.cons_cons _ (List.nil_sublist _))))) ?_
        refine j_p (i := 20) rfl (y_add rfl rfl (by omega) (by omega)) (by kernel_rfl) (by kernel_rfl) (by kernel_rfl) rfl rfl rfl rfl rfl (.inr (fun _ h => at_all h (List.Sublist.cons _ (List.Sublist.cons_cons _ (List.nil_sublist _))))) ?_
        refine j_p (i := 21) rfl (y_strlh rfl rfl rfl Try.underlying9 (by omega) (by omega) (by omega)) (by kernel_rfl) (by kernel_rfl) (by kernel_rfl) rfl rfl rfl rfl rfl (.inr (fun _ h => at_all h (List.Sublist.cons _ (List.Sublist.cons_cons _ (List.nil_sublist _))))) ?_
        refine j_p (i := 22) rfl (y_move rfl) (by kernel_rfl) (by kernel_rfl) (by kernel_rfl) rfl rfl rfl rfl rfl (.inr (fun _ h => at_all h (List.Sublist.cons _ (List.Sublist.cons_cons _ (List.nil_sublist _))))) ?_
        refine j_p (i := 23) rfl (y_move rfl) (by kernel_rfl) (by kernel_rfl) (by kernel_rfl) rfl rfl rfl rfl rfl (.inr (fun _ h => at_all h (List.Sublist.cons _ (List.Sublist.cons_cons _ (List.nil_sublist _))))) ?_
        refine j_p (i := 24) rfl (y_move rfl) (by kernel_rfl) (by kernel_rfl) (by kernel_rfl) rfl rfl rfl rfl rfl (.inr (fun _ h => at_all h (List.Sublist.cons _ (List.Sublist.cons_cons _ (List.nil_sublist _))))) ?_
        refine j_p (i := 25) rfl (y_add rfl rfl (by omega) (by omega)) (by kernel_rfl) (by kernel_rfl) (by kernel_rfl) rfl rfl rfl rfl rfl (.inr (fun _ h => at_all h (List.Sublist.cons _ (List.Sublist.cons_cons _ (List.nil_sublist _))))) ?_
        refine j_tr (i := 12) rfl (t_callx (ι := Array MapEntry × Nat) (A := fun y => SndW (jnP a b) y.1) (vf := fun _ => .string (jnP a b (i + 1) j)) (wf := fun _ => w1) (mf := fun y => (mb, .map y.1 y.2) :: (bw, .cells [.string a, .string b, .map (some mb), (.func (.func 78) #[] #[]), (.func (.func 79) #[] #[])].toArray 127 (0, 0)) :: (m ++ ([]))) rfl rfl ent_90 (fun w h => by simp only [Array.append_empty, Array.empty_append]; exact (IH (n - 1) (by omega) w0 w1 w _ bw mb es clock (i + 1) j (by omega) (by omega) (by omega) (by omega) (by omega) hS h).mono fun e w' ⟨y, q1, q2, q3⟩ => ⟨y, q1, q2, q3⟩)) (by kernel_rfl) rfl rfl rfl rfl (.inr (fun x w hb h => at_all h (List.Sublist.cons _ (List.Sublist.cons_cons _ (List.nil_sublist _))))) (fun y5 hy5 => ?_)
        refine j_p (i := 13) rfl (y_sadd rfl rfl (by omega)) (by kernel_rfl) (by kernel_rfl) (by kernel_rfl) rfl rfl rfl rfl rfl (.inr (fun _ h => at_all h (List.Sublist.cons _ (List.Sublist.cons_cons _ (List.nil_sublist _))))) ?_
        refine j_tr (i := 26) rfl (t_callx (ι := Array MapEntry × Nat) (A := fun y => SndW (jnP a b) y.1) (vf := fun _ => .string (jnP a b i (j + 1))) (wf := fun _ => w1) (mf := fun y => (mb, .map y.1 y.2) :: (bw, .cells [.string a, .string b, .map (some mb), (.func (.func 78) #[] #[]), (.func (.func 79) #[] #[])].toArray 127 (0, 0)) :: (m ++ ([]))) rfl rfl ent_90 (fun w h => by simp only [Array.append_empty, Array.empty_append]; exact (IH (n - 1) (by omega) w0 w1 w _ bw mb y5.1 y5.2 i (j + 1) (by omega) (by omega) (by omega) (by omega) (by omega) hy5 h).mono fun e w' ⟨y, q1, q2, q3⟩ => ⟨y, q1, q2, q3⟩)) (by kernel_rfl) rfl rfl rfl rfl (.inr (fun x w hb h => at_all h (List.Sublist.cons _ (List.Sublist.cons_cons _ (List.nil_sublist _))))) (fun y6 hy6 => ?_)
        refine j_p (i := 27) rfl (y_sadd rfl rfl (by omega)) (by kernel_rfl) (by kernel_rfl) (by kernel_rfl) rfl rfl rfl rfl rfl (.inr (fun _ h => at_all h (List.Sublist.cons _ (List.Sublist.cons_cons _ (List.nil_sublist _))))) ?_
        refine j_tr (i := 28) rfl (t_build (vs := [(0, .string ((a.extract (i : Int).toNat (i + 1 : Int).toNat) ++ (jnP a b (i + 1) j))), (1, .string ((b.extract (j : Int).toNat (j + 1 : Int).toNat) ++ (jnP a b i (j + 1))))]) (cells := [.string ((a.extract (i : Int).toNat (i + 1 : Int).toNat) ++ (jnP a b (i + 1) j)), .string ((b.extract (j : Int).toNat (j + 1 : Int).toNat) ++ (jnP a b i (j + 1)))]) rfl rfl Try.underlying45 hi9.1 hi9.2.1 (by rw [hi9.2.2.1]; rfl) (by rw [hi9.2.2.1]; rfl) (by rw [hi9.2.2.1]; kernel_rfl)) (by kernel_rfl) rfl rfl rfl rfl (.inr (fun x w hb h => at_all h (List.Sublist.cons _ (List.Sublist.cons _ (List.Sublist.cons_cons _ (List.nil_sublist _)))))) (fun b95 hb95 => ?_)
        refine j_p (i := 29) rfl (y_assign rfl) (by kernel_rfl) (by kernel_rfl) (by kernel_rfl) rfl rfl rfl rfl rfl (.inr (fun _ h => at_all h (List.Sublist.cons _ (List.Sublist.cons _ (List.Sublist.cons_cons _ (List.nil_sublist _)))))) ?_
        refine j_nil (by kernel_rfl) ?_
        refine g_then ?_
        refine g_ret ?_
        rw [show (candJ a b i j) = [(a.extract (i : Int).toNat (i + 1 : Int).toNat) ++ (jnP a b (i + 1) j), (b.extract (j : Int).toNat (j + 1 : Int).toNat) ++ (jnP a b i (j + 1))] from by unfold candJ; (repeat' split) <;> first | rfl | (exfalso; omega)]
        exact g_end0 (fun a w ha hq_ => res1 ha rfl rfl  w) (fun w h => ⟨((y6.1, y6.2), _, ((b95, .cells [.string ((a.extract (i : Int).toNat (i + 1 : Int).toNat) ++ (jnP a b (i + 1) j)), .string ((b.extract (j : Int).toNat (j + 1 : Int).toNat) ++ (jnP a b i (j + 1)))].toArray 9 (0, 0)) :: [])), ⟨hy6, (OwnV.blk (enc := Value.string) (xs := [(a.extract (i : Int).toNat (i + 1 : Int).toNat) ++ (jnP a b (i + 1) j), (b.extract (j : Int).toNat (j + 1 : Int).toNat) ++ (jnP a b i (j + 1))]) (jk := []) (t := 9) rfl (Nat.le_refl _)).mono (fun p hp => by rw [List.mem_singleton] at hp; rw [hp]; exact (List.mem_cons_self ..)), (ge_con hb95.2 ge_nl)⟩, rfl, by simpa only [List.cons_append, List.append_assoc, List.nil_append] using ((show Hp w0 w1 ((b95, .cells [.string ((a.extract (i : Int).toNat (i + 1 : Int).toNat) ++ (jnP a b (i + 1) j)), .string ((b.extract (j : Int).toNat (j + 1 : Int).toNat) ++ (jnP a b i (j + 1)))].toArray 9 (0, 0)) :: (mb, .map y6.1 y6.2) :: (bw, .cells [.string a, .string b, .map (some mb), (.func (.func 78) #[] #[]), (.func (.func 79) #[] #[])].toArray 127 (0, 0)) :: (m ++ ([]))) w from h).perm (show ((b95, .cells [.string ((a.extract (i : Int).toNat (i + 1 : Int).toNat) ++ (jnP a b (i + 1) j)), .string ((b.extract (j : Int).toNat (j + 1 : Int).toNat) ++ (jnP a b i (j + 1)))].toArray 9 (0, 0)) :: (mb, .map y6.1 y6.2) :: (bw, .cells [.string a, .string b, .map (some mb), (.func (.func 78) #[] #[]), (.func (.func 79) #[] #[])].toArray 127 (0, 0)) :: (m ++ ([])) : List (Nat × Obj)).Perm ((mb, .map y6.1 y6.2) :: (bw, .cells [.string a, .string b, .map (some mb), (.func (.func 78) #[] #[]), (.func (.func 79) #[] #[])].toArray 127 (0, 0)) :: (b95, .cells [.string ((a.extract (i : Int).toNat (i + 1 : Int).toNat) ++ (jnP a b (i + 1) j)), .string ((b.extract (j : Int).toNat (j + 1 : Int).toNat) ++ (jnP a b i (j + 1)))].toArray 9 (0, 0)) :: (m ++ ([])) : List (Nat × Obj)) from List.Perm.trans (List.Perm.of_eq (by simp only [List.append_assoc, List.cons_append, List.nil_append, List.append_nil])) (List.Perm.trans (List.perm_append_comm_assoc ((b95, .cells [.string ((a.extract (i : Int).toNat (i + 1 : Int).toNat) ++ (jnP a b (i + 1) j)), .string ((b.extract (j : Int).toNat (j + 1 : Int).toNat) ++ (jnP a b i (j + 1)))].toArray 9 (0, 0)) :: [] : List (Nat × Obj)) ((mb, .map y6.1 y6.2) :: (bw, .cells [.string a, .string b, .map (some mb), (.func (.func 78) #[] #[]), (.func (.func 79) #[] #[])].toArray 127 (0, 0)) :: [] : List (Nat × Obj)) ((m ++ ([])) : List (Nat × Obj))) (List.Perm.of_eq (by simp only [List.append_assoc, List.cons_append, List.nil_append, List.append_nil])))))⟩)

theorem nextJ_at {a b : ByteArray} (hla : a.size ≤ 12) (hlb : b.size ≤ 12) {n : Nat} (IH : ∀ n', n' < n → BestAtJ a b n') : NextAtJ a b n := fun w0 w1 w m bw mb es clock i j h0 h1 h2 h3 hn hS hw => by
  have h := nextJ_any (m := m) hla hlb h0 h1 h2 h3 hn hS (by rw [List.append_nil]; exact hw) IH
  simpa only [List.append_nil] using h
theorem bestJ_at {a b : ByteArray} (hla : a.size ≤ 12) (hlb : b.size ≤ 12) {n : Nat} (hNX : NextAtJ a b n) : BestAtJ a b n := fun w0 w1 w m bw mb es clock i j h0 h1 h2 h3 hn hS hw => by
  obtain ⟨F, hM, hFs⟩ := id hS
  have hw' : Hp w0 w1 ((mb, .map es clock) :: (bw, Obj.cells [.string a, .string b, .map (some mb), (.func (.func 78) #[] #[]), (.func (.func 79) #[] #[])].toArray 127 (0, 0)) :: (m ++ [])) w := by rw [List.append_nil]; exact hw
  cases hF : F (i, j) with
  | none =>
    have h := bestJ_new (m := m) hla hlb h0 h1 h2 h3 hn hS hw' F hM hF hNX
    simpa only [List.append_nil] using h
  | some v =>
    have hv := hFs _ _ hF
    subst hv
    have h := bestJ_known (m := m) hla hlb h0 h1 h2 h3 hn hS hw' _ F hM hF rfl
    simpa only [List.append_nil] using h
theorem bestJ_all {a b : ByteArray} (hla : a.size ≤ 12) (hlb : b.size ≤ 12) (n : Nat) : BestAtJ a b n := Nat.strongRecOn n fun n ih => bestJ_at hla hlb (nextJ_at hla hlb fun n' h => ih n' h)

theorem foundJ_ok (w : World) (a b : ByteArray) (hla : a.size ≤ 12) (hlb : b.size ≤ 12) :
    Calls Try.prog 75 [.string a, .string b, (.func (.func 78) #[] #[]), (.func (.func 79) #[] #[])].toArray w fun e w' => e = .returned (.tuple #[.string (jnP a b 0 0), .int .i64 0]) ∧ Below w.heap.size w w' := by
  refine enter (N := 26) Try.func75 rfl rfl rfl ?_
  refine g_seq ?_
  refine g_region ?_
  refine s_y (y_assign rfl) rfl rfl rfl rfl ?_
  refine s_y (y_assign rfl) rfl rfl rfl rfl ?_
  refine s_nil ?_
  refine g_then ?_
  refine g_seq ?_
  refine g_seq ?_
  refine g_region ?_
  refine s_y (y_move rfl) rfl rfl rfl rfl ?_
  refine s_tr (t_call rfl rfl ent_68 (fun w h => by have h_ := isLine_any w a; rwa [decide_eq_true (show (a.size : Int) ≤ 12 by omega)] at h_)) rfl rfl rfl rfl (fun _ _ => ?_)
  refine s_y (y_not_t rfl) rfl rfl rfl rfl ?_
  refine s_y (y_move rfl) rfl rfl rfl rfl ?_
  refine s_y (y_move rfl) rfl rfl rfl rfl ?_
  refine s_tr (t_call rfl rfl ent_68 (fun w h => by have h_ := isLine_any w b; rwa [decide_eq_true (show (b.size : Int) ≤ 12 by omega)] at h_)) rfl rfl rfl rfl (fun _ _ => ?_)
  refine s_y (y_not_t rfl) rfl rfl rfl rfl ?_
  refine s_y (y_pick_f rfl rfl) rfl rfl rfl rfl ?_
  refine s_nil ?_
  refine g_then ?_
  refine g_cond_f rfl ?_
  refine g_skip ?_
  refine g_then ?_
  refine g_seq ?_
  refine g_region ?_
  refine s_y (y_move rfl) rfl rfl rfl rfl ?_
  refine s_y (y_move rfl) rfl rfl rfl rfl ?_
  refine s_tr (t_makeMap) rfl rfl rfl rfl (fun mb hmb => ?_)
  refine s_y (y_move rfl) rfl rfl rfl rfl ?_
  refine s_y (y_move rfl) rfl rfl rfl rfl ?_
  refine s_y (y_build (vs := [(0, _), (1, _), (2, _), (3, _), (4, _)]) rfl rfl (fun w => bld_127_0_1_2_3_4 _ _ _ _ _ _ _ _ _ w)) rfl rfl rfl rfl ?_
  refine s_tr (t_box rfl rfl) rfl rfl rfl rfl (fun bw hbw => ?_)
  refine g_perm' (m' := (mb, .map #[] 0) :: (bw, .cells [.string a, .string b, .map (some mb), (.func (.func 78) #[] #[]), (.func (.func 79) #[] #[])].toArray 127 (0, 0)) :: []) (show ((mb, .map #[] 0) :: (bw, .cells [.string a, .string b, .map (some mb), (.func (.func 78) #[] #[]), (.func (.func 79) #[] #[])].toArray 127 (0, 0)) :: [] : List (Nat × Obj)).Perm ((bw, .cells [.string a, .string b, .map (some mb), (.func (.func 78) #[] #[]), (.func (.func 79) #[] #[])].toArray 127 (0, 0)) :: (mb, .map #[] 0) :: [] : List (Nat × Obj)) from List.Perm.trans (List.Perm.of_eq (by simp only [List.append_assoc, List.cons_append, List.nil_append, List.append_nil])) (List.Perm.trans (List.perm_append_comm_assoc ((mb, .map #[] 0) :: [] : List (Nat × Obj)) ((bw, .cells [.string a, .string b, .map (some mb), (.func (.func 78) #[] #[]), (.func (.func 79) #[] #[])].toArray 127 (0, 0)) :: [] : List (Nat × Obj)) ([] : List (Nat × Obj))) (List.Perm.of_eq (by simp only [List.append_assoc, List.cons_append, List.nil_append, List.append_nil])))) ?_
  refine s_tr (t_callx (ι := Array MapEntry × Nat) (A := fun y => SndW (jnP a b) y.1) (vf := fun _ => .string (jnP a b 0 0)) (wf := fun _ => _) (mf := fun y => (mb, .map y.1 y.2) :: (bw, .cells [.string a, .string b, .map (some mb), (.func (.func 78) #[] #[]), (.func (.func 79) #[] #[])].toArray 127 (0, 0)) :: []) rfl rfl ent_90 (fun w h => by simp only [Array.append_empty, Array.empty_append]; exact (bestJ_all hla hlb (a.size + b.size) _ _ w _ bw mb #[] 0 0 0 (by omega) (by omega) (by omega) (by omega) (by omega) SndW.empty h).mono fun e w' ⟨y, q1, q2, q3⟩ => ⟨y, q1, q2, q3⟩)) rfl rfl rfl rfl (fun y hy => ?_)
  refine s_y (y_assign rfl) rfl rfl rfl rfl ?_
  refine s_y (y_assign rfl) rfl rfl rfl rfl ?_
  refine s_nil ?_
  refine g_then ?_
  refine g_ret ?_
  exact g_end trivial (fun a w ha hq_ => res2 ha rfl rfl rfl  w) (fun w h => ⟨rfl, h.below⟩)

theorem foundJ_no (w : World) (a b : ByteArray) (hno : ¬ (a.size ≤ 12 ∧ b.size ≤ 12)) :
    Calls Try.prog 75 [.string a, .string b, (.func (.func 78) #[] #[]), (.func (.func 79) #[] #[])].toArray w fun e w' => e = .returned (.tuple #[.string (ByteArray.empty), .int .i64 2]) ∧ Below w.heap.size w w' := by
  refine enter (N := 26) Try.func75 rfl rfl rfl ?_
  refine g_seq ?_
  refine g_region ?_
  refine s_y (y_assign rfl) rfl rfl rfl rfl ?_
  refine s_y (y_assign rfl) rfl rfl rfl rfl ?_
  refine s_nil ?_
  refine g_then ?_
  refine g_seq ?_
  refine g_seq ?_
  refine g_region ?_
  refine s_y (y_move rfl) rfl rfl rfl rfl ?_
  refine s_tr (t_call rfl rfl ent_68 (fun w h => isLine_any w a)) rfl rfl rfl rfl (fun _ _ => ?_)
  refine s_y (y_not rfl) rfl rfl rfl rfl ?_
  refine s_y (y_move rfl) rfl rfl rfl rfl ?_
  refine g_bool 13 rfl (fun cq1 => ?_) (fun cq1 => ?_)
  · (try simp at cq1)
    refine s_no rfl rfl rfl ?_
    refine s_no rfl rfl rfl ?_
    refine s_no rfl rfl rfl ?_
    refine s_y (y_pick_t rfl rfl) rfl rfl rfl rfl ?_
    refine s_nil ?_
    refine g_then ?_
    refine g_cond_t rfl ?_
    refine g_seq ?_
    refine g_region ?_
    refine s_y (y_assign rfl) rfl rfl rfl rfl ?_
    refine s_y (y_assign rfl) rfl rfl rfl rfl ?_
    refine s_nil ?_
    refine g_then ?_
    refine g_ret ?_
    refine g_thenr ?_
    exact g_end trivial (fun a w ha hq_ => res2 ha rfl rfl rfl  w) (fun w h => ⟨rfl, h.below⟩)
  · (try simp at cq1)
    refine s_y (y_move rfl) rfl rfl rfl rfl ?_
    refine s_tr (t_call rfl rfl ent_68 (fun w h => isLine_any w b)) rfl rfl rfl rfl (fun _ _ => ?_)
    refine s_y (y_not rfl) rfl rfl rfl rfl ?_
    refine s_y (y_pick_f rfl rfl) rfl rfl rfl rfl ?_
    refine s_nil ?_
    refine g_then ?_
    refine g_cond rfl (fun cq2 => ?_) (fun cq2 => ?_)
    · (try simp at cq2)
      refine g_seq ?_
      refine g_region ?_
      refine s_y (y_assign rfl) rfl rfl rfl rfl ?_
      refine s_y (y_assign rfl) rfl rfl rfl rfl ?_
      refine s_nil ?_
      refine g_then ?_
      refine g_ret ?_
      refine g_thenr ?_
      exact g_end trivial (fun a w ha hq_ => res2 ha rfl rfl rfl  w) (fun w h => ⟨rfl, h.below⟩)
    · (try simp at cq2)
      exact absurd ⟨by omega, by omega⟩ hno

theorem Joined_ok (w : World) (a b : ByteArray) (hla : a.size ≤ 12) (hlb : b.size ≤ 12) :
    Calls Try.prog 42 [.string a, .string b].toArray w fun e w' => e = .returned (.tuple #[.string (jnP a b 0 0), .int .i64 0]) ∧ Below w.heap.size w w' := by
  refine enter (N := 11) Try.func42 rfl rfl rfl ?_
  refine g_seq ?_
  refine g_region ?_
  refine s_y (y_assign rfl) rfl rfl rfl rfl ?_
  refine s_y (y_assign rfl) rfl rfl rfl rfl ?_
  refine s_nil ?_
  refine g_then ?_
  refine g_seq ?_
  refine g_region ?_
  refine s_y (y_move rfl) rfl rfl rfl rfl ?_
  refine s_y (y_move rfl) rfl rfl rfl rfl ?_
  refine s_tr (t_call rfl rfl ent_75 (fun w h => foundJ_ok w a b hla hlb)) rfl rfl rfl rfl (fun _ _ => ?_)
  refine s_y (y_extract rfl rfl) rfl rfl rfl rfl ?_
  refine s_y (y_extract rfl rfl) rfl rfl rfl rfl ?_
  refine s_y (y_assign rfl) rfl rfl rfl rfl ?_
  refine s_y (y_assign rfl) rfl rfl rfl rfl ?_
  refine s_nil ?_
  refine g_then ?_
  refine g_ret ?_
  exact g_end trivial (fun a w ha hq_ => res2 ha rfl rfl rfl  w) (fun w h => ⟨rfl, h.below⟩)

theorem Joined_no (w : World) (a b : ByteArray) (hno : ¬ (a.size ≤ 12 ∧ b.size ≤ 12)) :
    Calls Try.prog 42 [.string a, .string b].toArray w fun e w' => e = .returned (.tuple #[.string (ByteArray.empty), .int .i64 2]) ∧ Below w.heap.size w w' := by
  refine enter (N := 11) Try.func42 rfl rfl rfl ?_
  refine g_seq ?_
  refine g_region ?_
  refine s_y (y_assign rfl) rfl rfl rfl rfl ?_
  refine s_y (y_assign rfl) rfl rfl rfl rfl ?_
  refine s_nil ?_
  refine g_then ?_
  refine g_seq ?_
  refine g_region ?_
  refine s_y (y_move rfl) rfl rfl rfl rfl ?_
  refine s_y (y_move rfl) rfl rfl rfl rfl ?_
  refine s_tr (t_call rfl rfl ent_75 (fun w h => foundJ_no w a b hno)) rfl rfl rfl rfl (fun _ _ => ?_)
  refine s_y (y_extract rfl rfl) rfl rfl rfl rfl ?_
  refine s_y (y_extract rfl rfl) rfl rfl rfl rfl ?_
  refine s_y (y_assign rfl) rfl rfl rfl rfl ?_
  refine s_y (y_assign rfl) rfl rfl rfl rfl ?_
  refine s_nil ?_
  refine g_then ?_
  refine g_ret ?_
  exact g_end trivial (fun a w ha hq_ => res2 ha rfl rfl rfl  w) (fun w h => ⟨rfl, h.below⟩)

end Go.Proofs.Ytnnpdgegejklpaa
