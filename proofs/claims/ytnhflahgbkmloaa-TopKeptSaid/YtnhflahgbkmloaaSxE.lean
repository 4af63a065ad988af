/- Slices that the call makes: make, literals, append; in the words of Sx. -/
import Derived.Test.YtnhflahgbkmloaaSxD
import Derived.Laws.AppendOwn
import Derived.Laws.OwnMore
import Derived.Laws.MakeOwn
import Derived.Great.BuildSlice
namespace Go.Sx
open Go.RowKit
set_option linter.unusedVariables false
set_option linter.unusedSimpArgs false

section
variable {N : Nat} {ds : List Deferred} {l : List (Nat × Value)} {w0 w1 : World} {m : List (Nat × Obj)} {P : Program} {ro : Option Nat} {ops : Array Oper} {Q : Exit → Act → World → Prop} {rest : List Oper} {C : World → Prop} {X : Act → World → Prop}
variable {dst : Option Tmp} {ty : TypeId} {pos : String} {aft : Array Edge} {gd : Option (Nat × Bool)}

theorem Hq.perm {w m'} (h : Hq w0 w1 m w) (hp : m.Perm m') : Hq w0 w1 m' w :=
  ⟨h.below, h.size, fun k hk hm hg => h.keep k hk (fun p hp' => hm p (hp.mem_iff.1 hp')) hg, fun p hp' => h.at_ p (hp.mem_iff.2 hp'), fun p hp' => h.ge p (hp.mem_iff.2 hp'), (hp.map _).nodup_iff.1 h.nodup, fun p hp' => h.good p (hp.mem_iff.2 hp')⟩
theorem Hp.perm {w m'} (h : Hp w0 w1 m w) (hp : m.Perm m') : Hp w0 w1 m' w := ⟨h.toHq.perm hp, h.marks⟩
theorem Hp.look' {w} (h : Hp w0 w1 m w) : Hp w0 w m w := h.toHq.look

/-- A slice of the call's own: nil, or its block, its capacity, and what lies behind its length. -/
inductive SV where
  | nil
  | own (b cap : Nat) (junk : List Value)
def SV.val : SV → Nat → Value
  | .nil, _ => .slice none 0 0
  | .own b cap _, n => .slice (some ⟨b, 0, none⟩) n cap
def SV.mem : SV → TypeId → List Value → List (Nat × Obj)
  | .nil, _, _ => []
  | .own b _ junk, e, xs => [(b, .cells (xs ++ junk).toArray e (0, 0))]
def SV.ok (size : Nat) : SV → Nat → List Value → Prop
  | .nil, n, xs => n = 0 ∧ xs = []
  | .own _ cap junk, n, xs => n ≤ cap ∧ cap ≤ maxLen ∧ xs.length = n * size ∧ xs.length + junk.length = cap * size

theorem t_build {t e : TypeId} {len : Nat} {ps : List (Nat × Operand)} {vs : List (Nat × Value)} {cells : List Value} {ie : TypeInfo} {z : Value} (hp : evs l (ps.map (·.2)) = some (vs.map (·.2))) (hi : ps.map (·.1) = vs.map (·.1))
    (hu : P.underlying t = some (.slice e)) (hie : P.info? e = some ie) (hz : ie.zero = some z) (hsmall : Nat.ble (len * ie.size) (2 ^ 24) = true) (hpos : Nat.beq (len * ie.size) 0 = false)
    (h : Instr.fill (fun i => some (i * ie.size, ie.size)) ((Array.range (len * ie.size)).map (z.cells[· % z.cells.size]!)) vs = some cells.toArray) :
    Tr (ι := Nat) P ro N ds l w0 w1 m ⟨dst, .buildSlice t len ps.toArray, ty, pos, aft, gd⟩ (New w0 w1) (fun b => .slice (some ⟨b, 0, none⟩) len len) (fun _ => w1) (fun b => (b, .cells cells.toArray e (0, 0)) :: m) := fun a w ha hw => by
  refine .inl ⟨.slice (some ⟨w.heap.size, 0, none⟩) len len, w.alloc (.cells cells.toArray e (0, 0)), ?_, w.heap.size, ⟨hw.below.size, hw.size⟩, rfl, hw.alloc rfl⟩
  show Sem.run P (do pure (Next.value (← Instr.buildSlice t len (ps.toArray.map fun (i, x) => (i, a.eval x))))) w = _
  refine ok_value ?_
  have e : ps.map (fun (i, x) => (i, a.eval x)) = vs := by
    have h1 := ha.evals hp
    clear hp h
    induction ps generalizing vs with
    | nil => cases vs <;> simp_all
    | cons p ps ih =>
      cases vs with
      | nil => simp at hi
      | cons u vs =>
        simp only [List.map_cons, List.cons.injEq] at hi h1 ⊢
        exact ⟨Prod.ext hi.1 h1.1, ih hi.2 h1.2⟩
  rw [List.map_toArray, e]
  refine run_buildSlice w t _ len vs.toArray cells.toArray ie z hu hie hz (by have := Nat.le_of_ble_eq_true hsmall; omega) ?_ h
  intro h0
  rw [h0] at hpos; cases hpos

theorem made_replicate (z : Value) (n : Nat) : (madeCells #[z] n) = (List.replicate n z).toArray := by
  apply Array.ext
  · simp [madeCells]
  · intro j h1 h2
    simp [madeCells, Nat.mod_one]

theorem t_make {t e : TypeId} {x : Operand} {n : Nat} {kl : IntKind} {ie : TypeInfo} {z : Value} (hx : ev l x = some (.int kl (n : Int))) (hu : P.underlying t = some (.slice e)) (hie : P.info? e = some ie) (hz : ie.zero = some z) (hsz : ie.size = 1) (hzc : z.cells = #[z])
    (hb : ie.bytes * n ≤ 281474976710656) (hn : n ≤ 9223372036854775807) :
    Tr (ι := Nat) P ro N ds l w0 w1 m ⟨dst, .makeSlice t x x, ty, pos, aft, gd⟩ (New w0 w1) (fun b => .slice (some ⟨b, 0, none⟩) n n) (fun _ => w1) (fun b => (b, .cells (List.replicate n z).toArray e (0, 0)) :: m) := fun a w ha hw => by
  obtain ⟨w', hr, hown, hg⟩ := run_make_full (P := P) w w.heap.size t e ie z 1 hu hie hz hsz kl kl n hb (by unfold maxLen; omega) (Nat.le_refl _)
  refine .inl ⟨_, w', ?_, w.heap.size, ⟨hw.below.size, hw.size⟩, rfl, ?_⟩
  · show Sem.run P (do pure (Next.value (← Instr.makeSlice t (a.eval x) (a.eval x)))) w = _
    rw [ha.eval hx]
    exact ok_value hr
  · rcases hown.2 with ⟨h, _⟩ | ⟨g, cap, cur, hv, hbg, hh, h1, h2, h3, h4⟩
    · cases h
    · simp only [Value.slice.injEq, Option.some.injEq, Addr.mk.injEq, and_true] at hv
      obtain ⟨rfl, _, rfl⟩ := hv
      have hc : cur = (List.replicate n z).toArray := by
        have : cur.toList.take (n * 1) = cur.toList := List.take_of_length_le (by simp [h3])
        rw [this, hzc, Nat.mul_one, made_replicate] at h4
        exact Array.toList_inj.1 h4
      subst hc
      have hbl : Below w.heap.size w w' := ⟨hg.os, hg.tape, hg.output, hg.size, fun k hk => hg.block k hk (by simp)⟩
      exact (hw.grow hbl).focus hh hw.below.size (fun p hp e => by have := hw.lt hp; omega) rfl

theorem t_append {t e : TypeId} {s x : Operand} {sv : SV} {n k c size bytes : Nat} {xs news : List Value} {ad : Addr} {ie : TypeInfo} {z : Value} (pre post : List (Nat × Obj)) (hs : ev l s = some (sv.val n)) (hx : ev l x = some (.slice (some ad) k c)) (hm : m = pre ++ (sv.mem e xs ++ post)) (hok : sv.ok size n xs)
    (hu : P.underlying t = some (.slice e)) (hie : P.info? e = some ie) (hz : ie.zero = some z) (hsz : ie.size = size) (hby : ie.bytes = bytes) (hzs : z.cells.size = size) (hpos : 0 < size)
    (hnew : ∀ w, Hp w0 w1 m w → ∀ j u, news[j]? = some u → w.cell? (ad.add j) = some u) (hl : news.length = k * size) (h1 : news.all (·.oneCell') = true) (hk : 0 < k) (hn : (n + k) * bytes ≤ 140737488355328) (h63 : n + k ≤ maxLen) :
    Tr (ι := SV × List (Nat × Obj)) P ro N ds l w0 w1 m ⟨dst, .call ⟨.builtin .append, #[s, x], #[t, t]⟩, ty, pos, aft, gd⟩ (fun y => y.1.ok size (n + k) (xs ++ news) ∧ ∃ b cap j, y.1 = .own b cap j) (fun y => y.1.val (n + k)) (fun _ => w1) (fun y => pre ++ (y.1.mem e (xs ++ news) ++ (y.2 ++ post))) := fun a w ha hw => by
  subst hsz
  subst hby
  have h1' : ∀ u ∈ news, u.oneCell' = true := by simpa using h1
  have hnew' := hnew w hw
  have hsmall : n + k ≤ 9223372036854775807 := by simp only [maxLen] at h63; omega
  have hrun : ∀ v w', (Builtin.append_ #[t, t] ty #[sv.val n, .slice (some ad) k c]).run P w = .ok v w' → (execOp a.eval ⟨dst, .call ⟨.builtin .append, #[s, x], #[t, t]⟩, ty, pos, aft, gd⟩).run P w = .ok (.value v) w' := by
    intro v w' h
    simp only [execOp, resolve, List.map_toArray, List.map_cons, List.map_nil, ha.eval hs, ha.eval hx]
    exact ok_value h
  have grownok : ∀ (old : Nat), xs.length = n * ie.size → (SV.own w.heap.size (grownCap w (n + k) old e) (Builtin.zeroCells z.cells (grownCap w (n + k) old e - (n + k))).toList).ok ie.size (n + k) (xs ++ news) := by
    intro old hxl
    have hge := grownCap_ge w (n + k) old e
    refine ⟨hge, grownCap_le_maxLen w (n + k) old e h63, by rw [List.length_append, hxl, hl, Nat.add_mul], ?_⟩
    simp only [List.length_append, hxl, hl, Array.length_toList, size_zeroCells, hzs, ← Nat.add_mul]
    congr 1
    omega
  cases sv with
  | nil =>
    obtain ⟨rfl, rfl⟩ := hok
    have hr := run_append_nil (P := P) w t ty e ie z hu hie hz ad k c news hl hnew' hk (by omega) (by have := hn; simp only [Nat.zero_add] at this; omega)
    refine .inl ⟨_, (w.drew.alloc (.cells (news.toArray ++ Builtin.zeroCells z.cells (grownCap w k 0 e - k)) e (0, 0))), hrun _ _ hr, (.own w.heap.size (grownCap w k 0 e) (Builtin.zeroCells z.cells (grownCap w k 0 e - k)).toList, []), ⟨?_, ⟨_, _, _, rfl⟩⟩, ?_, ?_⟩
    · have := grownok 0 (by simp)
      simpa using this
    · simp [SV.val]
    · have h2 := (hw.drewN.alloc (o := .cells (news.toArray ++ Builtin.zeroCells z.cells (grownCap w k 0 e - k)) e (0, 0)) rfl)
      simp only [SV.mem, List.nil_append] at hm
      subst hm
      simp only [SV.mem, List.nil_append]
      have e1 : (news ++ (Builtin.zeroCells z.cells (grownCap w k 0 e - k)).toList).toArray = news.toArray ++ Builtin.zeroCells z.cells (grownCap w k 0 e - k) := by
        apply Array.toList_inj.1; simp
      rw [e1]
      exact h2.perm (List.perm_middle.symm)
  | own b cap junk =>
    obtain ⟨hnc, hcm, hxl, hcl⟩ := hok
    simp only [SV.mem, List.cons_append, List.nil_append] at hm
    subst hm
    have hi : (pre ++ ((b, Obj.cells (xs ++ junk).toArray e (0, 0)) :: post))[pre.length]? = some (b, .cells (xs ++ junk).toArray e (0, 0)) := by simp
    have hb := hw.at_ _ (List.mem_of_getElem? hi)
    simp only at hb
    by_cases hroom : n + k ≤ cap
    · have hfit : n * ie.size + news.length ≤ ((xs ++ junk).toArray).size := by
        simp only [List.size_toArray, List.length_append, hcl, hl, ← Nat.add_mul]; exact Nat.mul_le_mul_right _ hroom
      have hr := run_append_room (P := P) w t ty e ie hu hie b n cap _ hb ad k c news hl hnew' h1' hroom hfit
      have hcells : (((xs ++ junk).toArray.toList.take (n * ie.size) ++ news ++ (xs ++ junk).toArray.toList.drop (n * ie.size + news.length)).toArray) = ((xs ++ news) ++ junk.drop news.length).toArray := by
        rw [← hxl]
        simp [List.drop_append, List.append_assoc]
      rw [hcells] at hr
      refine .inl ⟨_, (w.setRow b ((xs ++ news) ++ junk.drop news.length).toArray), hrun _ _ hr, (.own b cap (junk.drop news.length), []), ⟨⟨hroom, hcm, by rw [List.length_append, hxl, hl, Nat.add_mul], ?_⟩, ⟨_, _, _, rfl⟩⟩, rfl, ?_⟩
      · have : news.length ≤ junk.length := by
          have := hfit; simp only [List.size_toArray, List.length_append] at this; omega
        simp only [List.length_append, List.length_drop]; omega
      · have h3 := hw.turn (o' := .cells ((xs ++ news) ++ junk.drop news.length).toArray e (0, 0)) hi rfl (w' := w.setRow b ((xs ++ news) ++ junk.drop news.length).toArray) rfl rfl rfl (by simp) (fun k' _ hk' => setRow_other w b k' _ hk') (setRow_heap w b _ _ e _ hb)
        simpa [SV.mem] using h3
    · have holds : ∀ j u, xs[j]? = some u → w.cell? ((⟨b, 0, none⟩ : Addr).add j) = some u := by
        intro j u hj
        have hjl := (List.getElem?_eq_some_iff.1 hj).1
        rw [add_at, Nat.zero_add]
        simp [World.cell?, hb, List.getElem?_append_left hjl, hj]
      have hr := run_append_grow (P := P) w t ty e ie z hu hie hz ⟨b, 0, none⟩ n cap xs hxl holds ad k c news hl hnew' (by omega) (by omega) (growslice_fits (by omega) hn)
      refine .inl ⟨_, (w.drew.alloc (.cells (xs.toArray ++ news.toArray ++ Builtin.zeroCells z.cells (grownCap w (n + k) cap e - (n + k))) e (0, 0))), hrun _ _ hr, (.own w.heap.size (grownCap w (n + k) cap e) (Builtin.zeroCells z.cells (grownCap w (n + k) cap e - (n + k))).toList, [(b, .cells (xs ++ junk).toArray e (0, 0))]), ⟨grownok cap hxl, ⟨_, _, _, rfl⟩⟩, rfl, ?_⟩
      have h2 := (hw.drewN.alloc (o := .cells (xs.toArray ++ news.toArray ++ Builtin.zeroCells z.cells (grownCap w (n + k) cap e - (n + k))) e (0, 0)) rfl)
      simp only [SV.mem, List.cons_append, List.nil_append]
      have e1 : (xs ++ news ++ (Builtin.zeroCells z.cells (grownCap w (n + k) cap e - (n + k))).toList).toArray = xs.toArray ++ news.toArray ++ Builtin.zeroCells z.cells (grownCap w (n + k) cap e - (n + k)) := by
        apply Array.toList_inj.1; simp
      rw [e1]
      exact h2.perm (List.perm_middle.symm)
/-- What a callee has made of its own is the caller's. -/
theorem Hp.callee {w w' mm} (h : Hp w0 w1 m w) (h' : Hq w w mm w') : Hp w0 w1 (mm ++ m) w' := by
  have hg := h.grow h'.below
  have hfresh : ∀ p ∈ mm, ∀ p' ∈ m, p'.1 ≠ p.1 := fun p hp p' hp' e => by
    have h1 := h'.ge p hp
    have h2 := h.lt hp'
    omega
  refine ⟨⟨hg.below, hg.size, fun k hk hm hgd => hg.keep k hk (fun p hp => hm p (List.mem_append_right _ hp)) hgd, ?_, ?_, ?_, ?_⟩, hg.marks⟩
  · intro p hp
    rcases List.mem_append.1 hp with hp | hp
    · exact h'.at_ p hp
    · exact hg.at_ p hp
  · intro p hp
    rcases List.mem_append.1 hp with hp | hp
    · exact Nat.le_trans h.below.size (h'.ge p hp)
    · exact hg.ge p hp
  · rw [List.map_append]
    refine List.nodup_append.2 ⟨h'.nodup, hg.nodup, ?_⟩
    intro x hx y hy e
    obtain ⟨p, hp, rfl⟩ := List.mem_map.1 hx
    obtain ⟨p', hp', rfl⟩ := List.mem_map.1 hy
    exact hfresh p hp p' hp' e.symm
  · intro p hp
    rcases List.mem_append.1 hp with hp | hp
    · exact h'.good p hp
    · exact hg.good p hp
/-- A call whose results, and what it has made, are told by an x. -/
theorem t_callm {ι : Type} {A : ι → Prop} {vf : ι → Value} {mm : ι → List (Nat × Obj)} {fn fid xs ts vs} (hf : ev l fn = some (.func (.func fid) #[] #[])) (hx : evs l xs = some vs) (he : Enters P fid)
    (hc : ∀ w, Hp w0 w1 m w → Calls P fid vs.toArray w fun e w' => ∃ x, A x ∧ e = .returned (vf x) ∧ Hq w w (mm x) w') :
    Tr (ι := ι) P ro N ds l w0 w1 m ⟨dst, .call ⟨.value fn, xs.toArray, ts⟩, ty, pos, aft, gd⟩ A vf (fun _ => w1) (fun x => mm x ++ m) :=
  t_callx hf hx he fun w hw => by
    simp only [Array.append_empty, Array.empty_append]
    exact (hc w hw).mono fun e w' ⟨x, h1, h2, h3⟩ => ⟨x, h1, h2, hw.callee h3⟩

/-- A call of yield within an iterator: behind it the world is looked at anew. -/
theorem stp_yield {fn lp xs ts vs} {a : Act} {w : World} {R : Value → World → Prop} (ha : Has N ds l a) (hf : ev l fn = some (.func (.yield lp) #[] #[])) (hx : evs l xs = some vs)
    (hc : YieldAt (Wd none) 0 P lp vs.toArray w fun e w' => ∃ v, e = .returned v ∧ R v w') : Stp P none ⟨dst, .call ⟨.value fn, xs.toArray, ts⟩, ty, pos, aft, gd⟩ a w R := by
  obtain ⟨f, tmps, assign, body, hy, hR⟩ := hc
  refine .inr (.inr (.inr ⟨lp, f, tmps, assign, body, w, ?_, hR⟩))
  simp only [execOp, resolve, List.map_toArray, ha.evals hx, ha.eval hf, Deferred.ofValue]
  show Sem.run P (do let d ← pure ({ target := .fn (.yield lp) #[], args := #[] ++ vs.toArray } : Deferred); invoke d.target d.args) w = _
  simp only [Sem.run_bind, Array.empty_append]
  exact hy
theorem s_yield {d fn lp xs ts vs} {A B : World → Prop} (hf : ev l fn = some (.func (.yield lp) #[] #[])) (hx : evs l xs = some vs) (hg : wants ops l gd = some true) (hdN : Nat.blt d N = true)
    (hc : ∀ w, Hp w0 w1 m w → YieldAt (Wd none) 0 P lp vs.toArray w fun e w' => (e = .returned (.bool true) ∧ A w') ∨ (e = .returned (.bool false) ∧ B w'))
    (kt : ∀ w, A w → G N ds ((d, .bool true) :: l) w w [] (wpListIn (Wd none) 0 P ops Q rest)) (kf : ∀ w, B w → G N ds ((d, .bool false) :: l) w w [] (wpListIn (Wd none) 0 P ops Q rest)) :
    G N ds l w0 w1 m (wpListIn (Wd none) 0 P ops Q (⟨some d, .call ⟨.value fn, xs.toArray, ts⟩, ty, pos, aft, gd⟩ :: rest)) :=
  s_do hg rfl fun a w ha hw => by
    have hdN' : d < N := by simpa [Nat.blt_eq] using hdN
    refine stp_yield ha hf hx ?_
    obtain ⟨f, tmps, assign, body, hy, hR⟩ := hc w hw
    refine ⟨f, tmps, assign, body, hy, hR.mono ?_⟩
    rintro e w' (⟨rfl, h⟩ | ⟨rfl, h⟩)
    · exact ⟨_, rfl, kt w' h _ _ (ha.put hdN' _) (Hp.refl w')⟩
    · exact ⟨_, rfl, kf w' h _ _ (ha.put hdN' _) (Hp.refl w')⟩
theorem j_yield {i f : Nat} {L : Array Bool} {d fn lp xs ts vs} {A B : World → Prop} (hi : ops[i]? = some ⟨some d, .call ⟨.value fn, xs.toArray, ts⟩, ty, pos, aft, gd⟩) (hf : ev l fn = some (.func (.yield lp) #[] #[])) (hx : evs l xs = some vs)
    (hr : Region.ready .any ops L = [i]) (hg : wants ops l gd = some true) (hdN : Nat.blt d N = true) (hJ : (L.setIfInBounds i true).getD i false = true)
    (hc : ∀ w, Hp w0 w1 m w → YieldAt (Wd none) 0 P lp vs.toArray w fun e w' => (e = .returned (.bool true) ∧ A w') ∨ (e = .returned (.bool false) ∧ B w'))
    (kt : ∀ w, A w → GJ N ds ((d, .bool true) :: l) w w [] P none ops Q i C f (L.setIfInBounds i true)) (kf : ∀ w, B w → GJ N ds ((d, .bool false) :: l) w w [] P none ops Q i C f (L.setIfInBounds i true)) :
    GJ N ds l w0 w1 m P none ops Q i C (f + 1) L :=
  j_do hi hr hg rfl fun a w ha hw => by
    have hdN' : d < N := by simpa [Nat.blt_eq] using hdN
    refine stp_yield ha hf hx ?_
    obtain ⟨f, tmps, assign, body, hy, hR⟩ := hc w hw
    refine ⟨f, tmps, assign, body, hy, hR.mono ?_⟩
    rintro e w' (⟨rfl, h⟩ | ⟨rfl, h⟩)
    · exact ⟨_, rfl, (fun h' => by rw [hJ] at h'; cases h'), kt w' h _ _ (ha.put hdN' _) (Hp.refl w')⟩
    · exact ⟨_, rfl, (fun h' => by rw [hJ] at h'; cases h'), kf w' h _ _ (ha.put hdN' _) (Hp.refl w')⟩
end
end Go.Sx
