/- Appending to a row of the call's own: which blocks are new; in the words of Sx. -/
import Derived.Test.YtnnpdgegejklpaaSxRec
import Derived.Test.YtnnpdgegejklpaaSxApp
namespace Go.Sx
open Go.RowKit
set_option linter.unusedVariables false
set_option linter.unusedSimpArgs false
section
variable {N : Nat} {ds : List Deferred} {l : List (Nat × Value)} {w0 w1 : World} {m : List (Nat × Obj)} {P : Program} {ro : Option Nat} {ops : Array Oper} {Q : Exit → Act → World → Prop} {rest : List Oper} {C : World → Prop} {X : Act → World → Prop}
variable {dst : Option Tmp} {ty : TypeId} {pos : String} {aft : Array Edge} {gd : Option (Nat × Bool)}
variable {xs ys : List (Int × Int)}
theorem t_appendNO {t e : TypeId} {s x : Operand} {sv : SV} {n k c size bytes : Nat} {xs news : List Value} {ad : Addr} {ie : TypeInfo} {z : Value} (pre post : List (Nat × Obj)) (hs : ev l s = some (sv.val n)) (hx : ev l x = some (.slice (some ad) k c)) (hm : m = pre ++ (sv.mem e xs ++ post)) (hok : sv.ok size n xs)
    (hu : P.underlying t = some (.slice e)) (hie : P.info? e = some ie) (hz : ie.zero = some z) (hsz : ie.size = size) (hby : ie.bytes = bytes) (hzs : z.cells.size = size) (hpos : 0 < size)
    (hnew : ∀ w, Hp w0 w1 m w → ∀ j u, news[j]? = some u → w.cell? (ad.add j) = some u) (hl : news.length = k * size) (h1 : news.all (·.oneCell') = true) (hk : 0 < k) (hn : (n + k) * bytes ≤ 140737488355328) (h63 : n + k ≤ maxLen) :
    Tr (ι := SV × List (Nat × Obj)) P ro N ds l w0 w1 m ⟨dst, .call ⟨.builtin .append, #[s, x], #[t, t]⟩, ty, pos, aft, gd⟩ (fun y => (y.1.ok size (n + k) (xs ++ news) ∧ ∃ b cap j, y.1 = .own b cap j) ∧ (∀ q ∈ (sv.mem e xs).map (·.1), q ∈ (y.1.mem e (xs ++ news) ++ y.2).map (·.1)) ∧ ∀ q ∈ (y.1.mem e (xs ++ news) ++ y.2).map (·.1), q ∈ (sv.mem e xs).map (·.1) ∨ w1.heap.size ≤ q) (fun y => y.1.val (n + k)) (fun _ => w1) (fun y => pre ++ (y.1.mem e (xs ++ news) ++ (y.2 ++ post))) := fun a w ha hw => by
  subst hsz
  subst hby
  have h1' : ∀ u ∈ news, u.oneCell' = true := by simpa using h1
  have hnew' := hnew w hw
  have hsmall : n + k ≤ 9223372036854775807 := by simp only [maxLen] at h63; omega
  have hrun : ∀ v w', (Builtin.append_ #[t, t] ty #[sv.val n, .slice (some ad) k c]).run P w = .ok v w' → (execOp a.eval ⟨dst, .call ⟨.builtin .append, #[s, x], #[t, t]⟩, ty, pos, aft, gd⟩).run P w = .ok (.value v) w' := by
    intro v w' h
    simp only [execOp, resolve, List.map_toArray, List.map_cons, List.map_nil, ha.eval hs, ha.eval hx]
    exact ok_value h
  have grownok : ∀ (old : Nat), xs.length = n * ie.size → (SV.own w.heap.size (grownCap w (n + k) old e) (Builtin.zeroCells z.cells (grownCap w (n + k) old e - (n + k))).toList).ok ie.size (n + k) (xs ++ news) := by
    intro old hxl
    have hge := grownCap_ge w (n + k) old e
    refine ⟨hge, grownCap_le_maxLen w (n + k) old e h63, by rw [List.length_append, hxl, hl, Nat.add_mul], ?_⟩
    simp only [List.length_append, hxl, hl, Array.length_toList, size_zeroCells, hzs, ← Nat.add_mul]
    congr 1
    omega
  cases sv with
  | nil =>
    obtain ⟨rfl, rfl⟩ := hok
    have hr := run_append_nil (P := P) w t ty e ie z hu hie hz ad k c news hl hnew' hk (by omega) (by have := hn; simp only [Nat.zero_add] at this; omega)
    refine .inl ⟨_, (w.drew.alloc (.cells (news.toArray ++ Builtin.zeroCells z.cells (grownCap w k 0 e - k)) e (0, 0))), hrun _ _ hr, (.own w.heap.size (grownCap w k 0 e) (Builtin.zeroCells z.cells (grownCap w k 0 e - k)).toList, []), ⟨⟨?_, ⟨_, _, _, rfl⟩⟩, ⟨by simp [SV.mem], fun q hq => by simp [SV.mem] at hq ⊢; have hsz_ := hw.size; omega⟩⟩, ?_, ?_⟩
    · have := grownok 0 (by simp)
      simpa using this
    · simp [SV.val]
    · have h2 := (hw.drewN.alloc (o := .cells (news.toArray ++ Builtin.zeroCells z.cells (grownCap w k 0 e - k)) e (0, 0)) rfl)
      simp only [SV.mem, List.nil_append] at hm
      subst hm
      simp only [SV.mem, List.nil_append]
      have e1 : (news ++ (Builtin.zeroCells z.cells (grownCap w k 0 e - k)).toList).toArray = news.toArray ++ Builtin.zeroCells z.cells (grownCap w k 0 e - k) := by
        apply Array.toList_inj.1; simp
      rw [e1]
      exact h2.perm (List.perm_middle.symm)
  | own b cap junk =>
    obtain ⟨hnc, hcm, hxl, hcl⟩ := hok
    simp only [SV.mem, List.cons_append, List.nil_append] at hm
    subst hm
    have hi : (pre ++ ((b, Obj.cells (xs ++ junk).toArray e (0, 0)) :: post))[pre.length]? = some (b, .cells (xs ++ junk).toArray e (0, 0)) := by simp
    have hb := hw.at_ _ (List.mem_of_getElem? hi)
    simp only at hb
    by_cases hroom : n + k ≤ cap
    · have hfit : n * ie.size + news.length ≤ ((xs ++ junk).toArray).size := by
        simp only [List.size_toArray, List.length_append, hcl, hl, ← Nat.add_mul]; exact Nat.mul_le_mul_right _ hroom
      have hr := run_append_room (P := P) w t ty e ie hu hie b n cap _ hb ad k c news hl hnew' h1' hroom hfit
      have hcells : (((xs ++ junk).toArray.toList.take (n * ie.size) ++ news ++ (xs ++ junk).toArray.toList.drop (n * ie.size + news.length)).toArray) = ((xs ++ news) ++ junk.drop news.length).toArray := by
        rw [← hxl]
        simp [List.drop_append, List.append_assoc]
      rw [hcells] at hr
      refine .inl ⟨_, (w.setRow b ((xs ++ news) ++ junk.drop news.length).toArray), hrun _ _ hr, (.own b cap (junk.drop news.length), []), ⟨⟨⟨hroom, hcm, by rw [List.length_append, hxl, hl, Nat.add_mul], ?_⟩, ⟨_, _, _, rfl⟩⟩, ⟨by simp [SV.mem], fun q hq => by simp [SV.mem] at hq ⊢; have hsz_ := hw.size; omega⟩⟩, rfl, ?_⟩
      · have : news.length ≤ junk.length := by
          have := hfit; simp only [List.size_toArray, List.length_append] at this; omega
        simp only [List.length_append, List.length_drop]; omega
      · have h3 := hw.turn (o' := .cells ((xs ++ news) ++ junk.drop news.length).toArray e (0, 0)) hi rfl (w' := w.setRow b ((xs ++ news) ++ junk.drop news.length).toArray) rfl rfl rfl (by simp) (fun k' _ hk' => setRow_other w b k' _ hk') (setRow_heap w b _ _ e _ hb)
        simpa [SV.mem] using h3
    · have holds : ∀ j u, xs[j]? = some u → w.cell? ((⟨b, 0, none⟩ : Addr).add j) = some u := by
        intro j u hj
        have hjl := (List.getElem?_eq_some_iff.1 hj).1
        rw [add_at, Nat.zero_add]
        simp [World.cell?, hb, List.getElem?_append_left hjl, hj]
      have hr := run_append_grow (P := P) w t ty e ie z hu hie hz ⟨b, 0, none⟩ n cap xs hxl holds ad k c news hl hnew' (by omega) (by omega) (growslice_fits (by omega) hn)
      refine .inl ⟨_, (w.drew.alloc (.cells (xs.toArray ++ news.toArray ++ Builtin.zeroCells z.cells (grownCap w (n + k) cap e - (n + k))) e (0, 0))), hrun _ _ hr, (.own w.heap.size (grownCap w (n + k) cap e) (Builtin.zeroCells z.cells (grownCap w (n + k) cap e - (n + k))).toList, [(b, .cells (xs ++ junk).toArray e (0, 0))]), ⟨⟨grownok cap hxl, ⟨_, _, _, rfl⟩⟩, ⟨by simp [SV.mem], fun q hq => by simp [SV.mem] at hq ⊢; have hsz_ := hw.size; omega⟩⟩, rfl, ?_⟩
      have h2 := (hw.drewN.alloc (o := .cells (xs.toArray ++ news.toArray ++ Builtin.zeroCells z.cells (grownCap w (n + k) cap e - (n + k))) e (0, 0)) rfl)
      simp only [SV.mem, List.cons_append, List.nil_append]
      have e1 : (xs ++ news ++ (Builtin.zeroCells z.cells (grownCap w (n + k) cap e - (n + k))).toList).toArray = xs.toArray ++ news.toArray ++ Builtin.zeroCells z.cells (grownCap w (n + k) cap e - (n + k)) := by
        apply Array.toList_inj.1; simp
      rw [e1]
      exact h2.perm (List.perm_middle.symm)
theorem t_appendLO {α : Type} {enc : α → Value} {xs : List α} {t e : TypeId} {s x : Operand} {sv : SV} {n c bytes : Nat} {v : α} {ad : Addr} {ie : TypeInfo} {z : Value} (pre post : List (Nat × Obj)) (hs : ev l s = some (sv.val n)) (hx : ev l x = some (.slice (some ad) 1 c)) (hm : m = pre ++ (sv.mem e (xs.map enc) ++ post)) (hok : sv.ok 1 n (xs.map enc))
    (hu : P.underlying t = some (.slice e)) (hie : P.info? e = some ie) (hz : ie.zero = some z) (hsz : ie.size = 1) (hby : ie.bytes = bytes) (hzs : z.cells.size = 1)
    (hnew : ∀ w, Hp w0 w1 m w → w.cell? (ad.add 0) = some (enc v)) (h1 : (enc v).oneCell' = true) (hn : (n + 1) * bytes ≤ 140737488355328) (h63 : n + 1 ≤ maxLen) :
    Tr (ι := SV × List (Nat × Obj)) P ro N ds l w0 w1 m ⟨dst, .call ⟨.builtin .append, #[s, x], #[t, t]⟩, ty, pos, aft, gd⟩ (fun y => (y.1.ok 1 (n + 1) ((xs ++ [v]).map enc) ∧ ∃ b cap j, y.1 = .own b cap j) ∧ (∀ q ∈ (sv.mem e (xs.map enc)).map (·.1), q ∈ (y.1.mem e ((xs ++ [v]).map enc) ++ y.2).map (·.1)) ∧ ∀ q ∈ (y.1.mem e ((xs ++ [v]).map enc) ++ y.2).map (·.1), q ∈ (sv.mem e (xs.map enc)).map (·.1) ∨ w1.heap.size ≤ q) (fun y => y.1.val (n + 1)) (fun _ => w1) (fun y => pre ++ (y.1.mem e ((xs ++ [v]).map enc) ++ (y.2 ++ post))) := by
  have := t_appendNO (P := P) (ro := ro) (N := N) (ds := ds) (l := l) (w0 := w0) (w1 := w1) (m := m) (dst := dst) (ty := ty) (pos := pos) (aft := aft) (gd := gd) (news := [enc v]) pre post hs hx hm hok hu hie hz hsz hby hzs (by decide) (fun w h j u hj => match j, hj with | 0, hj => by cases hj; exact hnew w h | j + 1, hj => by simp at hj) rfl (by simp [h1]) (by decide) hn h63
  simpa only [List.map_append, List.map_cons, List.map_nil] using this
/-- The end of a round, told by the blocks' names. -/
theorem rf_close2 {w0 we W1 W2 W : World} {m1 mf : List (Nat × Obj)} (hq : Hq w0 we m1 W1) (h2 : Hq w0 W1 m1 W2) (h4 : Hp w0 W2 mf W) (s : ∀ x ∈ m1.map (·.1), x ∈ mf.map (·.1)) (o : ∀ x ∈ mf.map (·.1), x ∈ m1.map (·.1) ∨ W2.heap.size ≤ x) :
    Bk W2 W ∧ Hq w0 we mf W ∧ OwnM m1 W1 mf ∧ KpO (fun b => ∃ q ∈ m1, q.1 = b) W1 W ∧ W1.heap.size ≤ W.heap.size := by
  have ho : OwnM m1 W1 mf := fun p hp => by
    rcases o p.1 (List.mem_map.2 ⟨p, hp, rfl⟩) with h | h
    · obtain ⟨q, hq, e⟩ := List.mem_map.1 h; exact .inl ⟨q, hq, e⟩
    · exact .inr (Nat.le_trans h2.size h)
  exact ⟨fun k o h ho => h4.marks k o h ho, hq.round h2 h4 (fun _ h => h) s, ho, kp_round (we := we) h2 h4 (OwnM.ids rfl) ho, Nat.le_trans h2.size h4.size⟩
theorem ids_sv {n b : Nat} {o o' : Obj} {A A' Y gs B : List (Nat × Obj)} (h1 : ∀ q ∈ A.map (·.1), q ∈ (A' ++ Y).map (·.1)) (h2 : ∀ q ∈ (A' ++ Y).map (·.1), q ∈ A.map (·.1) ∨ n ≤ q) :
    (∀ x ∈ ((b, o) :: (A ++ (gs ++ B))).map (·.1), x ∈ ((b, o') :: (A' ++ ((Y ++ gs) ++ B))).map (·.1)) ∧ (∀ x ∈ ((b, o') :: (A' ++ ((Y ++ gs) ++ B))).map (·.1), x ∈ ((b, o) :: (A ++ (gs ++ B))).map (·.1) ∨ n ≤ x) := by
  simp only [List.map_cons, List.map_append, List.mem_cons, List.mem_append] at h1 h2 ⊢
  constructor
  · rintro x (h | h | h | h)
    · exact .inl h
    · rcases h1 x h with h | h
      · exact .inr (.inl h)
      · exact .inr (.inr (.inl (.inl h)))
    · exact .inr (.inr (.inl (.inr h)))
    · exact .inr (.inr (.inr h))
  · rintro x (h | h | (h | h) | h)
    · exact .inl (.inl h)
    · rcases h2 x (.inl h) with h | h
      · exact .inl (.inr (.inl h))
      · exact .inr h
    · rcases h2 x (.inr h) with h | h
      · exact .inl (.inr (.inl h))
      · exact .inr h
    · exact .inl (.inr (.inr (.inl h)))
    · exact .inl (.inr (.inr (.inr h)))
end
end Go.Sx
