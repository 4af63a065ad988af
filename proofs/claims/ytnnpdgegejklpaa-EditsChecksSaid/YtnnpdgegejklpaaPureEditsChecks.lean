import Derived.Test.YtnnpdgegejklpaaPEditsChecksx5
import Derived.Test.YtnnpdgegejklpaaEdLaw
namespace Go.Proofs.Ytnnpdgegejklpaa.Pure
open Go.RowKit Go.Proofs.Ytnnpdgegejklpaa.PEditsChecks Go.Proofs.YtnnpdgegejklpaaW.PrintWords Go.Proofs.YtnnpdgegejklpaaW.PrintLast
set_option linter.unusedVariables false
set_option linter.unusedSimpArgs false

/-- An edit that may stand at a place. -/
def goodE (n at_ : Nat) (x y : Int) : Prop := 0 ≤ x ∧ x ≤ 3 ∧ 0 ≤ y ∧ y ≤ 255 ∧ (x = 0 ∨ x = 2 → y = 0) ∧ (x < 3 → at_ < n)
instance (n at_ : Nat) (x y : Int) : Decidable (goodE n at_ x y) := by unfold goodE; infer_instance
/-- What a script makes of a line: in plain Lean. -/
def doneP (a : ByteArray) (pi po ps : Int) : List (Int × Int) → Nat → List Int → Int → Option (List Int × Int × Nat)
  | [], at_, out, c => some (out, c, at_)
  | (x, y) :: s, at_, out, c =>
    if goodE a.size at_ x y then
      if x = 0 then doneP a pi po ps s (at_ + 1) (out ++ [bt a at_]) c
      else if x = 1 then (if bt a at_ = y then none else doneP a pi po ps s (at_ + 1) (out ++ [y % 256]) (wrap64 (c + ps)))
      else if x = 2 then doneP a pi po ps s (at_ + 1) out (wrap64 (c + po))
      else doneP a pi po ps s at_ (out ++ [y % 256]) (wrap64 (c + pi))
    else none
def doneR (a : ByteArray) : Option (List Int × Int × Nat) → ByteArray × Int × Bool
  | none => (⟨#[]⟩, 0, false)
  | some (o, c, t) => (strOfNums o, c, (t : Int) == (a.size : Int))
def applyR (a : ByteArray) : Option (List Int × Int × Nat) → ByteArray × Bool
  | none => (⟨#[]⟩, false)
  | some (o, _, t) => (strOfNums o, decide (t = a.size))
def pr104 (e : S104) : Int × Int := (e.f0, e.f1)
def pr88 (e : S88) : Int × Int := (e.f0, e.f1)

theorem drop_cons {α : Type} {L s : List α} {e : α} {n : Nat} (h : L.drop n = e :: s) : n < L.length ∧ L[n]? = some e ∧ L.drop (n + 1) = s := by
  have hl : n < L.length := by
    rcases Nat.lt_or_ge n L.length with h' | h'
    · exact h'
    · rw [List.drop_eq_nil_of_le h'] at h; cases h
  rw [List.drop_eq_getElem_cons hl] at h
  injection h with h1 h2
  exact ⟨hl, by rw [List.getElem?_eq_getElem hl, h1], h2⟩
theorem bt_range' (s : ByteArray) (i : Int) : 0 ≤ bt s i ∧ bt s i ≤ 255 := by
  unfold bt
  split
  · rename_i h
    have := (s[i.toNat]'h).toNat_lt
    omega
  · omega
theorem Done_l0 (a : ByteArray) (pi po ps : Int) (L : List S104) (hL : L.length ≤ 40) (ha : a.size ≤ 140737488351232) : ∀ (s : List S104) (n at_ : Nat) (out : List Int) (c : Int) (k : Nat), L.drop n = s → at_ ≤ a.size → out.length ≤ n → 2 * s.length + 2 ≤ k →
    sackbutref09_Done.l0 k a out c at_ L (L.length : Int) n pi po ps = some (doneR a (doneP a pi po ps (s.map pr104) at_ out c)) := by
  intro s
  induction s with
  | nil =>
    intro n at_ out c k hd hat hout hk
    obtain ⟨k, rfl⟩ : ∃ k', k = k' + 1 := ⟨k - 1, by omega⟩
    have hn : L.length ≤ n := by simpa using hd
    unfold sackbutref09_Done.l0
    rw [if_neg (by omega)]
    rfl
  | cons e s ih =>
    intro n at_ out c k hd hat hout hk
    obtain ⟨hl, he, hd'⟩ := drop_cons hd
    simp only [List.length_cons] at hk
    obtain ⟨k, rfl⟩ : ∃ k', k = k' + 2 := ⟨k - 2, by omega⟩
    have ih' := fun at_ out c h1 h2 => ih (n + 1) at_ out c k hd' h1 h2 (by omega)
    have hrd : rd_T104 L (n : Int) = e := by unfold rd_T104; rw [Int.toNat_natCast, List.getD_eq_getElem?_getD, he]; rfl
    have hw : wrap64 ((n : Int) + 1) = ((n + 1 : Nat) : Int) := by unfold wrap64; omega
    have hwa : at_ < a.size → wrap64 ((at_ : Int) + 1) = ((at_ + 1 : Nat) : Int) := fun h => by unfold wrap64; omega
    obtain ⟨x, y⟩ := e
    have hb := bt_range' a at_
    have hwb : wrap64 (bt a at_) = bt a at_ := by unfold wrap64; omega
    -- the test ahead
    have hj : sackbutref09_Done.l0 (k + 2) a out c at_ L (L.length : Int) n pi po ps = sackbutref09_Done.j1 (k + 1) a out c at_ L (L.length : Int) n (!decide (goodE a.size at_ x y)) pi po ps x y := by
      rw [sackbutref09_Done.l0]
      rw [if_pos (by omega), if_pos (by omega), if_pos (by omega), hrd]
      have ht : ∀ z : Int, 0 ≤ z → z ≤ 3 → (Int.tmod z 2 = 0 ↔ z = 0 ∨ z = 2) := by
        intro z h0 h3
        have : z = 0 ∨ z = 1 ∨ z = 2 ∨ z = 3 := by omega
        rcases this with rfl | rfl | rfl | rfl <;> decide
      dsimp only
      by_cases h1 : x < 0
      · rw [if_pos h1, decide_eq_false (by unfold goodE; omega)]; rfl
      · by_cases h2 : x > 3
        · rw [if_neg h1, if_pos h2, decide_eq_false (by unfold goodE; omega)]; rfl
        · by_cases h3 : y < 0
          · rw [if_neg h1, if_neg h2, if_pos h3, decide_eq_false (by unfold goodE; omega)]; rfl
          · by_cases h4 : y > 255
            · rw [if_neg h1, if_neg h2, if_neg h3, if_pos h4, decide_eq_false (by unfold goodE; omega)]; rfl
            · have hx := ht x (by omega) (by omega)
              rw [if_neg h1, if_neg h2, if_neg h3, if_neg h4]
              by_cases h5 : Int.tmod x 2 = 0
              · have h5' := hx.1 h5
                rw [if_pos h5]
                by_cases h6 : y = 0
                · rw [if_pos h6, if_pos (by omega)]
                  congr 1
                  by_cases h7 : at_ < a.size
                  · rw [decide_eq_false (by omega), decide_eq_true (by unfold goodE; omega)]; rfl
                  · rw [decide_eq_true (by omega), decide_eq_false (by unfold goodE; omega)]; rfl
                · rw [if_neg h6, decide_eq_false (by unfold goodE; omega)]; rfl
              · have h5' : ¬ (x = 0 ∨ x = 2) := fun h => h5 (hx.2 h)
                rw [if_neg h5]
                by_cases h6 : x < 3
                · rw [if_pos h6]
                  congr 1
                  by_cases h7 : at_ < a.size
                  · rw [decide_eq_false (by omega), decide_eq_true (by unfold goodE; omega)]; rfl
                  · rw [decide_eq_true (by omega), decide_eq_false (by unfold goodE; omega)]; rfl
                · rw [if_neg h6, decide_eq_true (by unfold goodE; omega)]; rfl
    rw [hj, sackbutref09_Done.j1]
    show _ = some (doneR a (doneP a pi po ps ((x, y) :: s.map pr104) at_ out c))
    rw [doneP]
    by_cases hg : goodE a.size at_ x y
    · rw [decide_eq_true hg, if_pos hg]
      simp only [Bool.not_true, Bool.false_eq_true, if_false]
      have hg' := hg
      unfold goodE at hg'
      have hol : out.length < 140737488355328 := by omega
      by_cases x0 : x = 0
      · have hlt : at_ < a.size := by omega
        rw [if_pos x0, if_pos x0, if_pos (by omega), if_pos (by omega), if_pos hol]
        simp only [Option.bind_some]
        rw [if_pos (by omega), hwa hlt, hw]
        exact ih' (at_ + 1) _ _ (by omega) (by simp; omega)
      · rw [if_neg x0, if_neg x0]
        by_cases x1 : x = 1
        · have hlt : at_ < a.size := by omega
          rw [if_pos x1, if_pos x1, if_pos (by omega), if_pos (by omega), hwb]
          by_cases hby : bt a at_ = y
          · rw [if_pos hby, if_pos hby]; rfl
          · rw [if_neg hby, if_neg hby, if_pos hol]
            simp only [Option.bind_some]
            rw [if_pos (by omega), hwa hlt, hw]
            exact ih' (at_ + 1) _ _ (by omega) (by simp; omega)
        · rw [if_neg x1, if_neg x1]
          by_cases x2 : x = 2
          · have hlt : at_ < a.size := by omega
            rw [if_pos x2, if_pos x2, if_pos (by omega), hwa hlt, hw]
            exact ih' (at_ + 1) _ _ (by omega) (by omega)
          · have x3 : x = 3 := by omega
            rw [if_neg x2, if_neg x2, if_pos x3, if_pos hol]
            simp only [Option.bind_some]
            rw [if_neg (by omega), hw]
            exact ih' at_ _ _ (by omega) (by simp; omega)
    · rw [decide_eq_false hg, if_neg hg]; rfl
/-- What is left of a line. -/
def sufx (a : ByteArray) (n : Nat) : ByteArray := a.extract n a.size
theorem sufx_size (a : ByteArray) (n : Nat) : (sufx a n).size = a.size - n := by unfold sufx; simp
theorem sufx_bt {a : ByteArray} {n : Nat} (h : n < a.size) : bt (sufx a n) 0 = bt a n := by
  have h2 : (0 : Int).toNat < (sufx a n).size := by rw [sufx_size]; simp; omega
  unfold bt
  rw [dif_pos h2, dif_pos (by simpa using h)]
  unfold sufx
  simp [ByteArray.getElem_extract]
theorem sufx_next (a : ByteArray) (n : Nat) : (sufx a n).extract 1 (sufx a n).size = sufx a (n + 1) := by
  rw [sufx_size]
  unfold sufx
  rw [ByteArray.extract_extract]
  congr 1 <;> omega
theorem sufx_nil {a : ByteArray} {n : Nat} (h : n ≤ a.size) : ((sufx a n).toList == ([] : List UInt8)) = decide (n = a.size) := by
  rw [Bool.eq_iff_iff, beq_iff_eq, decide_eq_true_iff, ByteArray.toList_eq]
  have hs := sufx_size a n
  have hl : (sufx a n).data.toList.length = a.size - n := by rw [← hs]; simp
  constructor
  · intro h'; rw [h'] at hl; simp at hl; omega
  · intro h'; exact List.length_eq_zero_iff.1 (by omega)
theorem apply_l0 (a : ByteArray) (pi po ps : Int) (L : List S88) (hL : L.length ≤ 40) (ha : a.size ≤ 140737488351232) : ∀ (s : List S88) (n at_ : Nat) (out : List Int) (c : Int) (k : Nat), L.drop n = s → at_ ≤ a.size → out.length ≤ n → 6 * s.length + 2 ≤ k →
    edits_apply.l0 k (sufx a at_) out L (L.length : Int) n = some (applyR a (doneP a pi po ps (s.map pr88) at_ out c)) := by
  intro s
  induction s with
  | nil =>
    intro n at_ out c k hd hat hout hk
    obtain ⟨k, rfl⟩ : ∃ k', k = k' + 1 := ⟨k - 1, by omega⟩
    have hn : L.length ≤ n := by simpa using hd
    unfold edits_apply.l0
    rw [if_neg (by omega), sufx_nil hat]
    rfl
  | cons e s ih =>
    intro n at_ out c k hd hat hout hk
    obtain ⟨hl, he, hd'⟩ := drop_cons hd
    simp only [List.length_cons] at hk
    obtain ⟨k, rfl⟩ : ∃ k', k = k' + 6 := ⟨k - 6, by omega⟩
    have ih' := fun at_ out c k' h1 h2 h3 => ih (n + 1) at_ out c k' hd' h1 h2 h3
    have hrd : rd_T88 L (n : Int) = e := by unfold rd_T88; rw [Int.toNat_natCast, List.getD_eq_getElem?_getD, he]; rfl
    have hw : wrap64 ((n : Int) + 1) = ((n + 1 : Nat) : Int) := by unfold wrap64; omega
    obtain ⟨x, y⟩ := e
    have hb := bt_range' a at_
    have hwb : wrap64 (bt a at_) = bt a at_ := by unfold wrap64; omega
    have hsz := sufx_size a at_
    have hol : out.length < 140737488355328 := by omega
    show _ = some (applyR a (doneP a pi po ps ((x, y) :: s.map pr88) at_ out c))
    -- what is taken
    have hj : edits_apply.l0 (k + 6) (sufx a at_) out L (L.length : Int) n = edits_apply.j1 (k + 5) (sufx a at_) out (decide (x = 0 ∨ x = 1 ∨ x = 2)) L (L.length : Int) n x y := by
      rw [edits_apply.l0, if_pos (by omega), if_pos (by omega), if_pos (by omega), hrd]
      dsimp only
      by_cases x0 : x = 0
      · rw [if_pos x0, decide_eq_true (by omega)]
      · by_cases x1 : x = 1
        · rw [if_neg x0, if_pos x1, decide_eq_true (by omega)]
        · rw [if_neg x0, if_neg x1]
          congr 1
          by_cases x2 : x = 2
          · rw [decide_eq_true (by omega)]; simp [x2]
          · rw [decide_eq_false (by omega)]; simp [x2]
    have hj1 : edits_apply.j1 (k + 5) (sufx a at_) out (decide (x = 0 ∨ x = 1 ∨ x = 2)) L (L.length : Int) n x y = edits_apply.j2 (k + 4) (sufx a at_) out (decide (x = 0 ∨ x = 1 ∨ x = 2)) L (L.length : Int) n (!decide (0 ≤ x ∧ x ≤ 3 ∧ 0 ≤ y ∧ y ≤ 255 ∧ (x < 3 → at_ < a.size))) x y := by
      rw [edits_apply.j1]
      by_cases h1 : x < 0
      · rw [if_pos h1, decide_eq_false (p := 0 ≤ x ∧ _) (by omega)]; rfl
      · by_cases h2 : x > 3
        · rw [if_neg h1, if_pos h2, decide_eq_false (p := 0 ≤ x ∧ _) (by omega)]; rfl
        · by_cases h3 : y < 0
          · rw [if_neg h1, if_neg h2, if_pos h3, decide_eq_false (p := 0 ≤ x ∧ _) (by omega)]; rfl
          · by_cases h4 : y > 255
            · rw [if_neg h1, if_neg h2, if_neg h3, if_pos h4, decide_eq_false (p := 0 ≤ x ∧ _) (by omega)]; rfl
            · rw [if_neg h1, if_neg h2, if_neg h3, if_neg h4]
              by_cases h5 : x = 0 ∨ x = 1 ∨ x = 2
              · rw [if_pos (decide_eq_true h5), sufx_nil hat]
                congr 1
                by_cases h7 : at_ < a.size
                · rw [decide_eq_false (p := at_ = a.size) (by omega), decide_eq_true (p := 0 ≤ x ∧ _) (by omega)]; rfl
                · rw [decide_eq_true (p := at_ = a.size) (by omega), decide_eq_false (p := 0 ≤ x ∧ _) (by omega)]; rfl
              · rw [if_neg (by simpa using h5), decide_eq_true (p := 0 ≤ x ∧ _) (by omega)]; rfl
    rw [hj, hj1, edits_apply.j2, doneP]
    by_cases hv : 0 ≤ x ∧ x ≤ 3 ∧ 0 ≤ y ∧ y ≤ 255 ∧ (x < 3 → at_ < a.size)
    · rw [decide_eq_true hv]
      simp only [Bool.not_true, Bool.false_eq_true, if_false]
      have hj3 : ∀ q : Bool, edits_apply.j3 (k + 3) (sufx a at_) out (decide (x = 0 ∨ x = 1 ∨ x = 2)) L (L.length : Int) n q x y = if q = true then some ((⟨#[]⟩ : ByteArray), false) else if x = 1 ∧ bt a at_ = y then some ((⟨#[]⟩ : ByteArray), false) else edits_apply.j4 (k + 2) (sufx a at_) out (decide (x = 0 ∨ x = 1 ∨ x = 2)) L (L.length : Int) n x y := by
        intro q
        rw [edits_apply.j3]
        cases q with
        | true => rfl
        | false =>
          simp only [Bool.false_eq_true, if_false]
          by_cases x1 : x = 1
          · rw [if_pos x1, if_pos (by omega), sufx_bt (by omega), hwb]
            by_cases hby : bt a at_ = y
            · rw [if_pos hby, if_pos ⟨x1, hby⟩]
            · rw [if_neg hby, if_neg (fun h => hby h.2)]
          · rw [if_neg x1, if_neg (fun h => x1 h.1)]
      have hq : (if x = 0 then edits_apply.j3 (k + 3) (sufx a at_) out (decide (x = 0 ∨ x = 1 ∨ x = 2)) L (L.length : Int) n (y != 0) x y else if x = 2 then edits_apply.j3 (k + 3) (sufx a at_) out (decide (x = 0 ∨ x = 1 ∨ x = 2)) L (L.length : Int) n (y != 0) x y else edits_apply.j3 (k + 3) (sufx a at_) out (decide (x = 0 ∨ x = 1 ∨ x = 2)) L (L.length : Int) n false x y) =
          edits_apply.j3 (k + 3) (sufx a at_) out (decide (x = 0 ∨ x = 1 ∨ x = 2)) L (L.length : Int) n (decide ((x = 0 ∨ x = 2) ∧ y ≠ 0)) x y := by
        have hy : (y != 0) = decide (y ≠ 0) := by by_cases h : y = 0 <;> simp [h]
        by_cases x0 : x = 0
        · rw [if_pos x0, hy]; congr 1; simp [x0]
        · by_cases x2 : x = 2
          · rw [if_neg x0, if_pos x2, hy]; congr 1; simp [x2]
          · rw [if_neg x0, if_neg x2]; congr 1; simp [x0, x2]
      rw [hq, hj3]
      by_cases hy : (x = 0 ∨ x = 2) ∧ y ≠ 0
      · rw [if_pos (decide_eq_true hy), if_neg (by unfold goodE; omega)]; rfl
      · have hg : goodE a.size at_ x y := by unfold goodE; omega
        rw [if_neg (by simpa using hy), if_pos hg, edits_apply.j4]
        by_cases x0 : x = 0
        · have hlt : at_ < a.size := by omega
          rw [if_neg (by omega), if_pos x0, if_pos x0, if_pos (by omega), if_pos hol, sufx_bt hlt]
          simp only [Option.bind_some]
          rw [if_pos (decide_eq_true (by omega)), if_pos (by omega), sufx_next, hw]
          exact ih' (at_ + 1) _ _ _ (by omega) (by simp; omega) (by omega)
        · rw [if_neg (c := x = 0) x0, if_neg (c := x = 0) x0]
          by_cases x1 : x = 1
          · have hlt : at_ < a.size := by omega
            by_cases hby : bt a at_ = y
            · rw [if_pos ⟨x1, hby⟩, if_pos x1, if_pos hby]; rfl
            · rw [if_neg (fun h => hby h.2), if_pos x1, if_pos x1, if_neg hby, edits_apply.j5, show (x == 1) = true from by simp [x1], if_pos rfl, if_pos hol]
              simp only [Option.bind_some]
              rw [if_pos (decide_eq_true (by omega)), if_pos (by omega), sufx_next, hw]
              exact ih' (at_ + 1) _ _ _ (by omega) (by simp; omega) (by omega)
          · rw [if_neg (fun h => x1 h.1), if_neg x1, if_neg x1, edits_apply.j5]
            by_cases x2 : x = 2
            · have hlt : at_ < a.size := by omega
              rw [if_pos x2, show (x == 3) = false from by simp [x2], if_neg (by simp), if_pos (decide_eq_true (by omega)), if_pos (by omega), sufx_next, hw]
              exact ih' (at_ + 1) _ _ _ (by omega) (by omega) (by omega)
            · have x3 : x = 3 := by omega
              rw [if_neg x2, show (x == 3) = true from by simp [x3], if_pos rfl, if_pos hol]
              simp only [Option.bind_some]
              rw [if_neg (by simp; omega), hw]
              exact ih' at_ _ _ _ (by omega) (by simp; omega) (by omega)
    · rw [decide_eq_false hv, show (!false) = true from rfl, if_pos rfl, if_neg (by unfold goodE; omega)]; rfl
theorem sum_l0 (a : ByteArray) {pi po ps : Int} (hp : okP pi po ps) (L : List S88) (hL : L.length ≤ 40) : ∀ (s : List S88) (n at_ : Nat) (out : List Int) (c : Int) (k : Nat) (o : List Int) (c' : Int) (t : Nat), L.drop n = s → doneP a pi po ps (s.map pr88) at_ out c = some (o, c', t) → 0 ≤ c → c ≤ 9 * n → s.length + 1 ≤ k →
    edits_Check.l0 k c L (L.length : Int) n pi po ps = some (c', true, 0) := by
  intro s
  induction s with
  | nil =>
    intro n at_ out c k o c' t hd h h0 h9 hk
    obtain ⟨k, rfl⟩ : ∃ k', k = k' + 1 := ⟨k - 1, by omega⟩
    have hn : L.length ≤ n := by simpa using hd
    rw [edits_Check.l0, if_neg (by omega)]
    simp only [List.map_nil, doneP, Option.some.injEq, Prod.mk.injEq] at h
    rw [h.2.1]
  | cons e s ih =>
    intro n at_ out c k o c' t hd h h0 h9 hk
    obtain ⟨hl, he, hd'⟩ := drop_cons hd
    simp only [List.length_cons] at hk
    obtain ⟨k, rfl⟩ : ∃ k', k = k' + 1 := ⟨k - 1, by omega⟩
    have hrd : rd_T88 L (n : Int) = e := by unfold rd_T88; rw [Int.toNat_natCast, List.getD_eq_getElem?_getD, he]; rfl
    have hw : wrap64 ((n : Int) + 1) = ((n + 1 : Nat) : Int) := by unfold wrap64; omega
    obtain ⟨x, y⟩ := e
    obtain ⟨h1, h2, h3⟩ := hp
    have hws : ∀ z : Int, 0 ≤ z → z ≤ 9 → wrap64 (c + z) = c + z := fun z _ _ => by unfold wrap64; omega
    have h' : doneP a pi po ps ((x, y) :: s.map pr88) at_ out c = some (o, c', t) := h
    rw [doneP] at h'
    rw [edits_Check.l0, if_pos (by omega), if_pos (by omega), if_pos (by omega), hrd]
    unfold edits_Prices_of.f
    dsimp only
    by_cases hg : goodE a.size at_ x y
    · rw [if_pos hg] at h'
      have hg' := hg
      unfold goodE at hg'
      rw [if_pos (by omega)]
      simp only [Option.bind_some]
      rw [hw]
      unfold priceOf
      by_cases x0 : x = 0
      · rw [if_pos x0] at h' ⊢
        rw [Int.add_zero, show wrap64 c = c from by unfold wrap64; omega]
        exact ih (n + 1) _ _ c k o c' t hd' h' h0 (by omega) (by omega)
      · rw [if_neg x0] at h' ⊢
        by_cases x1 : x = 1
        · rw [if_pos x1] at h' ⊢
          split at h'
          · cases h'
          · rw [hws ps (by omega) (by omega)] at h' ⊢
            exact ih (n + 1) _ _ _ k o c' t hd' h' (by omega) (by omega) (by omega)
        · rw [if_neg x1] at h' ⊢
          by_cases x2 : x = 2
          · rw [if_pos x2] at h' ⊢
            rw [hws po (by omega) (by omega)] at h' ⊢
            exact ih (n + 1) _ _ _ k o c' t hd' h' (by omega) (by omega) (by omega)
          · rw [if_neg x2] at h' ⊢
            rw [hws pi (by omega) (by omega)] at h' ⊢
            exact ih (n + 1) _ _ _ k o c' t hd' h' (by omega) (by omega) (by omega)
    · rw [if_neg hg] at h'; cases h'
def to88 (e : S104) : S88 := ⟨e.f0, e.f1⟩
theorem script_l0 (L : List S104) (hL : L.length ≤ 40) : ∀ (s : List S104) (n : Nat) (acc : List S88) (k : Nat), L.drop n = s → acc.length ≤ n → s.length + 1 ≤ k →
    sackbutlaw09_script.l0 k acc L (L.length : Int) n = some (acc ++ s.map to88) := by
  intro s
  induction s with
  | nil =>
    intro n acc k hd hacc hk
    obtain ⟨k, rfl⟩ : ∃ k', k = k' + 1 := ⟨k - 1, by omega⟩
    have hn : L.length ≤ n := by simpa using hd
    rw [sackbutlaw09_script.l0, if_neg (by omega)]
    simp
  | cons e s ih =>
    intro n acc k hd hacc hk
    obtain ⟨hl, he, hd'⟩ := drop_cons hd
    simp only [List.length_cons] at hk
    obtain ⟨k, rfl⟩ : ∃ k', k = k' + 1 := ⟨k - 1, by omega⟩
    have hrd : rd_T104 L (n : Int) = e := by unfold rd_T104; rw [Int.toNat_natCast, List.getD_eq_getElem?_getD, he]; rfl
    have hw : wrap64 ((n : Int) + 1) = ((n + 1 : Nat) : Int) := by unfold wrap64; omega
    rw [sackbutlaw09_script.l0, if_pos (by omega), if_pos (by omega), if_pos (by omega), if_pos (by omega), if_pos (by omega), hrd, hw, ih (n + 1) _ k hd' (by simp; omega) (by omega)]
    simp [to88]
def chkP (a0 a1 : ByteArray) : Option (List Int × Int × Nat) → Int × Bool × Int
  | none => (0, false, 0)
  | some (o, c, t) => if t = a0.size ∧ strOfNums o = a1 then (c, true, 0) else (0, false, 0)
def appP (a0 : ByteArray) : Option (List Int × Int × Nat) → ByteArray × Int
  | none => (⟨#[]⟩, 4)
  | some (o, _, t) => if t = a0.size then (strOfNums o, 0) else (⟨#[]⟩, 4)
set_option maxHeartbeats 2000000 in
/-- Check returns the cost of a script from one line to another one, and Apply what it makes of one, or the documented error: for every input. -/
theorem EditsChecks : sackbutlaw09_EditsChecks.Pure := by
  intro a0 a1 p q r l h0 h1 hp hq hr hm hlw
  have haw : sackbutlaw09_awake.f = some true := by
    unfold sackbutlaw09_awake.f edits_Cost.f
    rw [costR_awake]; rfl
  have hv : ∀ p q r, sackbutref09_Valid.f p q r = some (decide (okP p q r)) := by
    intro p q r
    unfold sackbutref09_Valid.f okP
    repeat' split
    all_goals (congr 1; symm; first | (apply decide_eq_decide.2; omega) | (apply decide_eq_false; omega))
  have hf : sackbutlaw09_fine.f a0 a1 p q r = some (decide (a0.size ≤ 12 ∧ a1.size ≤ 12 ∧ okP p q r)) := by
    unfold sackbutlaw09_fine.f sackbutref09_Line.f
    rw [hv]
    have e : ∀ n : Nat, ((n : Int) ≤ 12) = (n ≤ 12) := fun n => propext (by omega)
    by_cases c0 : a0.size ≤ 12 <;> by_cases c1 : a1.size ≤ 12 <;> simp [e, c0, c1]
  have ht : ∀ a : ByteArray, ∃ t : ByteArray, sackbutlaw09_text.f a = some t ∧ (t.size ≤ 12 ↔ a.size ≤ 12) ∧ (a.size ≤ 12 → t = a) := by
    intro a
    have hm : (mn (a.size : Int) 16) = min (a.size : Int) 16 := by unfold mn; split <;> omega
    refine ⟨a.extract 0 ((mn (a.size : Int) 16) : Int).toNat, ?_, ?_⟩
    · unfold sackbutlaw09_text.f
      rw [if_pos (by omega), if_pos (by omega)]
    · rw [hm]
      have hs : (a.extract 0 (min (a.size : Int) 16).toNat).size = min (min (a.size : Int) 16).toNat a.size := by simp
      refine ⟨by rw [hs]; omega, fun ha => ?_⟩
      have : (min (a.size : Int) 16).toNat = a.size := by omega
      rw [this]
      exact ByteArray.extract_zero_size
  obtain ⟨t0, e0, k0, l0⟩ := ht a0
  obtain ⟨t1, e1, k1, l1⟩ := ht a1
  by_cases hlen : l.length > 40
  · refine ⟨0, ?_⟩
    unfold sackbutlaw09_EditsChecks.f
    rw [if_pos (by omega), haw]; rfl
  have hL : l.length ≤ 40 := by omega
  refine ⟨400, ?_⟩
  obtain ⟨T, hT⟩ : ∃ T, T = l.map to88 := ⟨_, rfl⟩
  have hTl : T.length = l.length := by rw [hT]; simp
  have hTp : T.map pr88 = l.map pr104 := by rw [hT, List.map_map]; rfl
  have hs : sackbutlaw09_script.f 400 l = some T := by
    have := script_l0 l hL l 0 [] 400 rfl (Nat.le_refl _) (by omega)
    rw [hT]
    unfold sackbutlaw09_script.f
    simpa using this
  obtain ⟨R, hR⟩ : ∃ R, R = doneP a0 p q r (l.map pr104) 0 [] 0 := ⟨_, rfl⟩
  have hD : sackbutref09_Done.f 400 a0 p q r l = some (doneR a0 R) := by
    rw [hR]; exact Done_l0 a0 p q r l hL (by omega) l 0 0 [] 0 400 rfl (Nat.zero_le _) (Nat.le_refl _) (by omega)
  have hsx : sufx a0 0 = a0 := ByteArray.extract_zero_size
  have hA : a0.size ≤ 12 → ∀ k, 300 ≤ k → edits_apply.f k t0 T = some (applyR a0 R) := by
    intro c k hk
    have := apply_l0 a0 p q r T (by omega) (by omega) T 0 0 [] 0 k rfl (Nat.zero_le _) (Nat.le_refl _) (by omega)
    rw [hsx, hTp, ← hR] at this
    rw [l0 c]
    exact this
  have hline : ∀ a : ByteArray, edits_isLine.f a = some (decide (a.size ≤ 12)) := by
    intro a
    unfold edits_isLine.f
    congr 1
    exact decide_eq_decide.2 (by omega)
  have hval : ∀ p q r, edits_Prices_valid.f p q r = some (decide (okP p q r)) := by
    intro p q r
    unfold edits_Prices_valid.f mn mx okP
    repeat' split
    all_goals (congr 1; symm; first | (apply decide_eq_decide.2; omega) | (apply decide_eq_false; omega))
  have hC : edits_Check.f 400 t0 t1 p q r T = some ((if a0.size ≤ 12 ∧ a1.size ≤ 12 ∧ okP p q r then chkP a0 a1 R else (0, false, 2)) : Int × Bool × Int) := by
    unfold edits_Check.f
    rw [hline, hline, hval]
    by_cases c0 : a0.size ≤ 12
    · by_cases c1 : a1.size ≤ 12
      · by_cases c2 : okP p q r
        · rw [if_pos ⟨c0, c1, c2⟩, decide_eq_true (k0.2 c0), decide_eq_true (k1.2 c1), decide_eq_true c2]
          simp only [Option.bind_some, if_true, Bool.not_true]
          rw [edits_Check.j0, if_neg (by simp), hA c0 399 (by omega)]
          simp only [Option.bind_some]
          have hRT : doneP a0 p q r (T.map pr88) 0 [] 0 = R := by rw [hTp, hR]
          cases R with
          | none => rw [show applyR a0 none = ((⟨#[]⟩ : ByteArray), false) from rfl, if_neg (by simp), edits_Check.j1, if_pos rfl]; rfl
          | some z =>
            obtain ⟨o, c, t⟩ := z
            rw [show applyR a0 (some (o, c, t)) = (strOfNums o, decide (t = a0.size)) from rfl, show chkP a0 a1 (some (o, c, t)) = if t = a0.size ∧ strOfNums o = a1 then (c, true, 0) else (0, false, 0) from rfl]
            by_cases ht : t = a0.size
            · rw [if_pos (decide_eq_true ht), edits_Check.j1, l1 c1]
              have hne : (( (strOfNums o).toList != a1.toList) = true) ↔ ¬ strOfNums o = a1 := by
                have := toList_eq (a := strOfNums o) (b := a1)
                rw [bne, this]; simp
              by_cases ho : strOfNums o = a1
              · rw [if_neg (by rw [hne]; exact fun h => h ho), if_pos ⟨ht, ho⟩]
                exact sum_l0 a0 c2 T (by omega) T 0 0 [] 0 398 o c t rfl hRT (Int.le_refl 0) (by omega) (by omega)
              · rw [if_pos (by rw [hne]; exact ho), if_neg (fun h => ho h.2)]
            · rw [if_neg (by simpa using ht), edits_Check.j1, if_pos rfl, if_neg (fun h => ht h.1)]
        · rw [if_neg (fun h => c2 h.2.2), decide_eq_true (k0.2 c0), decide_eq_true (k1.2 c1), decide_eq_false c2]
          simp [edits_Check.j0]
      · rw [if_neg (fun h => c1 h.2.1), decide_eq_true (k0.2 c0), decide_eq_false (fun h => c1 (k1.1 h))]
        simp [edits_Check.j0]
    · rw [if_neg (fun h => c0 h.1), decide_eq_false (fun h => c0 (k0.1 h))]
      simp [edits_Check.j0]
  have hP : edits_Apply.f 400 t0 T = some ((if a0.size ≤ 12 ∧ l.length ≤ 24 then appP a0 R else (⟨#[]⟩, 2)) : ByteArray × Int) := by
    unfold edits_Apply.f
    rw [hline]
    by_cases c0 : a0.size ≤ 12
    · rw [decide_eq_true (k0.2 c0)]
      simp only [Option.bind_some, if_true]
      by_cases c1 : l.length ≤ 24
      · rw [if_pos ⟨c0, c1⟩, decide_eq_false (by omega), edits_Apply.j0, if_neg (by simp), hA c0 399 (by omega)]
        simp only [Option.bind_some]
        cases R with
        | none => rfl
        | some z =>
          obtain ⟨o, c, t⟩ := z
          rw [show applyR a0 (some (o, c, t)) = (strOfNums o, decide (t = a0.size)) from rfl, show appP a0 (some (o, c, t)) = if t = a0.size then (strOfNums o, 0) else (⟨#[]⟩, 4) from rfl]
          by_cases ht : t = a0.size
          · rw [if_pos (decide_eq_true ht), if_pos ht]
          · rw [if_neg (by simpa using ht), if_neg ht]
      · rw [if_neg (fun h => c1 h.2), decide_eq_true (by omega), edits_Apply.j0, if_pos rfl]
    · rw [if_neg (fun h => c0 h.1), decide_eq_false (fun h => c0 (k0.1 h))]
      simp [edits_Apply.j0]
  unfold sackbutlaw09_EditsChecks.f
  rw [if_neg (by omega), e0, e1, hs, hf, hD]
  unfold sackbutlaw09_Of.f
  simp only [Option.bind_some]
  rw [hC, hP]
  simp only [Option.bind_some]
  have h9 : ((⟨#[]⟩ : ByteArray).toList) = [] := by rw [ByteArray.toList_eq]
  have hh : ∀ (A B : Prop) [Decidable A] [Decidable B], (if A then (if B then some true else some false) else some false) = some (decide (A ∧ B)) := by
    intro A B _ _
    by_cases hA : A <;> by_cases hB : B <;> simp [hA, hB]
  have ti : ∀ a b : ByteArray, (a.toList = b.toList) = (a = b) := by
    intro a b
    have := toList_eq (a := a) (b := b)
    rw [Bool.eq_iff_iff, beq_iff_eq, decide_eq_true_iff] at this
    exact propext this
  have hj1 : ∀ (x12 : ByteArray) (x13 : Int) (x14 : ByteArray) (x16 d : Bool), sackbutlaw09_EditsChecks.j1 399 x12 x13 x14 x16 d =
      if d = true then some (decide (x12.toList = ([] : List UInt8) ∧ x13 = 2)) else if x16 = true then some (decide (x12.toList = x14.toList ∧ x13 = 0)) else some (decide (x12.toList = ([] : List UInt8) ∧ x13 = 4)) := by
    intro x12 x13 x14 x16 d
    rw [sackbutlaw09_EditsChecks.j1, haw]
    simp only [Option.bind_some]
    rw [hh, hh, hh]
  have hj : ∀ (x12 : ByteArray) (x13 : Int) (x14 : ByteArray) (x16 : Bool), sackbutlaw09_EditsChecks.j0 400 a0 l x12 x13 x14 x16 =
      if a0.size ≤ 12 ∧ l.length ≤ 24 then (if x16 = true then some (decide (x12.toList = x14.toList ∧ x13 = 0)) else some (decide (x12.toList = ([] : List UInt8) ∧ x13 = 4))) else some (decide (x12.toList = ([] : List UInt8) ∧ x13 = 2)) := by
    intro x12 x13 x14 x16
    rw [sackbutlaw09_EditsChecks.j0]
    unfold sackbutref09_Line.f
    simp only [Option.bind_some]
    by_cases c0 : a0.size ≤ 12
    · rw [if_pos (decide_eq_true (by omega)), hj1]
      by_cases c3 : l.length ≤ 24
      · rw [if_pos (⟨c0, c3⟩ : a0.size ≤ 12 ∧ l.length ≤ 24), decide_eq_false (by omega), if_neg (by simp)]
      · rw [if_neg (fun h => c3 h.2 : ¬ (a0.size ≤ 12 ∧ l.length ≤ 24)), decide_eq_true (by omega), if_pos rfl]
    · rw [if_neg (by simp; omega), hj1, if_neg (fun h => c0 h.1 : ¬ (a0.size ≤ 12 ∧ l.length ≤ 24)), if_pos rfl]
  have c40 : a0.size ≤ 12 ∧ l.length ≤ 24 ∨ ¬ (a0.size ≤ 12 ∧ l.length ≤ 24) := Classical.em _
  by_cases c : a0.size ≤ 12 ∧ a1.size ≤ 12 ∧ okP p q r
  · rw [decide_eq_true c]
    simp only [if_true, if_pos c]
    cases R with
    | none =>
      rcases c40 with c4 | c4
      · rw [show doneR a0 none = ((⟨#[]⟩ : ByteArray), (0 : Int), false) from rfl]; simp only [chkP, appP, if_pos c4, hj]; simp [h9]
      · rw [show doneR a0 none = ((⟨#[]⟩ : ByteArray), (0 : Int), false) from rfl]; simp only [chkP, appP, if_neg c4, hj]; simp [h9]
    | some z =>
      obtain ⟨o, c', t⟩ := z
      rw [show doneR a0 (some (o, c', t)) = (strOfNums o, c', ((t : Int) == (a0.size : Int))) from rfl]
      by_cases ht : t = a0.size
      · by_cases ho : strOfNums o = a1
        · rcases c40 with c4 | c4
          · simp only [chkP, appP, if_pos c4, hj]; simp [h9, ht, ho]
          · simp only [chkP, appP, if_neg c4, hj]; simp [h9, ht, ho]
        · have hto : ¬ (strOfNums o).toList = a1.toList := fun h => ho ((ti _ _).mp h)
          rcases c40 with c4 | c4
          · simp only [chkP, appP, if_pos c4, hj]; simp [h9, ht, ho, hto]
          · simp only [chkP, appP, if_neg c4, hj]; simp [h9, ht, ho, hto]
      · have ht' : ¬ (t : Int) = (a0.size : Int) := by omega
        rcases c40 with c4 | c4
        · simp only [chkP, appP, if_pos c4, hj]; simp [h9, ht, ht']
        · simp only [chkP, appP, if_neg c4, hj]; simp [h9, ht, ht']
  · rw [decide_eq_false c]
    simp only [Bool.false_eq_true, if_false, if_neg c]
    cases R with
    | none =>
      rcases c40 with c4 | c4
      · rw [show doneR a0 none = ((⟨#[]⟩ : ByteArray), (0 : Int), false) from rfl]; simp only [chkP, appP, if_pos c4, hj]; simp [h9]
      · rw [show doneR a0 none = ((⟨#[]⟩ : ByteArray), (0 : Int), false) from rfl]; simp only [chkP, appP, if_neg c4, hj]; simp [h9]
    | some z =>
      obtain ⟨o, c', t⟩ := z
      rw [show doneR a0 (some (o, c', t)) = (strOfNums o, c', ((t : Int) == (a0.size : Int))) from rfl]
      by_cases ht : t = a0.size
      · rcases c40 with c4 | c4
        · simp only [chkP, appP, if_pos c4, hj]; simp [h9, ht]
        · simp only [chkP, appP, if_neg c4, hj]; simp [h9, ht]
      · have ht' : ¬ (t : Int) = (a0.size : Int) := by omega
        rcases c40 with c4 | c4
        · simp only [chkP, appP, if_pos c4, hj]; simp [h9, ht, ht']
        · simp only [chkP, appP, if_neg c4, hj]; simp [h9, ht, ht']
end Go.Proofs.Ytnnpdgegejklpaa.Pure
