/- The first longest common string and the first shortest joined one. Plain Lean. -/
import Derived.Test.YtnnpdgegejklpaaSxMapG
import Derived.Lib.Bytealg
import Derived.Laws.Strings
namespace Go.Proofs.Ytnnpdgegejklpaa
open Go.RowKit Go.Sx Go.WideMaps
set_option linter.unusedVariables false
set_option linter.unusedSimpArgs false
set_option linter.unusedSectionVars false
/-- One byte of a string. -/
def cutB (a : ByteArray) (i : Int) : ByteArray := a.extract (i : Int).toNat (i + 1 : Int).toNat
theorem cutB_size {a : ByteArray} {i : Int} (h0 : 0 ≤ i) (h1 : i < a.size) : (cutB a i).size = 1 := by unfold cutB; simp; omega
def betC (x out : ByteArray) : Bool := decide (out.size < x.size) || (decide (x.size = out.size) && Op.bytesLess x.toList out.toList)
def betJ (x out : ByteArray) : Bool := decide (x.size < out.size) || (decide (x.size = out.size) && Op.bytesLess x.toList out.toList)
def orI (x y : Int) : Int := if x = 0 then y else x
theorem cmp_less : ∀ x y : List UInt8, decide (Lib.compareBytes x y < 0) = Op.bytesLess x y
  | [], [] => rfl
  | [], _ :: _ => rfl
  | _ :: _, [] => rfl
  | a :: x, b :: y => by
    have ih := cmp_less x y
    unfold Lib.compareBytes Op.bytesLess
    by_cases h1 : a < b
    · rw [if_pos h1]; simp [h1]
    · rw [if_neg h1]
      by_cases h2 : b < a
      · rw [if_pos h2]
        have : (a == b) = false := by
          rw [beq_eq_false_iff_ne]; intro e; subst e; exact h1 h2
        simp [h1, this]
      · rw [if_neg h2]
        have : a = b := UInt8.le_antisymm (UInt8.not_lt.1 h2) (UInt8.not_lt.1 h1)
        subst this
        rw [ih]; simp [h1]
theorem or_C (x out : ByteArray) : decide (orI ((out.size : Int) - (x.size : Int)) (Lib.compareBytes x.data.toList out.data.toList) < 0) = betC x out := by
  unfold orI betC
  have h := cmp_less x.data.toList out.data.toList
  rw [ByteArray.toList_eq, ByteArray.toList_eq, ← h]
  by_cases c : (out.size : Int) - (x.size : Int) = 0
  · rw [if_pos c, decide_eq_false (show ¬ out.size < x.size by omega), decide_eq_true (show x.size = out.size by omega)]; simp
  · rw [if_neg c, decide_eq_false (show ¬ x.size = out.size by omega)]
    simp only [Bool.false_and, Bool.or_false]
    exact decide_eq_decide.2 (by omega)
theorem or_J (x out : ByteArray) : decide (orI ((x.size : Int) - (out.size : Int)) (Lib.compareBytes x.data.toList out.data.toList) < 0) = betJ x out := by
  unfold orI betJ
  have h := cmp_less x.data.toList out.data.toList
  rw [ByteArray.toList_eq, ByteArray.toList_eq, ← h]
  by_cases c : (x.size : Int) - (out.size : Int) = 0
  · rw [if_pos c, decide_eq_false (show ¬ x.size < out.size by omega), decide_eq_true (show x.size = out.size by omega)]; simp
  · rw [if_neg c, decide_eq_false (show ¬ x.size = out.size by omega)]
    simp only [Bool.false_and, Bool.or_false]
    exact decide_eq_decide.2 (by omega)
def pickC (out x : ByteArray) : ByteArray := if betC x out then x else out
def pickJ (out x : ByteArray) : ByteArray := if betJ x out then x else out
theorem pickC_size (s x : ByteArray) : (pickC s x).size = if x.size > s.size then x.size else s.size := by
  unfold pickC betC
  by_cases c : s.size < x.size
  · simp [c]
  · by_cases c2 : x.size = s.size
    · simp [c2]; split <;> first | exact c2 | rfl
    · simp [c, c2]
theorem pickJ_size (s x : ByteArray) : (pickJ s x).size = if x.size < s.size then x.size else s.size := by
  unfold pickJ betJ
  by_cases c : x.size < s.size
  · simp [c]
  · by_cases c2 : x.size = s.size
    · simp [c2]; split <;> first | exact c2 | rfl
    · simp [c, c2]
/-- .. of what is behind a place, from di and dj before the ends. -/
def cmD (a b : ByteArray) : Nat → Nat → ByteArray
  | 0, _ => ByteArray.empty
  | _ + 1, 0 => ByteArray.empty
  | di + 1, dj + 1 => if bt a ((a.size : Int) - ((di + 1 : Nat) : Int)) = bt b ((b.size : Int) - ((dj + 1 : Nat) : Int)) then pickC (pickC (cmD a b di (dj + 1)) (cmD a b (di + 1) dj)) (cutB a ((a.size : Int) - ((di + 1 : Nat) : Int)) ++ cmD a b di dj) else pickC (cmD a b di (dj + 1)) (cmD a b (di + 1) dj)
termination_by di dj => di + dj
def jnD (a b : ByteArray) : Nat → Nat → ByteArray
  | 0, dj => b.extract ((b.size : Int) - (dj : Int)).toNat b.size
  | di + 1, 0 => a.extract ((a.size : Int) - ((di + 1 : Nat) : Int)).toNat a.size
  | di + 1, dj + 1 => if bt a ((a.size : Int) - ((di + 1 : Nat) : Int)) = bt b ((b.size : Int) - ((dj + 1 : Nat) : Int)) then cutB a ((a.size : Int) - ((di + 1 : Nat) : Int)) ++ jnD a b di dj else pickJ (cutB a ((a.size : Int) - ((di + 1 : Nat) : Int)) ++ jnD a b di (dj + 1)) (cutB b ((b.size : Int) - ((dj + 1 : Nat) : Int)) ++ jnD a b (di + 1) dj)
termination_by di dj => di + dj
def cmP (a b : ByteArray) (i j : Int) : ByteArray := cmD a b ((a.size : Int) - i).toNat ((b.size : Int) - j).toNat
def jnP (a b : ByteArray) (i j : Int) : ByteArray := jnD a b ((a.size : Int) - i).toNat ((b.size : Int) - j).toNat
section
variable {a b : ByteArray} {i j : Int} (h0 : 0 ≤ i) (h1 : i < a.size) (h2 : 0 ≤ j) (h3 : j < b.size)
theorem cmP_ends (h : i = a.size ∨ j = b.size) : cmP a b i j = ByteArray.empty := by
  unfold cmP
  rcases h with h | h
  · rw [show ((a.size : Int) - i).toNat = 0 by omega, cmD]
  · rw [show ((b.size : Int) - j).toNat = 0 by omega]
    cases ((a.size : Int) - i).toNat with
    | zero => rw [cmD]
    | succ n => rw [cmD]
include h0 h1 h2 h3
theorem cmP_rec : cmP a b i j = if bt a i = bt b j then pickC (pickC (cmP a b (i + 1) j) (cmP a b i (j + 1))) (cutB a i ++ cmP a b (i + 1) (j + 1)) else pickC (cmP a b (i + 1) j) (cmP a b i (j + 1)) := by
  obtain ⟨di, hdi⟩ : ∃ di : Nat, ((a.size : Int) - i).toNat = di + 1 := ⟨((a.size : Int) - i).toNat - 1, by omega⟩
  obtain ⟨dj, hdj⟩ : ∃ dj : Nat, ((b.size : Int) - j).toNat = dj + 1 := ⟨((b.size : Int) - j).toNat - 1, by omega⟩
  have e1 : cmP a b (i + 1) j = cmD a b di (dj + 1) := by unfold cmP; rw [hdj, show ((a.size : Int) - (i + 1)).toNat = di by omega]
  have e2 : cmP a b i (j + 1) = cmD a b (di + 1) dj := by unfold cmP; rw [hdi, show ((b.size : Int) - (j + 1)).toNat = dj by omega]
  have e3 : cmP a b (i + 1) (j + 1) = cmD a b di dj := by unfold cmP; rw [show ((a.size : Int) - (i + 1)).toNat = di by omega, show ((b.size : Int) - (j + 1)).toNat = dj by omega]
  rw [e1, e2, e3]
  unfold cmP
  rw [hdi, hdj, cmD, show (a.size : Int) - ((di + 1 : Nat) : Int) = i by omega, show (b.size : Int) - ((dj + 1 : Nat) : Int) = j by omega]
theorem jnP_rec : jnP a b i j = if bt a i = bt b j then cutB a i ++ jnP a b (i + 1) (j + 1) else pickJ (cutB a i ++ jnP a b (i + 1) j) (cutB b j ++ jnP a b i (j + 1)) := by
  obtain ⟨di, hdi⟩ : ∃ di : Nat, ((a.size : Int) - i).toNat = di + 1 := ⟨((a.size : Int) - i).toNat - 1, by omega⟩
  obtain ⟨dj, hdj⟩ : ∃ dj : Nat, ((b.size : Int) - j).toNat = dj + 1 := ⟨((b.size : Int) - j).toNat - 1, by omega⟩
  have e1 : jnP a b (i + 1) j = jnD a b di (dj + 1) := by unfold jnP; rw [hdj, show ((a.size : Int) - (i + 1)).toNat = di by omega]
  have e2 : jnP a b i (j + 1) = jnD a b (di + 1) dj := by unfold jnP; rw [hdi, show ((b.size : Int) - (j + 1)).toNat = dj by omega]
  have e3 : jnP a b (i + 1) (j + 1) = jnD a b di dj := by unfold jnP; rw [show ((a.size : Int) - (i + 1)).toNat = di by omega, show ((b.size : Int) - (j + 1)).toNat = dj by omega]
  rw [e1, e2, e3]
  unfold jnP
  rw [hdi, hdj, jnD, show (a.size : Int) - ((di + 1 : Nat) : Int) = i by omega, show (b.size : Int) - ((dj + 1 : Nat) : Int) = j by omega]
end
theorem jnP_endA {a b : ByteArray} {j : Int} (h2 : 0 ≤ j) (h3 : j ≤ b.size) : jnP a b (a.size : Int) j = b.extract (j : Int).toNat b.size := by
  unfold jnP
  rw [show ((a.size : Int) - (a.size : Int)).toNat = 0 by omega, jnD, show (b.size : Int) - ((((b.size : Int) - j).toNat : Nat) : Int) = j by omega]
theorem jnP_endB {a b : ByteArray} {i : Int} (h0 : 0 ≤ i) (h1 : i < a.size) : jnP a b i (b.size : Int) = a.extract (i : Int).toNat a.size := by
  unfold jnP
  obtain ⟨di, hdi⟩ : ∃ di : Nat, ((a.size : Int) - i).toNat = di + 1 := ⟨((a.size : Int) - i).toNat - 1, by omega⟩
  rw [hdi, show ((b.size : Int) - (b.size : Int)).toNat = 0 by omega, jnD, show (a.size : Int) - ((di + 1 : Nat) : Int) = i by omega]
/-! ### sizes -/
theorem app_size (x y : ByteArray) : (x ++ y).size = x.size + y.size := by simp
theorem cmP_size {a b : ByteArray} : ∀ (n : Nat) (i j : Int), 0 ≤ i → i ≤ a.size → 0 ≤ j → j ≤ b.size → (a.size : Int) - i + ((b.size : Int) - j) ≤ n → ((cmP a b i j).size : Int) ≤ (a.size : Int) - i
  | n, i, j, h0, h1, h2, h3, hn => by
    by_cases he : i = a.size ∨ j = b.size
    · rw [cmP_ends he]; show (0 : Int) ≤ _; omega
    · cases n with
      | zero => omega
      | succ n =>
        have q1 := cmP_size (a := a) (b := b) n (i + 1) j (by omega) (by omega) (by omega) (by omega) (by omega)
        have q2 := cmP_size (a := a) (b := b) n i (j + 1) (by omega) (by omega) (by omega) (by omega) (by omega)
        have q3 := cmP_size (a := a) (b := b) n (i + 1) (j + 1) (by omega) (by omega) (by omega) (by omega) (by omega)
        have q4 := cutB_size (a := a) (i := i) h0 (by omega)
        rw [cmP_rec h0 (by omega) h2 (by omega)]
        split
        · rw [pickC_size, pickC_size, app_size]; (repeat' split) <;> omega
        · rw [pickC_size]; (repeat' split) <;> omega
theorem jnP_size {a b : ByteArray} : ∀ (n : Nat) (i j : Int), 0 ≤ i → i ≤ a.size → 0 ≤ j → j ≤ b.size → (a.size : Int) - i + ((b.size : Int) - j) ≤ n → ((jnP a b i j).size : Int) ≤ (a.size : Int) - i + ((b.size : Int) - j)
  | n, i, j, h0, h1, h2, h3, hn => by
    by_cases ha : i = a.size
    · rw [ha, jnP_endA h2 h3]; simp; omega
    · by_cases hb : j = b.size
      · rw [hb, jnP_endB h0 (by omega)]; simp; omega
      · cases n with
        | zero => omega
        | succ n =>
          have q1 := jnP_size (a := a) (b := b) n (i + 1) j (by omega) (by omega) (by omega) (by omega) (by omega)
          have q2 := jnP_size (a := a) (b := b) n i (j + 1) (by omega) (by omega) (by omega) (by omega) (by omega)
          have q3 := jnP_size (a := a) (b := b) n (i + 1) (j + 1) (by omega) (by omega) (by omega) (by omega) (by omega)
          have q4 := cutB_size (a := a) (i := i) h0 (by omega)
          have q5 := cutB_size (a := b) (i := j) h2 (by omega)
          rw [jnP_rec h0 (by omega) h2 (by omega)]
          split
          · rw [app_size]; omega
          · rw [pickJ_size, app_size, app_size]; (repeat' split) <;> omega
/-! ### the candidates -/
def candW (a b : ByteArray) (i j : Int) : List ByteArray := if i = a.size ∨ j = b.size then [ByteArray.empty] else if bt a i = bt b j then [cmP a b (i + 1) j, cmP a b i (j + 1), cutB a i ++ cmP a b (i + 1) (j + 1)] else [cmP a b (i + 1) j, cmP a b i (j + 1)]
def candJ (a b : ByteArray) (i j : Int) : List ByteArray := if i = a.size then [b.extract (j : Int).toNat b.size] else if j = b.size then [a.extract (i : Int).toNat a.size] else if bt a i = bt b j then [cutB a i ++ jnP a b (i + 1) (j + 1)] else [cutB a i ++ jnP a b (i + 1) j, cutB b j ++ jnP a b i (j + 1)]
def bstK (bet : ByteArray → ByteArray → Bool) (l : List ByteArray) : Nat → ByteArray
  | 0 => rdS l 0
  | k + 1 => if bet (rdS (l.drop 1) (k : Int)) (bstK bet l k) then rdS (l.drop 1) (k : Int) else bstK bet l k
theorem candW_len (a b : ByteArray) (i j : Int) : 1 ≤ (candW a b i j).length ∧ (candW a b i j).length ≤ 3 := by unfold candW; (repeat' split) <;> simp
theorem candJ_len (a b : ByteArray) (i j : Int) : 1 ≤ (candJ a b i j).length ∧ (candJ a b i j).length ≤ 3 := by unfold candJ; (repeat' split) <;> simp
theorem bst_C {a b : ByteArray} {i j : Int} (h0 : 0 ≤ i) (h1 : i ≤ a.size) (h2 : 0 ≤ j) (h3 : j ≤ b.size) : bstK betC (candW a b i j) ((candW a b i j).length - 1) = cmP a b i j := by
  unfold candW
  by_cases he : i = a.size ∨ j = b.size
  · rw [if_pos he, cmP_ends he]; rfl
  · rw [if_neg he, cmP_rec h0 (by omega) h2 (by omega)]
    by_cases c : bt a i = bt b j
    · rw [if_pos c, if_pos c]; rfl
    · rw [if_neg c, if_neg c]; rfl
theorem bst_J {a b : ByteArray} {i j : Int} (h0 : 0 ≤ i) (h1 : i ≤ a.size) (h2 : 0 ≤ j) (h3 : j ≤ b.size) : bstK betJ (candJ a b i j) ((candJ a b i j).length - 1) = jnP a b i j := by
  unfold candJ
  by_cases ha : i = a.size
  · rw [if_pos ha, ha, jnP_endA h2 h3]; rfl
  · rw [if_neg ha]
    by_cases hb : j = b.size
    · rw [if_pos hb, hb, jnP_endB h0 (by omega)]; rfl
    · rw [if_neg hb, jnP_rec h0 (by omega) h2 (by omega)]
      by_cases c : bt a i = bt b j
      · rw [if_pos c, if_pos c]; rfl
      · rw [if_neg c, if_neg c]; rfl
theorem rdS_mem {xs : List ByteArray} {i : Int} (h0 : 0 ≤ i) (h1 : i < xs.length) : rdS xs i ∈ xs := List.mem_of_getElem? (rdS_at h0 h1)
theorem bstK_mem (bet : ByteArray → ByteArray → Bool) {l : List ByteArray} (hl : 1 ≤ l.length) : ∀ k, k ≤ l.length - 1 → bstK bet l k ∈ l
  | 0, _ => rdS_mem (by omega) (by omega)
  | k + 1, h => by
    unfold bstK
    split
    · exact List.mem_of_mem_drop (rdS_mem (xs := l.drop 1) (i := (k : Int)) (by omega) (by rw [List.length_drop]; omega))
    · exact bstK_mem bet hl k (by omega)
theorem candW_size {a b : ByteArray} {i j : Int} (ha : a.size ≤ 12) (hb : b.size ≤ 12) (h0 : 0 ≤ i) (h1 : i ≤ a.size) (h2 : 0 ≤ j) (h3 : j ≤ b.size) : ∀ s ∈ candW a b i j, s.size ≤ 50 := by
  intro s hs
  have e0 : ByteArray.empty.size = 0 := rfl
  unfold candW at hs
  have q0 := cutB_size (a := a) (i := i) h0
  split at hs
  · simp at hs; rw [hs]; omega
  · have q1 := cmP_size (a := a) (b := b) 100 (i + 1) j (by omega) (by omega) (by omega) (by omega) (by omega)
    have q2 := cmP_size (a := a) (b := b) 100 i (j + 1) (by omega) (by omega) (by omega) (by omega) (by omega)
    have q3 := cmP_size (a := a) (b := b) 100 (i + 1) (j + 1) (by omega) (by omega) (by omega) (by omega) (by omega)
    have q4 := q0 (by omega)
    split at hs <;> simp only [List.mem_cons, List.not_mem_nil, or_false] at hs
    · rcases hs with e | e | e <;> rw [e] <;> (try rw [app_size]) <;> omega
    · rcases hs with e | e <;> rw [e] <;> omega
theorem candJ_size {a b : ByteArray} {i j : Int} (ha : a.size ≤ 12) (hb : b.size ≤ 12) (h0 : 0 ≤ i) (h1 : i ≤ a.size) (h2 : 0 ≤ j) (h3 : j ≤ b.size) : ∀ s ∈ candJ a b i j, s.size ≤ 50 := by
  intro s hs
  unfold candJ at hs
  have q0 := cutB_size (a := a) (i := i) h0
  have q5 := cutB_size (a := b) (i := j) h2
  split at hs
  · simp only [List.mem_singleton] at hs; rw [hs]; simp; omega
  · split at hs
    · simp only [List.mem_singleton] at hs; rw [hs]; simp; omega
    · have q1 := jnP_size (a := a) (b := b) 100 (i + 1) j (by omega) (by omega) (by omega) (by omega) (by omega)
      have q2 := jnP_size (a := a) (b := b) 100 i (j + 1) (by omega) (by omega) (by omega) (by omega) (by omega)
      have q3 := jnP_size (a := a) (b := b) 100 (i + 1) (j + 1) (by omega) (by omega) (by omega) (by omega) (by omega)
      have q4 := q0 (by omega)
      have q6 := q5 (by omega)
      split at hs <;> simp only [List.mem_cons, List.not_mem_nil, or_false] at hs
      · rw [hs, app_size]; omega
      · rcases hs with e | e <;> rw [e, app_size] <;> omega
/-! ### what the map knows -/
def SndW (val : Int → Int → ByteArray) (es : Array MapEntry) : Prop := ∃ F : Int × Int → Option Value, MapG kvp okp es F ∧ ∀ p v, F p = some v → v = .string (val p.1 p.2)
theorem SndW.empty {val : Int → Int → ByteArray} : SndW val #[] := ⟨fun _ => none, MapG.empty, fun p v h => by cases h⟩
theorem SndW.put {val : Int → Int → ByteArray} {es : Array MapEntry} {F : Int × Int → Option Value} {i j : Int} {z : ByteArray} (hF : ∀ p v, F p = some v → v = .string (val p.1 p.2)) (h : MapG kvp okp es (putG F (i, j) (.string z))) (hz : z = val i j) : SndW val es :=
  ⟨_, h, fun p v hv => by
    unfold putG at hv
    split at hv
    · rename_i e
      cases hv
      subst e
      rw [hz]
    · exact hF p v hv⟩
end Go.Proofs.Ytnnpdgegejklpaa
