/- The common string and the joined one: their sizes, the cost between, and what lies within what. Plain Lean. -/
import Derived.Test.YtnnpdgegejklpaaWdMath
import Derived.Test.YtnnpdgegejklpaaEdGrid
namespace Go.Proofs.Ytnnpdgegejklpaa
open Go.RowKit Go.Sx
set_option linter.unusedVariables false
set_option linter.unusedSimpArgs false
/-! ### sizes -/
def Ls (a b : ByteArray) (i j : Nat) : Int := ((cmP a b (i : Int) (j : Int)).size : Int)
def Js (a b : ByteArray) (i j : Nat) : Int := ((jnP a b (i : Int) (j : Int)).size : Int)
section
variable {a b : ByteArray}
theorem Ls_end {i j : Nat} (h : i = a.size ∨ j = b.size) : Ls a b i j = 0 := by
  unfold Ls; rw [cmP_ends (by omega)]; rfl
theorem Ls_nonneg (i j : Nat) : 0 ≤ Ls a b i j := by unfold Ls; omega
theorem Ls_rec {i j : Nat} (h1 : i < a.size) (h2 : j < b.size) :
    (bt a i = bt b j ∧ Ls a b i j = max (max (Ls a b (i + 1) j) (Ls a b i (j + 1))) (1 + Ls a b (i + 1) (j + 1))) ∨ (bt a i ≠ bt b j ∧ Ls a b i j = max (Ls a b (i + 1) j) (Ls a b i (j + 1))) := by
  have h := cmP_rec (a := a) (b := b) (i := (i : Int)) (j := (j : Int)) (by omega) (by omega) (by omega) (by omega)
  have hc := cutB_size (a := a) (i := (i : Int)) (by omega) (by omega)
  unfold Ls
  rw [show ((i + 1 : Nat) : Int) = (i : Int) + 1 by omega, show ((j + 1 : Nat) : Int) = (j : Int) + 1 by omega]
  by_cases c : bt a i = bt b j
  · left; refine ⟨c, ?_⟩
    rw [if_pos c] at h
    rw [h, pickC_size, pickC_size, app_size, hc]; (repeat' split) <;> omega
  · right; refine ⟨c, ?_⟩
    rw [if_neg c] at h
    rw [h, pickC_size]; (repeat' split) <;> omega
theorem Ls_a {i j : Nat} (h1 : i < a.size) (h2 : j ≤ b.size) : Ls a b (i + 1) j ≤ Ls a b i j := by
  by_cases e : j = b.size
  · rw [Ls_end (.inr e), Ls_end (.inr e)]; exact Int.le_refl _
  · rcases Ls_rec h1 (show j < b.size by omega) with ⟨_, h⟩ | ⟨_, h⟩ <;> omega
theorem Ls_b {i j : Nat} (h1 : i ≤ a.size) (h2 : j < b.size) : Ls a b i (j + 1) ≤ Ls a b i j := by
  by_cases e : i = a.size
  · rw [Ls_end (.inl e), Ls_end (.inl e)]; exact Int.le_refl _
  · rcases Ls_rec (show i < a.size by omega) h2 with ⟨_, h⟩ | ⟨_, h⟩ <;> omega
theorem Ls_up : ∀ (n i j : Nat), i ≤ a.size → j ≤ b.size → (a.size - i) + (b.size - j) ≤ n → (i < a.size → Ls a b i j ≤ 1 + Ls a b (i + 1) j) ∧ (j < b.size → Ls a b i j ≤ 1 + Ls a b i (j + 1))
  | n, i, j, h1, h2, hn => by
    by_cases he : i = a.size ∨ j = b.size
    · rw [Ls_end he]
      have q1 := Ls_nonneg (a := a) (b := b) (i + 1) j
      have q2 := Ls_nonneg (a := a) (b := b) i (j + 1)
      omega
    · cases n with
      | zero => omega
      | succ n =>
        have p1 := (Ls_up n (i + 1) j (by omega) (by omega) (by omega)).2 (by omega)
        have p2 := (Ls_up n i (j + 1) (by omega) (by omega) (by omega)).1 (by omega)
        have q1 := Ls_a (a := a) (b := b) (i := i) (j := j + 1) (by omega) (by omega)
        have q2 := Ls_b (a := a) (b := b) (i := i + 1) (j := j) (by omega) (by omega)
        rcases Ls_rec (show i < a.size by omega) (show j < b.size by omega) with ⟨_, h⟩ | ⟨_, h⟩ <;> omega
theorem Js_eq : ∀ (n i j : Nat), i ≤ a.size → j ≤ b.size → (a.size - i) + (b.size - j) ≤ n → Js a b i j = ((a.size : Int) - i) + ((b.size : Int) - j) - Ls a b i j
  | n, i, j, h1, h2, hn => by
    by_cases ha : i = a.size
    · rw [Ls_end (.inl ha)]
      subst ha
      unfold Js
      rw [jnP_endA (by omega) (by omega)]
      simp; omega
    · by_cases hb : j = b.size
      · rw [Ls_end (.inr hb)]
        subst hb
        unfold Js
        rw [jnP_endB (by omega) (by omega)]
        simp; omega
      · cases n with
        | zero => omega
        | succ n =>
          have r1 := Js_eq n (i + 1) j (by omega) (by omega) (by omega)
          have r2 := Js_eq n i (j + 1) (by omega) (by omega) (by omega)
          have r3 := Js_eq n (i + 1) (j + 1) (by omega) (by omega) (by omega)
          have p1 := (Ls_up (a := a) (b := b) (a.size + b.size) (i + 1) j (by omega) (by omega) (by omega)).2 (by omega)
          have p2 := (Ls_up (a := a) (b := b) (a.size + b.size) i (j + 1) (by omega) (by omega) (by omega)).1 (by omega)
          have h := jnP_rec (a := a) (b := b) (i := (i : Int)) (j := (j : Int)) (by omega) (by omega) (by omega) (by omega)
          have hc := cutB_size (a := a) (i := (i : Int)) (by omega) (by omega)
          have hd := cutB_size (a := b) (i := (j : Int)) (by omega) (by omega)
          unfold Js at r1 r2 r3 ⊢
          rw [show ((i + 1 : Nat) : Int) = (i : Int) + 1 by omega] at r1 r3
          rw [show ((j + 1 : Nat) : Int) = (j : Int) + 1 by omega] at r2 r3
          rcases Ls_rec (show i < a.size by omega) (show j < b.size by omega) with ⟨c, q⟩ | ⟨c, q⟩
          · rw [if_pos c] at h
            rw [h, app_size, hc]; omega
          · rw [if_neg c] at h
            rw [h, pickJ_size, app_size, app_size, hc, hd]; (repeat' split) <;> omega
/-! ### the cost -/
variable {ps : Int}
theorem D_a {i j : Nat} (hp : 2 ≤ ps) : D a b 1 1 ps (i + 1) j ≤ D a b 1 1 ps i j + 1 := by
  unfold D
  cases j with
  | zero => rw [EM.C_s0]; exact Int.le_refl _
  | succ j => rw [EM.C_ss]; omega
theorem D_b {i j : Nat} (hp : 2 ≤ ps) : D a b 1 1 ps i (j + 1) ≤ D a b 1 1 ps i j + 1 := by
  unfold D
  cases i with
  | zero => rw [EM.C_0s]; exact Int.le_refl _
  | succ i => rw [EM.C_ss]; omega
theorem D_e {i j : Nat} (h : bt a i = bt b j) : D a b 1 1 ps (i + 1) (j + 1) ≤ D a b 1 1 ps i j := by
  unfold D
  rw [EM.C_ss]
  have : (if bt a (i : Int) = bt b (j : Int) then (0 : Int) else ps) = 0 := if_pos h
  simp only [this]; omega
theorem D_le (hp : 2 ≤ ps) : ∀ (n i j : Nat), i ≤ a.size → j ≤ b.size → (a.size - i) + (b.size - j) ≤ n → D a b 1 1 ps a.size b.size ≤ D a b 1 1 ps i j + (((a.size : Int) - i) + ((b.size : Int) - j) - 2 * Ls a b i j)
  | n, i, j, h1, h2, hn => by
    by_cases ha : i = a.size
    · by_cases hb : j = b.size
      · rw [Ls_end (.inl ha), ha, hb]; omega
      · cases n with
        | zero => omega
        | succ n =>
          have r := D_le hp n i (j + 1) (by omega) (by omega) (by omega)
          have d := D_b (a := a) (b := b) (i := i) (j := j) hp
          rw [Ls_end (.inl ha)] at r ⊢; omega
    · by_cases hb : j = b.size
      · cases n with
        | zero => omega
        | succ n =>
          have r := D_le hp n (i + 1) j (by omega) (by omega) (by omega)
          have d := D_a (a := a) (b := b) (i := i) (j := j) hp
          rw [Ls_end (.inr hb)] at r ⊢; omega
      · cases n with
        | zero => omega
        | succ n =>
          have r1 := D_le hp n (i + 1) j (by omega) (by omega) (by omega)
          have r2 := D_le hp n i (j + 1) (by omega) (by omega) (by omega)
          have r3 := D_le hp n (i + 1) (j + 1) (by omega) (by omega) (by omega)
          have d1 := D_a (a := a) (b := b) (i := i) (j := j) hp
          have d2 := D_b (a := a) (b := b) (i := i) (j := j) hp
          rcases Ls_rec (show i < a.size by omega) (show j < b.size by omega) with ⟨c, q⟩ | ⟨c, q⟩
          · have d3 := D_e (ps := ps) c; omega
          · omega
theorem D_ge (hp : 2 ≤ ps) : ∀ (n i j : Nat), i ≤ a.size → j ≤ b.size → i + j ≤ n → (a.size : Int) + b.size - 2 * Ls a b 0 0 ≤ D a b 1 1 ps i j + (((a.size : Int) - i) + ((b.size : Int) - j) - 2 * Ls a b i j)
  | n, 0, 0, h1, h2, hn => by
    have : D a b 1 1 ps 0 0 = 0 := by unfold D; exact EM.C_00 ..
    omega
  | n, i + 1, 0, h1, h2, hn => by
    cases n with
    | zero => omega
    | succ n =>
      have r := D_ge hp n i 0 (by omega) (by omega) (by omega)
      have d : D a b 1 1 ps (i + 1) 0 = D a b 1 1 ps i 0 + 1 := by unfold D; exact EM.C_s0 ..
      have q := Ls_a (a := a) (b := b) (i := i) (j := 0) (by omega) (by omega)
      omega
  | n, 0, j + 1, h1, h2, hn => by
    cases n with
    | zero => omega
    | succ n =>
      have r := D_ge hp n 0 j (by omega) (by omega) (by omega)
      have d : D a b 1 1 ps 0 (j + 1) = D a b 1 1 ps 0 j + 1 := by unfold D; exact EM.C_0s ..
      have q := Ls_b (a := a) (b := b) (i := 0) (j := j) (by omega) (by omega)
      omega
  | n, i + 1, j + 1, h1, h2, hn => by
    cases n with
    | zero => omega
    | succ n =>
      have r1 := D_ge hp n i (j + 1) (by omega) (by omega) (by omega)
      have r2 := D_ge hp n (i + 1) j (by omega) (by omega) (by omega)
      have r3 := D_ge hp n i j (by omega) (by omega) (by omega)
      have q1 := Ls_a (a := a) (b := b) (i := i) (j := j + 1) (by omega) (by omega)
      have q2 := Ls_b (a := a) (b := b) (i := i + 1) (j := j) (by omega) (by omega)
      have q3 := Ls_b (a := a) (b := b) (i := i) (j := j) (by omega) (by omega)
      have d : D a b 1 1 ps (i + 1) (j + 1) = min (min (D a b 1 1 ps i j + if bt a i = bt b j then 0 else ps) (D a b 1 1 ps i (j + 1) + 1)) (D a b 1 1 ps (i + 1) j + 1) := by unfold D; exact EM.C_ss ..
      rcases Ls_rec (show i < a.size by omega) (show j < b.size by omega) with ⟨c, q⟩ | ⟨c, q⟩
      · rw [if_pos c] at d; omega
      · rw [if_neg c] at d; omega
theorem D_cm (hp : 2 ≤ ps) : D a b 1 1 ps a.size b.size = (a.size : Int) + b.size - 2 * ((cmP a b 0 0).size : Int) := by
  have h1 := D_le (a := a) (b := b) hp (a.size + b.size) 0 0 (by omega) (by omega) (by omega)
  have h2 := D_ge (a := a) (b := b) hp (a.size + b.size) a.size b.size (by omega) (by omega) (by omega)
  have h3 : D a b 1 1 ps 0 0 = 0 := by unfold D; exact EM.C_00 ..
  rw [Ls_end (i := a.size) (j := b.size) (.inl rfl)] at h2
  have h4 : Ls a b 0 0 = ((cmP a b 0 0).size : Int) := rfl
  omega
theorem J_cm : ((jnP a b 0 0).size : Int) = (a.size : Int) + b.size - ((cmP a b 0 0).size : Int) := by
  have h := Js_eq (a := a) (b := b) (a.size + b.size) 0 0 (by omega) (by omega) (by omega)
  have h4 : Ls a b 0 0 = ((cmP a b 0 0).size : Int) := rfl
  have h5 : Js a b 0 0 = ((jnP a b 0 0).size : Int) := rfl
  omega
end
/-! ### what lies within what -/
abbrev bl (a : ByteArray) : List UInt8 := a.data.toList
theorem bl_len (a : ByteArray) : (bl a).length = a.size := rfl
theorem bl_app (a b : ByteArray) : bl (a ++ b) = bl a ++ bl b := by simp [bl]
theorem bt_bl {a : ByteArray} {i : Nat} (h : i < a.size) : bt a (i : Int) = (((bl a)[i]'h).toNat : Int) := by
  unfold bt
  rw [dif_pos (show ((i : Int)).toNat < a.size by omega)]
  rfl
theorem bl_drop {a : ByteArray} {i : Nat} (h : i < a.size) : (bl a).drop i = (bl a)[i]'h :: (bl a).drop (i + 1) := List.drop_eq_getElem_cons h
theorem bl_suf {a : ByteArray} {i : Nat} : bl (a.extract i a.size) = (bl a).drop i := by
  simp only [bl, ByteArray.data_extract, Array.toList_extract, List.extract_eq_take_drop]
  rw [List.take_of_length_le]
  rw [List.length_drop]; exact Nat.le_refl _
theorem bl_cut {a : ByteArray} {i : Nat} (h : i < a.size) : bl (cutB a (i : Int)) = [(bl a)[i]'h] := by
  unfold cutB
  rw [show ((i : Int)).toNat = i by omega, show ((i : Int) + 1).toNat = i + 1 by omega]
  simp only [bl, ByteArray.data_extract, Array.toList_extract, List.extract_eq_take_drop]
  rw [show i + 1 - i = 1 by omega, bl_drop h]; rfl
theorem bt_eq {a b : ByteArray} {i j : Nat} (h1 : i < a.size) (h2 : j < b.size) (h : bt a (i : Int) = bt b (j : Int)) : (bl a)[i]'h1 = (bl b)[j]'h2 := by
  rw [bt_bl h1, bt_bl h2] at h
  exact UInt8.toNat_inj.1 (by omega)
theorem pickC_or (s x : ByteArray) : pickC s x = s ∨ pickC s x = x := by unfold pickC; split; exact .inr rfl; exact .inl rfl
theorem pickJ_or (s x : ByteArray) : pickJ s x = s ∨ pickJ s x = x := by unfold pickJ; split; exact .inr rfl; exact .inl rfl
theorem drop_sub {a : ByteArray} (i : Nat) : List.Sublist ((bl a).drop (i + 1)) ((bl a).drop i) := by
  rw [← List.drop_drop]; exact List.drop_sublist ..
theorem cm_sub {a b : ByteArray} : ∀ (n i j : Nat), i ≤ a.size → j ≤ b.size → (a.size - i) + (b.size - j) ≤ n → List.Sublist (bl (cmP a b i j)) ((bl a).drop i) ∧ List.Sublist (bl (cmP a b i j)) ((bl b).drop j)
  | n, i, j, h1, h2, hn => by
    by_cases he : i = a.size ∨ j = b.size
    · rw [cmP_ends (by omega)]; exact ⟨List.nil_sublist _, List.nil_sublist _⟩
    · cases n with
      | zero => omega
      | succ n =>
        have p1 := cm_sub (a := a) (b := b) n (i + 1) j (by omega) (by omega) (by omega)
        have p2 := cm_sub (a := a) (b := b) n i (j + 1) (by omega) (by omega) (by omega)
        have p3 := cm_sub (a := a) (b := b) n (i + 1) (j + 1) (by omega) (by omega) (by omega)
        rw [show ((i + 1 : Nat) : Int) = (i : Int) + 1 by omega] at p1 p3
        rw [show ((j + 1 : Nat) : Int) = (j : Int) + 1 by omega] at p2 p3
        have q1 : List.Sublist (bl (cmP a b ((i : Int) + 1) j)) ((bl a).drop i) ∧ List.Sublist (bl (cmP a b ((i : Int) + 1) j)) ((bl b).drop j) := ⟨p1.1.trans (drop_sub i), p1.2⟩
        have q2 : List.Sublist (bl (cmP a b i ((j : Int) + 1))) ((bl a).drop i) ∧ List.Sublist (bl (cmP a b i ((j : Int) + 1))) ((bl b).drop j) := ⟨p2.1, p2.2.trans (drop_sub j)⟩
        have q4 : ∀ s x : ByteArray, (List.Sublist (bl s) ((bl a).drop i) ∧ List.Sublist (bl s) ((bl b).drop j)) → (List.Sublist (bl x) ((bl a).drop i) ∧ List.Sublist (bl x) ((bl b).drop j)) → (List.Sublist (bl (pickC s x)) ((bl a).drop i) ∧ List.Sublist (bl (pickC s x)) ((bl b).drop j)) := by
          intro s x hs hx
          rcases pickC_or s x with e | e <;> rw [e] <;> assumption
        rw [cmP_rec (by omega) (by omega) (by omega) (by omega)]
        split
        · rename_i c
          refine q4 _ _ (q4 _ _ q1 q2) ?_
          rw [bl_app, bl_cut (show i < a.size by omega), bl_drop (show i < a.size by omega), bl_drop (show j < b.size by omega), ← bt_eq (show i < a.size by omega) (show j < b.size by omega) c]
          exact ⟨List.cons_sublist_cons.2 p3.1, List.cons_sublist_cons.2 p3.2⟩
        · exact q4 _ _ q1 q2
theorem jn_sub {a b : ByteArray} : ∀ (n i j : Nat), i ≤ a.size → j ≤ b.size → (a.size - i) + (b.size - j) ≤ n → List.Sublist ((bl a).drop i) (bl (jnP a b i j)) ∧ List.Sublist ((bl b).drop j) (bl (jnP a b i j))
  | n, i, j, h1, h2, hn => by
    by_cases ha : i = a.size
    · subst ha
      rw [jnP_endA (by omega) (by omega), show ((j : Int)).toNat = j by omega, bl_suf, List.drop_of_length_le (show (bl a).length ≤ a.size from Nat.le_refl _)]
      exact ⟨List.nil_sublist _, List.Sublist.refl _⟩
    · by_cases hb : j = b.size
      · subst hb
        rw [jnP_endB (by omega) (by omega), show ((i : Int)).toNat = i by omega, bl_suf, List.drop_of_length_le (show (bl b).length ≤ b.size from Nat.le_refl _)]
        exact ⟨List.Sublist.refl _, List.nil_sublist _⟩
      · cases n with
        | zero => omega
        | succ n =>
          have p1 := jn_sub (a := a) (b := b) n (i + 1) j (by omega) (by omega) (by omega)
          have p2 := jn_sub (a := a) (b := b) n i (j + 1) (by omega) (by omega) (by omega)
          have p3 := jn_sub (a := a) (b := b) n (i + 1) (j + 1) (by omega) (by omega) (by omega)
          rw [show ((i + 1 : Nat) : Int) = (i : Int) + 1 by omega] at p1 p3
          rw [show ((j + 1 : Nat) : Int) = (j : Int) + 1 by omega] at p2 p3
          have hi : i < a.size := by omega
          have hj : j < b.size := by omega
          rw [jnP_rec (by omega) (by omega) (by omega) (by omega)]
          split
          · rename_i c
            rw [bl_app, bl_cut hi, bl_drop hi, bl_drop hj, ← bt_eq hi hj c]
            exact ⟨List.cons_sublist_cons.2 p3.1, List.cons_sublist_cons.2 p3.2⟩
          · rcases pickJ_or (cutB a i ++ jnP a b ((i : Int) + 1) j) (cutB b j ++ jnP a b i ((j : Int) + 1)) with e | e <;> rw [e, bl_app]
            · rw [bl_cut hi, bl_drop hi]
              exact ⟨List.cons_sublist_cons.2 p1.1, p1.2.trans (List.sublist_cons_self ..)⟩
            · rw [bl_cut hj, bl_drop hj]
              exact ⟨p2.1.trans (List.sublist_cons_self ..), List.cons_sublist_cons.2 p2.2⟩
theorem cons_ne {x y : UInt8} {xs ys : List UInt8} (h : List.Sublist (x :: xs) (y :: ys)) (hn : x ≠ y) : List.Sublist (x :: xs) ys := by
  cases h with
  | cons _ h => exact h
  | cons_cons _ h => exact absurd rfl hn
/-- How far the greedy search has come in s after i bytes of t. -/
def gw (s t : ByteArray) : Nat → Nat
  | 0 => 0
  | i + 1 => if gw s t i < s.size ∧ bt s (gw s t i : Int) = bt t (i : Int) then gw s t i + 1 else gw s t i
theorem gw_le (s t : ByteArray) : ∀ i, gw s t i ≤ s.size
  | 0 => Nat.zero_le _
  | i + 1 => by
    have := gw_le s t i
    unfold gw; split <;> omega
theorem gw_y {s t : ByteArray} {i : Nat} {p : Int} (hp : p = (gw s t i : Int)) (h : p < s.size ∧ bt s p = bt t (i : Int)) : p + 1 = (gw s t (i + 1) : Int) := by
  subst hp
  rw [gw, if_pos ⟨by omega, h.2⟩]; omega
theorem gw_n {s t : ByteArray} {i : Nat} {p : Int} (hp : p = (gw s t i : Int)) (h : ¬ (p < s.size ∧ bt s p = bt t (i : Int))) : p = (gw s t (i + 1) : Int) := by
  subst hp
  rw [gw, if_neg (fun ⟨h1, h2⟩ => h ⟨by omega, h2⟩)]
theorem gw_sub {s t : ByteArray} (h : List.Sublist (bl s) (bl t)) : ∀ i, i ≤ t.size → List.Sublist ((bl s).drop (gw s t i)) ((bl t).drop i)
  | 0, _ => h
  | i + 1, hi => by
    have ih := gw_sub h i (by omega)
    have h2 : i < t.size := by omega
    rw [bl_drop h2] at ih
    by_cases c : gw s t i < s.size
    · rw [bl_drop c] at ih
      by_cases c2 : bt s (gw s t i : Int) = bt t (i : Int)
      · rw [gw, if_pos ⟨c, c2⟩]
        rw [bt_eq c h2 c2] at ih
        exact List.cons_sublist_cons.1 ih
      · rw [gw, if_neg (fun h => c2 h.2), bl_drop c]
        exact cons_ne ih (fun e => c2 (by rw [bt_bl c, bt_bl h2, e]))
    · rw [gw, if_neg (fun h => c h.1), List.drop_of_length_le (show (bl s).length ≤ _ by rw [bl_len]; omega)]
      exact List.nil_sublist _
theorem gw_all {s t : ByteArray} (h : List.Sublist (bl s) (bl t)) : ((gw s t t.size : Nat) : Int) = (s.size : Int) := by
  have h1 := gw_sub h t.size (Nat.le_refl _)
  have h2 := gw_le s t t.size
  rw [List.drop_of_length_le (show (bl t).length ≤ t.size from Nat.le_refl _)] at h1
  have h3 := congrArg List.length (List.sublist_nil.1 h1)
  rw [List.length_drop, bl_len] at h3
  simp at h3; omega
section
variable (a b : ByteArray)
theorem w_ca : ((gw (cmP a b 0 0) a a.size : Nat) : Int) = ((cmP a b 0 0).size : Int) := gw_all (cm_sub (a := a) (b := b) _ 0 0 (Nat.zero_le _) (Nat.zero_le _) (Nat.le_refl _)).1
theorem w_cb : ((gw (cmP a b 0 0) b b.size : Nat) : Int) = ((cmP a b 0 0).size : Int) := gw_all (cm_sub (a := a) (b := b) _ 0 0 (Nat.zero_le _) (Nat.zero_le _) (Nat.le_refl _)).2
theorem w_aj : ((gw a (jnP a b 0 0) (jnP a b 0 0).size : Nat) : Int) = (a.size : Int) := gw_all (jn_sub (a := a) (b := b) _ 0 0 (Nat.zero_le _) (Nat.zero_le _) (Nat.le_refl _)).1
theorem w_bj : ((gw b (jnP a b 0 0) (jnP a b 0 0).size : Nat) : Int) = (b.size : Int) := gw_all (jn_sub (a := a) (b := b) _ 0 0 (Nat.zero_le _) (Nat.zero_le _) (Nat.le_refl _)).2
end
end Go.Proofs.Ytnnpdgegejklpaa
