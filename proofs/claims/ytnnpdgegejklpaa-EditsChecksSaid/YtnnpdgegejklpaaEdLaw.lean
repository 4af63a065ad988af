/- What Cost hands back: laws in plain Lean. -/
import Derived.Test.YtnnpdgegejklpaaEdE
import Derived.Laws.Strings
namespace Go.Proofs.Ytnnpdgegejklpaa
open Go.RowKit Go.Sx

theorem costR_ok {a b : ByteArray} {pi po ps : Int} (ha : a.size ≤ 12) (hb : b.size ≤ 12) (hp : okP pi po ps) : costR a b pi po ps = (D a b pi po ps a.size b.size, 0) := if_pos ⟨ha, hb, hp⟩
theorem costR_no {a b : ByteArray} {pi po ps : Int} (h : ¬ (a.size ≤ 12 ∧ b.size ≤ 12 ∧ okP pi po ps)) : costR a b pi po ps = (0, 2) := if_neg h
theorem costR_err {a b : ByteArray} {pi po ps : Int} : (costR a b pi po ps).2 = 0 ↔ (a.size ≤ 12 ∧ b.size ≤ 12 ∧ okP pi po ps) := by
  unfold costR; split <;> simp [*]
theorem bt_nat {s : ByteArray} {i : Nat} (h : i < s.size) : bt s i = ((s.data.toList[i]'(by simpa using h)).toNat : Int) := by
  unfold bt
  rw [Int.toNat_natCast, dif_pos h]
  rfl
theorem costR_awake : costR (⟨#[97]⟩ : ByteArray) (⟨#[97, 98]⟩ : ByteArray) 2 3 4 = (2, 0) := by
  rw [costR_ok (by decide) (by decide) (by decide)]
  have e0 : bt (⟨#[97]⟩ : ByteArray) ((0 : Nat) : Int) = 97 := by rw [bt_nat (by decide)]; rfl
  have e1 : bt (⟨#[97, 98]⟩ : ByteArray) ((0 : Nat) : Int) = 97 := by rw [bt_nat (by decide)]; rfl
  have e2 : bt (⟨#[97, 98]⟩ : ByteArray) ((1 : Nat) : Int) = 98 := by rw [bt_nat (by decide)]; rfl
  have e : D (⟨#[97]⟩ : ByteArray) (⟨#[97, 98]⟩ : ByteArray) 2 3 4 1 2 = 2 := by
    unfold D
    generalize hx : (fun k : Nat => bt (⟨#[97]⟩ : ByteArray) k) = x
    generalize hy : (fun k : Nat => bt (⟨#[97, 98]⟩ : ByteArray) k) = y
    have x0 : x 0 = 97 := by rw [← hx]; exact e0
    have y0 : y 0 = 97 := by rw [← hy]; exact e1
    have y1 : y 1 = 98 := by rw [← hy]; exact e2
    have h00 := EM.C_00 x y 2 3 4
    have h01 := EM.C_0s x y 2 3 4 0
    have h02 := EM.C_0s x y 2 3 4 1
    have h10 := EM.C_s0 x y 2 3 4 0
    have h11 := EM.C_ss x y 2 3 4 0 0
    have h12 := EM.C_ss x y 2 3 4 0 1
    simp only [x0, y0, y1, Nat.zero_add, Nat.reduceAdd] at h01 h02 h10 h11 h12
    rw [if_pos trivial] at h11
    rw [if_neg (by decide)] at h12
    omega
  exact congrArg (fun z => (z, (0 : Int))) e
theorem D_swap (a b : ByteArray) (pi po ps : Int) (i j : Nat) : D a b pi po ps i j = D b a po pi ps j i := EM.C_swap _ _ _ _ _ (i + j) i j (Nat.le_refl _)
theorem D_scale (a b : ByteArray) (pi po ps k : Int) (hk : 0 ≤ k) (i j : Nat) : D a b (pi * k) (po * k) (ps * k) i j = D a b pi po ps i j * k := EM.C_scale _ _ _ _ _ k hk (i + j) i j (Nat.le_refl _)
theorem bytes_eq {a b : ByteArray} : a = b ↔ a.size = b.size ∧ ∀ k : Nat, k < a.size → bt a k = bt b k := by
  constructor
  · rintro rfl; exact ⟨rfl, fun _ _ => rfl⟩
  · rintro ⟨hs, h⟩
    have hl : a.data.toList = b.data.toList := by
      apply List.ext_getElem
      · simpa using hs
      · intro k h1 h2
        have h1' : k < a.size := by simpa using h1
        have h2' : k < b.size := by simpa using h2
        have := h k h1'
        rw [bt_nat h1', bt_nat h2'] at this
        exact UInt8.toNat_inj.1 (by omega)
    have : a.data = b.data := Array.toList_inj.1 hl
    cases a; cases b; simp_all
theorem D_zero {a b : ByteArray} {pi po ps : Int} (hp : okP pi po ps) : D a b pi po ps a.size b.size = 0 ↔ a = b := by
  obtain ⟨h1, h2, h3⟩ := hp
  rw [bytes_eq]
  exact EM.C_zero _ _ _ _ _ h1.1 h2.1 h3.1 (a.size + b.size) a.size b.size (Nat.le_refl _)
theorem D_triangle (a b c : ByteArray) {pi po ps : Int} (hp : okP pi po ps) (i j k : Nat) : D a b pi po ps i j ≤ D a c pi po ps i k + D c b pi po ps k j := by
  obtain ⟨h1, h2, h3⟩ := hp
  exact EM.C_triangle _ _ _ _ _ _ (by omega) (by omega) (by omega) (i + j + k) i j k (Nat.le_refl _)
theorem toList_eq {a b : ByteArray} : (a.toList == b.toList) = decide (a = b) := by
  rw [Bool.eq_iff_iff, beq_iff_eq, decide_eq_true_iff, ByteArray.toList_eq, ByteArray.toList_eq]
  constructor
  · intro h
    have : a.data = b.data := Array.toList_inj.1 h
    cases a; cases b; simp_all
  · rintro rfl; rfl
theorem D_small {a b : ByteArray} {pi po ps : Int} (hp : okP pi po ps) (ha : a.size ≤ 12) (hb : b.size ≤ 12) : 0 ≤ D a b pi po ps a.size b.size ∧ D a b pi po ps a.size b.size ≤ 216 := by
  have := D_range (a := a) (b := b) hp.1 hp.2.1 hp.2.2 a.size b.size
  omega
end Go.Proofs.Ytnnpdgegejklpaa
