/- The wheels' rows as sums of powers of a root. -/
import Derived.Test.YtnhflahgbkmloaaWhMath
import Derived.Test.YtnhflahgbkmloaaDft
namespace Go.Wh
open Go.Sx Go.Dft
set_option linter.unusedVariables false
set_option linter.unusedSimpArgs false

def Wn (n m : Nat) : Int := pw (qOf n) (wOf n) (m % n)
theorem rootmul : ∀ n ∈ List.range 17, 2 ≤ n → ∀ a ∈ List.range n, ∀ b ∈ List.range n, pw (qOf n) (wOf n) a * pw (qOf n) (wOf n) b % qOf n = pw (qOf n) (wOf n) ((a + b) % n) % qOf n := by decide +kernel
theorem rootorth : ∀ n ∈ List.range 17, 2 ≤ n → ∀ m ∈ List.range n, Sm (fun k => pw (qOf n) (wOf n) (k * m % n)) n % qOf n = (if m = 0 then (n : Int) else 0) % qOf n := by decide +kernel
theorem invall : ∀ n ∈ List.range 17, 2 ≤ n → ∀ x ∈ List.range 97, (0 : Int) < x → (x : Int) < qOf n → (x : Int) * pw (qOf n) (x : Int) (qOf n - 2).toNat % qOf n = 1 := by decide +kernel
theorem root {n : Nat} (h : 2 ≤ n) (h' : n ≤ 16) : Rt (qOf n) n (Wn n) where
  pos := by omega
  mul a b := by
    have := rootmul n (List.mem_range.2 (by omega)) h (a % n) (List.mem_range.2 (Nat.mod_lt _ (by omega))) (b % n) (List.mem_range.2 (Nat.mod_lt _ (by omega)))
    unfold Wn
    rw [this, ← Nat.add_mod]
  per a b e := by unfold Wn; rw [e]
  one := by unfold Wn; rw [Nat.zero_mod]; rfl
  orth m := by
    have := rootorth n (List.mem_range.2 (by omega)) h (m % n) (List.mem_range.2 (Nat.mod_lt _ (by omega)))
    rw [← this]
    refine congrArg (· % qOf n) (Sm_congr fun k _ => ?_)
    unfold Wn
    rw [Nat.mul_mod k (m % n), Nat.mod_mod, ← Nat.mul_mod]
theorem inv_mul {n : Nat} (h : 2 ≤ n) (h' : n ≤ 16) {x : Int} (h0 : 0 < x) (h1 : x < qOf n) : x * pw (qOf n) x (qOf n - 2).toNat % qOf n = 1 := by
  obtain ⟨k, rfl⟩ := Int.eq_ofNat_of_zero_le (show 0 ≤ x by omega)
  have := q_facts h h'
  exact invall n (List.mem_range.2 (by omega)) h k (List.mem_range.2 (by omega)) h0 h1
/-- A row as a function. -/
abbrev fn (xs : List Int) (x : Nat) : Int := rdI xs (x : Int)
theorem tsm_Sm (q r : Int) (n : Nat) (xs : List Int) (k : Nat) : ∀ j : Nat, tsm q r n xs k j = Sm (fun x => fn xs x * pw q r (k * x % n) % q) j
  | 0 => rfl
  | j + 1 => by simp only [tsm, Sm]; rw [tsm_Sm q r n xs k j]
theorem spec_Fo {n : Nat} (xs : List Int) {k : Nat} (hk : k < n) : fn (turnL (qOf n) (wOf n) n xs) k = Fo n (Wn n) (fn xs) k % qOf n := by
  show rdI _ _ = _
  rw [turnL_at hk, tsm_Sm]
  exact Sm_cg fun x _ => Int.emod_emod_of_dvd _ (Int.dvd_refl _)
theorem pow_at {n : Nat} (xs : List Int) {k : Nat} (hk : k < n) : fn (powL (qOf n) (wOf n) n xs) k = Fo n (Wn n) (fn xs) k * Fo n (Wn n) (fn xs) ((n - k) % n) % qOf n := by
  show rdI _ _ = _
  unfold powL
  rw [rdI_map hk]
  show rdI _ _ * rdI _ _ % _ = _
  have e : ((n : Int) - (k : Int)) % (n : Int) = (((n - k) % n : Nat) : Int) := by rw [Int.natCast_emod]; congr 1; omega
  rw [e]
  have h1 := spec_Fo xs hk
  have h2 := spec_Fo xs (Nat.mod_lt (n - k) (show 0 < n by omega))
  simp only [fn] at h1 h2
  rw [h1, h2]
  exact (Int.mul_emod _ _ _).symm
theorem sum_mod {q : Int} (f : Nat → Int) (n : Nat) : Sm (fun k => f k % q) n % q = Sm f n % q := Sm_cg fun k _ => Int.emod_emod_of_dvd _ (Int.dvd_refl _)
/-- The power sums to n times the sum of the squares. -/
theorem energy {n : Nat} (h : 2 ≤ n) (h' : n ≤ 16) (xs : List Int) : Sm (fn (powL (qOf n) (wOf n) n xs)) n % qOf n = (n : Int) * Sm (fun x => fn xs x * fn xs x) n % qOf n := by
  rw [← parseval (root h h') (fn xs), ← sum_mod (q := qOf n) (fun k => Fo n (Wn n) (fn xs) k * Fo n (Wn n) (fn xs) ((n - k) % n))]
  exact congrArg (· % qOf n) (Sm_congr fun k hk => pow_at xs hk)
theorem tms_conv {n : Nat} (xs ys : List Int) (x : Nat) : ∀ j : Nat, j ≤ n → tms n xs ys x j = Sm (fun y => fn xs y * fn ys ((x + (n - y)) % n)) j
  | 0, _ => rfl
  | j + 1, hj => by
    simp only [tms, Sm]
    rw [tms_conv xs ys x j (by omega)]
    have e : ((x : Int) - (j : Int) + (n : Int)) % (n : Int) = (((x + (n - j)) % n : Nat) : Int) := by rw [Int.natCast_emod]; congr 1; omega
    rw [e]
theorem tim_at {n : Nat} (xs ys : List Int) {x : Nat} (hx : x < n) : fn (timL (qOf n) n xs ys) x = conv n (fn xs) (fn ys) x % qOf n := by
  show rdI _ _ = _
  unfold timL
  rw [rdI_map hx, tms_conv xs ys x n (Nat.le_refl _)]; rfl
theorem tim_comm {n : Nat} (h : 2 ≤ n) (xs ys : List Int) : timL (qOf n) n xs ys = timL (qOf n) n ys xs := by
  unfold timL
  refine List.map_congr_left fun x hx => ?_
  have hx := List.mem_range.1 hx
  rw [tms_conv xs ys x n (Nat.le_refl _), tms_conv ys xs x n (Nat.le_refl _)]
  exact congrArg (· % qOf n) (conv_comm (by omega) (fn xs) (fn ys) hx)
theorem spec_tim {n : Nat} (h : 2 ≤ n) (h' : n ≤ 16) (xs ys : List Int) {k : Nat} (hk : k < n) : fn (turnL (qOf n) (wOf n) n (timL (qOf n) n xs ys)) k = fn (turnL (qOf n) (wOf n) n xs) k * fn (turnL (qOf n) (wOf n) n ys) k % qOf n := by
  rw [spec_Fo _ hk, spec_Fo _ hk, spec_Fo _ hk, ← Int.mul_emod, ← product (root h h')]
  exact Fo_cg (fun x hx => by rw [tim_at xs ys hx, Int.emod_emod_of_dvd _ (Int.dvd_refl _)]) k
theorem spec_add {n : Nat} (xs ys zs : List Int) (hz : ∀ x, x < n → fn zs x = (fn xs x + fn ys x) % qOf n) {k : Nat} (hk : k < n) : fn (turnL (qOf n) (wOf n) n zs) k = (fn (turnL (qOf n) (wOf n) n xs) k + fn (turnL (qOf n) (wOf n) n ys) k) % qOf n := by
  rw [spec_Fo _ hk, spec_Fo _ hk, spec_Fo _ hk, ← Int.add_emod, ← Fo_add]
  exact Fo_cg (fun x hx => by rw [hz x hx, Int.emod_emod_of_dvd _ (Int.dvd_refl _)]) k
theorem winv_at {n : Nat} (h : 2 ≤ n) (h' : n ≤ 16) (x j : Nat) (hx : x < n) : pw (qOf n) (pw (qOf n) (wOf n) (qOf n - 2).toNat) (x * j % n) = Wn n (j * (n - x)) := by
  rw [pw_inv h h' (Nat.mod_lt _ (by omega))]
  unfold Wn
  have e := sub_idx (n := n) (k := (x * j) % n) (Nat.mod_lt _ (by omega)) 1
  congr 1
  have h1 : (n - x * j % n) % n = (x * j % n * (n - 1)) % n := by
    rw [Nat.mul_one, Nat.mod_mod, Nat.mod_eq_of_lt (show 1 < n by omega)] at e; exact e
  have e2 := sub_idx hx j
  rw [h1, Nat.mod_mul_mod]
  have a1 : (((x * j * (n - 1) : Nat)) : Int) = ((x : Int) * j) * n - (x : Int) * j := by
    rw [Int.natCast_mul, Int.natCast_mul, show ((n - 1 : Nat) : Int) = (n : Int) - 1 by omega, Int.mul_sub, Int.mul_one]
  have a2 : (((j * (n - x) : Nat)) : Int) = (j : Int) * n - (x : Int) * j := by
    rw [Int.natCast_mul, show ((n - x : Nat) : Int) = (n : Int) - x by omega, Int.mul_sub, Int.mul_comm (j : Int) (x : Int)]
  have h3 : (((x * j * (n - 1) : Nat)) : Int) % (n : Int) = (((j * (n - x) : Nat)) : Int) % (n : Int) := by
    rw [a1, a2, Int.sub_emod, Int.mul_emod_left, Int.sub_emod ((j : Int) * n), Int.mul_emod_left]
  omega
theorem back_at {n : Nat} (h : 2 ≤ n) (h' : n ≤ 16) (ys : List Int) {x : Nat} (hx : x < n) : fn (backL (qOf n) (wOf n) n ys) x = Sm (fun k => fn ys k * Wn n (k * (n - x))) n * pw (qOf n) (n : Int) (qOf n - 2).toNat % qOf n := by
  have hq := q_facts h h'
  show rdI _ _ = _
  unfold backL
  rw [rdI_map hx]
  show rdI _ _ * _ % _ = _
  rw [turnL_at hx, tsm_Sm, Int.emod_eq_of_lt (show 0 ≤ (n : Int) by omega) (show (n : Int) < qOf n by omega)]
  refine cg_mul ((Int.emod_emod_of_dvd _ (Int.dvd_refl _)).trans ?_) rfl
  exact Sm_cg fun k _ => by rw [Int.emod_emod_of_dvd _ (Int.dvd_refl _), winv_at h h' x k hx]
/-- Back of the spectrum. -/
theorem back_of {n : Nat} (h : 2 ≤ n) (h' : n ≤ 16) {xs ys : List Int} (hxs : okW n (qOf n) xs = true) (hy : ∀ k, k < n → fn ys k % qOf n = Fo n (Wn n) (fn xs) k % qOf n) : backL (qOf n) (wOf n) n ys = xs := by
  have hq := q_facts h h'
  obtain ⟨hl, hx⟩ := okW_true.1 hxs
  refine rdI_ext (by simp [backL, hl]) fun x hxl => ?_
  have hxn : x < n := by simpa [backL] using hxl
  have h1 := back_at h h' ys hxn
  have h2 := at_range hl hx (i := (x : Int)) (by omega) (by omega)
  have h3 : Sm (fun k => fn ys k * Wn n (k * (n - x))) n % qOf n = (n : Int) * fn xs x % qOf n := by
    rw [← invert (root h h') (fn xs) hxn]
    exact Sm_cg fun k hk => cg_mul (hy k hk) rfl
  show fn _ x = fn xs x
  rw [h1, cg_mul h3 rfl, Int.mul_comm (n : Int), Int.mul_assoc, cg_mul (a := fn xs x) (b := fn xs x) rfl ((inv_mul h h' (show (0 : Int) < n by omega) (by omega)).trans (Int.emod_eq_of_lt (by decide) (by omega)).symm), Int.mul_one]
  exact Int.emod_eq_of_lt h2.1 h2.2
theorem back_spec {n : Nat} (h : 2 ≤ n) (h' : n ≤ 16) {xs : List Int} (hxs : okW n (qOf n) xs = true) : backL (qOf n) (wOf n) n (turnL (qOf n) (wOf n) n xs) = xs :=
  back_of h h' hxs fun k hk => by rw [spec_Fo xs hk, Int.emod_emod_of_dvd _ (Int.dvd_refl _)]
/-- What has the same spectrum is the same. -/
theorem spec_inj {n : Nat} (h : 2 ≤ n) (h' : n ≤ 16) {xs ys : List Int} (hxs : okW n (qOf n) xs = true) (hys : okW n (qOf n) ys = true) (he : ∀ k, k < n → fn (turnL (qOf n) (wOf n) n xs) k = fn (turnL (qOf n) (wOf n) n ys) k) : xs = ys := by
  rw [← back_spec h h' hxs, ← back_spec h h' hys]
  congr 1
  exact rdI_ext (by rw [turnL_len, turnL_len]) fun k hk => he k (by rwa [turnL_len] at hk)
/-- The spectrum of what Back hands back. -/
theorem spec_back {n : Nat} (h : 2 ≤ n) (h' : n ≤ 16) {ys : List Int} (hys : okW n (qOf n) ys = true) {k : Nat} (hk : k < n) : fn (turnL (qOf n) (wOf n) n (backL (qOf n) (wOf n) n ys)) k = fn ys k := by
  have hq := q_facts h h'
  obtain ⟨hl, hy⟩ := okW_true.1 hys
  have h2 := at_range hl hy (i := (k : Int)) (by omega) (by omega)
  rw [spec_Fo _ hk]
  have R := root h h'
  have e1 : Fo n (Wn n) (fn (backL (qOf n) (wOf n) n ys)) k % qOf n = Sm (fun x => Sm (fun j => pw (qOf n) (n : Int) (qOf n - 2).toNat * (fn ys j * (Wn n (j * (n - x)) * Wn n (k * x)))) n) n % qOf n := Sm_cg fun x hx => by
    rw [back_at h h' ys hx, Sm_mul]
    refine (cg_mul (Int.emod_emod_of_dvd _ (Int.dvd_refl _)) rfl).trans ?_
    rw [Int.mul_comm (Sm _ _), Int.mul_assoc, ← Sm_mulr]
    exact congrArg (· % qOf n) (congrArg _ (Sm_congr fun j _ => Int.mul_assoc _ _ _))
  rw [e1, Sm_swap]
  have e2 : Sm (fun j => Sm (fun x => pw (qOf n) (n : Int) (qOf n - 2).toNat * (fn ys j * (Wn n (j * (n - x)) * Wn n (k * x)))) n) n % qOf n = Sm (fun j => if j = k then (fun j => pw (qOf n) (n : Int) (qOf n - 2).toNat * (fn ys j * (n : Int))) j else 0) n % qOf n := Sm_cg fun j hj => by
    rw [Sm_mul, Sm_mul]
    have e3 : Sm (fun x => Wn n (j * (n - x)) * Wn n (k * x)) n % qOf n = (if j = k then (n : Int) else 0) % qOf n := by
      have e4 : Sm (fun x => Wn n (j * (n - x)) * Wn n (k * x)) n % qOf n = Sm (fun x => Wn n (x * (k + (n - j)))) n % qOf n := Sm_cg fun x hx => by
        rw [R.mul]
        refine congrArg (· % qOf n) (R.per _ _ ?_)
        have a := sub_idx hj x
        rw [Nat.mod_eq_of_lt hx] at a
        rw [Nat.add_mod, ← a, Nat.mul_mod, Nat.mod_mod, ← Nat.mul_mod, ← Nat.add_mod, ← Nat.add_mul, Nat.mul_comm, Nat.add_comm k]
      rw [e4, R.orth]
      by_cases c : j = k
      · rw [if_pos c, if_pos ((place R.pos hj hk).2 c.symm)]
      · rw [if_neg c, if_neg fun e => c ((place R.pos hj hk).1 e).symm]
    by_cases c : j = k
    · rw [if_pos c] at e3 ⊢
      exact cg_mul rfl (cg_mul rfl e3)
    · rw [if_neg c] at e3 ⊢
      rw [cg_mul rfl (cg_mul rfl e3), Int.mul_zero, Int.mul_zero]
  rw [e2, Sm_single _ hk, ← Int.mul_assoc, Int.mul_comm _ (n : Int), ← Int.mul_assoc, Int.mul_comm _ (fn ys k)]
  rw [cg_mul (a := fn ys k) (b := fn ys k) rfl ((inv_mul h h' (show (0 : Int) < n by omega) (by omega)).trans (Int.emod_eq_of_lt (by decide) (by omega)).symm), Int.mul_one]
  exact Int.emod_eq_of_lt h2.1 h2.2
/-- A wheel moved, turned. -/
theorem mov_at {n : Nat} {t : Nat} (ht : t < n) (xs : List Int) {x : Nat} (hx : x < n) : fn (movL n (t : Int) xs) x = fn xs ((x + (n - t)) % n) := by
  show rdI _ _ = rdI _ _
  unfold movL
  rw [rdI_map hx]
  congr 1
  rw [Int.natCast_emod]; congr 1; omega
theorem trn_at {n : Nat} (xs : List Int) {x : Nat} (hx : x < n) : fn (trnL n xs) x = fn xs ((n - x) % n) := by
  show rdI _ _ = rdI _ _
  unfold trnL
  rw [rdI_map hx]
  congr 1
  rw [Int.natCast_emod]; congr 1; omega
theorem spec_mov {n : Nat} (h : 2 ≤ n) (h' : n ≤ 16) {t : Nat} (ht : t < n) (xs : List Int) {k : Nat} (hk : k < n) : fn (turnL (qOf n) (wOf n) n (movL n (t : Int) xs)) k = fn (turnL (qOf n) (wOf n) n xs) k * Wn n (k * t) % qOf n := by
  rw [spec_Fo _ hk, spec_Fo _ hk, Fo_congr (fun x hx => mov_at ht xs hx) k, moved (root h h') (fn xs) ht k]
  exact cg_mul (Int.emod_emod_of_dvd _ (Int.dvd_refl _)).symm rfl
theorem spec_trn {n : Nat} (h : 2 ≤ n) (h' : n ≤ 16) (xs : List Int) {k : Nat} (hk : k < n) : fn (turnL (qOf n) (wOf n) n (trnL n xs)) k = fn (turnL (qOf n) (wOf n) n xs) ((n - k) % n) := by
  rw [spec_Fo _ hk, spec_Fo _ (Nat.mod_lt _ (by omega)), Fo_congr (fun x hx => trn_at xs hx) k, turned (root h h') (fn xs) hk]
theorem pow_mov {n : Nat} (h : 2 ≤ n) (h' : n ≤ 16) {t : Nat} (ht : t < n) (xs : List Int) : powL (qOf n) (wOf n) n (movL n (t : Int) xs) = powL (qOf n) (wOf n) n xs := by
  have R := root h h'
  have hq := q_facts h h'
  refine rdI_ext (by simp [powL]) fun k hkl => ?_
  have hk : k < n := by simpa [powL] using hkl
  show fn _ k = fn _ k
  rw [pow_at _ hk, pow_at _ hk]
  have e : ∀ j, Fo n (Wn n) (fn (movL n (t : Int) xs)) j % qOf n = Fo n (Wn n) (fn xs) j * Wn n (j * t) % qOf n := fun j => by
    rw [Fo_congr (fun x hx => mov_at ht xs hx) j, moved R (fn xs) ht j]
  rw [cg_mul (e k) (e ((n - k) % n))]
  have e2 : Wn n (k * t) * Wn n ((n - k) % n * t) % qOf n = 1 % qOf n := by
    rw [R.mul, R.per _ 0, R.one]
    rw [Nat.add_mod, Nat.mul_mod ((n - k) % n), Nat.mod_mod, ← Nat.mul_mod, ← Nat.add_mod, ← Nat.add_mul, show k + (n - k) = n by omega, Nat.mul_mod_right, Nat.zero_mod]
  have e3 : Fo n (Wn n) (fn xs) k * Wn n (k * t) * (Fo n (Wn n) (fn xs) ((n - k) % n) * Wn n ((n - k) % n * t)) = Fo n (Wn n) (fn xs) k * Fo n (Wn n) (fn xs) ((n - k) % n) * (Wn n (k * t) * Wn n ((n - k) % n * t)) := by
    rw [Int.mul_assoc, Int.mul_assoc]; congr 1; rw [← Int.mul_assoc, ← Int.mul_assoc]; congr 1; exact Int.mul_comm _ _
  rw [e3, cg_mul rfl e2, Int.mul_one]
theorem pow_trn {n : Nat} (h : 2 ≤ n) (h' : n ≤ 16) (xs : List Int) : powL (qOf n) (wOf n) n (trnL n xs) = powL (qOf n) (wOf n) n xs := by
  have R := root h h'
  refine rdI_ext (by simp [powL]) fun k hkl => ?_
  have hk : k < n := by simpa [powL] using hkl
  show fn _ k = fn _ k
  rw [pow_at _ hk, pow_at _ hk]
  have e : ∀ j, j < n → Fo n (Wn n) (fn (trnL n xs)) j = Fo n (Wn n) (fn xs) ((n - j) % n) := fun j hj => by
    rw [Fo_congr (fun x hx => trn_at xs hx) j, turned R (fn xs) hj]
  have hm := Nat.mod_lt (n - k) (show 0 < n by omega)
  rw [e k hk, e _ hm, Int.mul_comm, ← (neg_iff hk hm).1 rfl]
/-- w to the power of m, step by step. -/
def vst (q w v : Int) : Nat → Int
  | 0 => v
  | m + 1 => vst q w v m * w % q
theorem vst_pw {q w v : Int} (hq : 2 ≤ q) : ∀ m : Nat, vst q w v m % q = v * pw q w m % q
  | 0 => by simp [vst, pw]
  | m + 1 => by
    simp only [vst, pw]
    rw [Int.emod_emod_of_dvd _ (Int.dvd_refl _), Int.mul_emod, vst_pw hq m, ← Int.mul_emod, Int.mul_assoc]
    exact cg_mul rfl (Int.emod_emod_of_dvd _ (Int.dvd_refl _)).symm
theorem vst_range {q w v : Int} (hq : 2 ≤ q) (h0 : 0 ≤ v) (h1 : v < q) (m : Nat) : 0 ≤ vst q w v m ∧ vst q w v m < q := by
  cases m with
  | zero => exact ⟨h0, h1⟩
  | succ m => exact ⟨Int.emod_nonneg _ (by omega), Int.emod_lt_of_pos _ (by omega)⟩
theorem pw_add (q w : Int) (a : Nat) : ∀ b : Nat, pw q w (a + b) % q = pw q w a * pw q w b % q
  | 0 => by simp [pw]
  | b + 1 => by
    show pw q w (a + b) * w % q % q = pw q w a * (pw q w b * w % q) % q
    rw [Int.emod_emod_of_dvd _ (Int.dvd_refl _), Int.mul_emod, pw_add q w a b, ← Int.mul_emod, Int.mul_assoc]
    exact cg_mul rfl (Int.emod_emod_of_dvd _ (Int.dvd_refl _)).symm
theorem pw_n : ∀ n ∈ List.range 17, 2 ≤ n → pw (qOf n) (wOf n) n = 1 := by decide +kernel
theorem pw_mod {n : Nat} (h : 2 ≤ n) (h' : n ≤ 16) (m : Nat) : pw (qOf n) (wOf n) m % qOf n = Wn n m % qOf n := by
  have hn := pw_n n (List.mem_range.2 (by omega)) h
  have key : ∀ c r : Nat, pw (qOf n) (wOf n) (n * c + r) % qOf n = pw (qOf n) (wOf n) r % qOf n := by
    intro c r
    induction c with
    | zero => simp
    | succ c ih =>
      rw [show n * (c + 1) + r = n + (n * c + r) by rw [Nat.mul_succ]; omega, pw_add, hn, Int.one_mul, ih]
  have := key (m / n) (m % n)
  rw [Nat.div_add_mod] at this
  exact this
theorem vst_spec {n : Nat} (h : 2 ≤ n) (h' : n ≤ 16) {t : Nat} (ht : t < n) (xs : List Int) {k : Nat} (hk : k < n) : fn (turnL (qOf n) (wOf n) n (movL n (t : Int) xs)) k = vst (qOf n) (wOf n) (fn (turnL (qOf n) (wOf n) n xs) k) (k * t) := by
  have hq := q_facts h h'
  have hr := at_range turnL_len (turnL_range' h h' (wOf n) xs) (i := (k : Int)) (by omega) (by omega)
  have h1 := vst_range (w := wOf n) (show 2 ≤ qOf n by omega) hr.1 hr.2 (k * t)
  rw [spec_mov h h' ht xs hk, ← Int.emod_eq_of_lt h1.1 h1.2, vst_pw (by omega)]
  exact cg_mul rfl (pw_mod h h' _).symm
/-- Divided again. -/
theorem quo_tim {n : Nat} (h : 2 ≤ n) (h' : n ≤ 16) {xs ys : List Int} (h0 : (0 : Int) ∉ turnL (qOf n) (wOf n) n xs) : quoL (qOf n) (wOf n) n (timL (qOf n) n xs ys) xs = turnL (qOf n) (wOf n) n ys := by
  have hq := q_facts h h'
  refine rdI_ext (by rw [quoL_len, turnL_len]) fun k hk => ?_
  rw [quoL_len] at hk
  have h1 := spec_tim h h' xs ys hk
  simp only [fn] at h1
  have hx := at_range turnL_len (turnL_range' h h' (wOf n) xs) (i := (k : Int)) (by omega) (by omega)
  have hy := at_range turnL_len (turnL_range' h h' (wOf n) ys) (i := (k : Int)) (by omega) (by omega)
  have hne : rdI (turnL (qOf n) (wOf n) n xs) (k : Int) ≠ 0 := fun e => h0 (by rw [← e]; exact rdI_mem (by omega) (by rw [turnL_len]; omega))
  unfold quoL
  rw [rdI_map hk]
  show rdI _ _ * _ % _ = _
  rw [h1, cg_mul (Int.emod_emod_of_dvd _ (Int.dvd_refl _)) rfl, Int.mul_comm (rdI (turnL (qOf n) (wOf n) n xs) (k : Int)), Int.mul_assoc,
    cg_mul (a := rdI (turnL (qOf n) (wOf n) n ys) (k : Int)) (b := rdI (turnL (qOf n) (wOf n) n ys) (k : Int)) rfl ((inv_mul h h' (x := rdI (turnL (qOf n) (wOf n) n xs) (k : Int)) (by omega) hx.2).trans (Int.emod_eq_of_lt (by decide) (by omega)).symm), Int.mul_one]
  exact Int.emod_eq_of_lt hy.1 hy.2
theorem undone {n : Nat} (h : 2 ≤ n) (h' : n ≤ 16) {xs ys : List Int} (hy : okW n (qOf n) ys = true) (h0 : (0 : Int) ∉ turnL (qOf n) (wOf n) n xs) : backL (qOf n) (wOf n) n (quoL (qOf n) (wOf n) n (timL (qOf n) n xs ys) xs) = ys := by
  rw [quo_tim h h' h0, back_spec h h' hy]
def oneL (n k : Nat) : List Int := (List.replicate n 0).set ((k : Int)).toNat 1
theorem oneL_at {n k j : Nat} (hk : k < n) : rdI (oneL n k) (j : Int) = if k = j then 1 else 0 := by
  unfold oneL
  rw [rdI_set (by simpa using hk), rdI_replicate]
theorem oneL_ok {n k : Nat} (h : 2 ≤ n) (h' : n ≤ 16) (hk : k < n) : okW n (qOf n) (oneL n k) = true := by
  have hq := q_facts h h'
  refine okW_true.2 ⟨by simp [oneL], fun x hx => ?_⟩
  obtain ⟨j, hj, rfl⟩ := List.getElem_of_mem hx
  rw [← rdI_getElem hj, oneL_at hk]
  split <;> omega
theorem zero_ok {n : Nat} (h : 2 ≤ n) (h' : n ≤ 16) : okW n (qOf n) (List.replicate n 0) = true := by
  have hq := q_facts h h'
  exact okW_true.2 ⟨by simp, fun x hx => by rw [List.eq_of_mem_replicate hx]; omega⟩
theorem spec_zero {n : Nat} (h : 2 ≤ n) {k : Nat} (hk : k < n) : fn (turnL (qOf n) (wOf n) n (List.replicate n 0)) k = 0 := by
  rw [spec_Fo _ hk, Fo_congr (g := fun _ => 0) (fun x _ => rdI_replicate) k]
  unfold Fo
  rw [Sm_congr (g := fun _ => 0) fun x _ => Int.zero_mul _, Sm_zero, Int.zero_emod]
theorem back_one_ne {n k : Nat} (h : 2 ≤ n) (h' : n ≤ 16) (hk : k < n) : backL (qOf n) (wOf n) n (oneL n k) ≠ List.replicate n 0 := fun e => by
  have h1 := spec_back h h' (oneL_ok h h' hk) hk
  rw [e, spec_zero h hk] at h1
  simp only [fn] at h1
  rw [oneL_at hk, if_pos rfl] at h1
  cases h1
theorem tim_one {n k : Nat} (h : 2 ≤ n) (h' : n ≤ 16) (hk : k < n) {xs : List Int} (h0 : rdI (turnL (qOf n) (wOf n) n xs) (k : Int) = 0) : timL (qOf n) n xs (backL (qOf n) (wOf n) n (oneL n k)) = List.replicate n 0 := by
  refine spec_inj h h' (timL_ok h h') (zero_ok h h') fun j hj => ?_
  rw [spec_tim h h' _ _ hj, spec_back h h' (oneL_ok h h' hk) hj, spec_zero h hj]
  simp only [fn]
  rw [oneL_at hk]
  split
  · rename_i c; subst c; rw [h0, Int.zero_mul, Int.zero_emod]
  · rw [Int.mul_zero, Int.zero_emod]
theorem ixI_in {xs : List Int} {x : Int} (h : x ∈ xs) : ∃ k : Nat, ixI xs x = k ∧ k < xs.length ∧ rdI xs (k : Int) = x := by
  unfold ixI
  cases e : xs.findIdx? (fun y => decide (x = y)) with
  | some i =>
    obtain ⟨hi, hp, _⟩ := List.findIdx?_eq_some_iff_getElem.1 e
    exact ⟨i, rfl, hi, by rw [rdI_getElem hi]; exact (of_decide_eq_true hp).symm⟩
  | none => exact absurd (List.findIdx?_eq_none_iff.1 e x h) (by simp)
theorem ixI_out {xs : List Int} {x : Int} (h : x ∉ xs) : ixI xs x = -1 := ixI_none fun j hj e => h (by rw [e]; exact rdI_mem (by omega) (by omega))
theorem kOf_nat {n t : Nat} (ht : t < n) : kOf n (t : Int) = t := by
  unfold kOf
  rw [Int.tmod_eq_emod_of_nonneg (by omega), Int.emod_add_emod, Int.add_emod_right, Int.emod_eq_of_lt (by omega) (by omega)]
end Go.Wh
