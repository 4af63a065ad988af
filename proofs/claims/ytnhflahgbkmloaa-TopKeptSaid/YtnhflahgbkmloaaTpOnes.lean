/- How many bits of a small number are 1, by the library's way; operations on numbers without a sign; in the words of Sx. -/
import Derived.Test.YtnhflahgbkmloaaWhOth
namespace Go.Sx
open Go.RowKit
set_option linter.unusedVariables false
set_option linter.unusedSimpArgs false
theorem u64_nat {n : Nat} (h : n < 18446744073709551616) : IntKind.u64.wrap (n : Int) = n := by
  unfold IntKind.wrap
  simp [IntKind.bits, IntKind.signed]
  omega
section
variable {N : Nat} {ds : List Deferred} {l : List (Nat × Value)} {w0 w1 : World} {m : List (Nat × Obj)} {P : Program} {C : World → Prop}
variable {dst : Option Tmp} {ty : TypeId} {pos : String} {aft : Array Edge} {gd : Option (Nat × Bool)}
theorem y_shrU {x y t t' k} (i j : Nat) (hx : ev l x = some (.int .u64 (i : Int))) (hy : ev l y = some (.int k (j : Int))) (h : j ≤ 64) (hi : i < 18446744073709551616) : Yv P N ds l C ⟨dst, .binOp .shr t x y t', ty, pos, aft, gd⟩ (.int .u64 ((i >>> j : Nat) : Int)) :=
  y_bin hx hy guard_int fun w => by
    have h3 : ¬ (j : Int) < 0 := by omega
    have h4 : min j IntKind.u64.bits = j := by show min j 64 = _; omega
    have h5 : ((i : Int) / 2 ^ j) = ((i >>> j : Nat) : Int) := by rw [Nat.shiftRight_eq_div_pow, Int.natCast_ediv]; simp
    simp only [binOp, Op.shift, h3, if_false, Int.toNat_natCast, h4, Int.fdiv_eq_ediv_of_nonneg (i : Int) (show (0 : Int) ≤ 2 ^ j from Int.pow_nonneg (by decide)), h5]
    rfl
theorem y_andU {x y t t'} (i j : Nat) (hx : ev l x = some (.int .u64 (i : Int))) (hy : ev l y = some (.int .u64 (j : Int))) (hi : i < 18446744073709551616) (hj : j < 18446744073709551616) : Yv P N ds l C ⟨dst, .binOp .and t x y t', ty, pos, aft, gd⟩ (.int .u64 ((i &&& j : Nat) : Int)) :=
  y_bin hx hy guard_int fun w => by
    have e : (BitVec.ofInt 64 (i : Int) &&& BitVec.ofInt 64 (j : Int)).toNat = i &&& j := by
      rw [BitVec.toNat_and, BitVec.ofInt_natCast, BitVec.ofInt_natCast, BitVec.toNat_ofNat, BitVec.toNat_ofNat, Nat.mod_eq_of_lt (by omega), Nat.mod_eq_of_lt (by omega)]
    have hlt : i &&& j ≤ i := Nat.and_le_left
    simp only [binOp, Op.intBits, ne_eq, not_true, if_false]
    show Sem.run P (pure (Value.int .u64 (IntKind.u64.wrap ((BitVec.ofInt 64 (i : Int) &&& BitVec.ofInt 64 (j : Int)).toNat : Int)))) w = _
    rw [e, u64_nat (by omega)]; rfl
theorem y_addU {x y t t'} (i j : Nat) (hx : ev l x = some (.int .u64 (i : Int))) (hy : ev l y = some (.int .u64 (j : Int))) (h : i + j < 18446744073709551616) : Yv P N ds l C ⟨dst, .binOp .add t x y t', ty, pos, aft, gd⟩ (.int .u64 ((i + j : Nat) : Int)) :=
  y_bin hx hy guard_int fun w => (show (binOp .add t (.int .u64 (i : Int)) (.int .u64 (j : Int))).run P w = .ok (.int .u64 (IntKind.u64.wrap ((i : Int) + (j : Int)))) w from rfl).trans (by rw [show (i : Int) + (j : Int) = ((i + j : Nat) : Int) by omega, u64_nat h])
/-! ### numbers that are not negative, as such -/
theorem y_shlN {x y t t' k X Y} (i j : Nat) (hx : ev l x = some (.int .i64 X)) (hy : ev l y = some (.int k Y)) (hX : X = (i : Int)) (hY : Y = (j : Int)) (h : j ≤ 62) (hb : i <<< j < 9223372036854775808) : Yv P N ds l C ⟨dst, .binOp .shl t x y t', ty, pos, aft, gd⟩ (.int .i64 ((i <<< j : Nat) : Int)) := by
  subst hX hY
  exact y_bin hx hy guard_int fun w => by
    have h3 : ¬ (j : Int) < 0 := by omega
    have h4 : min j IntKind.i64.bits = j := by show min j 64 = _; omega
    have h5 : (i : Int) * 2 ^ j = ((i <<< j : Nat) : Int) := by rw [Nat.shiftLeft_eq]; simp
    simp only [binOp, Op.shift, h3, if_false, Int.toNat_natCast, h4, h5]
    show Sem.run P (pure (Value.int .i64 (IntKind.i64.wrap ((i <<< j : Nat) : Int)))) w = _
    clear h5
    generalize i <<< j = z at hb ⊢
    rw [i64_eq (by omega) (by omega)]; rfl
theorem y_shrN {x y t t' k X Y} (i j : Nat) (hx : ev l x = some (.int .i64 X)) (hy : ev l y = some (.int k Y)) (hX : X = (i : Int)) (hY : Y = (j : Int)) (h : j ≤ 64) : Yv P N ds l C ⟨dst, .binOp .shr t x y t', ty, pos, aft, gd⟩ (.int .i64 ((i >>> j : Nat) : Int)) := by
  subst hX hY
  exact y_bin hx hy guard_int fun w => by
    have h3 : ¬ (j : Int) < 0 := by omega
    have h4 : min j IntKind.i64.bits = j := by show min j 64 = _; omega
    have h5 : ((i : Int) / 2 ^ j) = ((i >>> j : Nat) : Int) := by rw [Nat.shiftRight_eq_div_pow, Int.natCast_ediv]; simp
    simp only [binOp, Op.shift, h3, if_false, Int.toNat_natCast, h4, Int.fdiv_eq_ediv_of_nonneg (i : Int) (show (0 : Int) ≤ 2 ^ j from Int.pow_nonneg (by decide)), h5]
    rfl
theorem y_orN {x y t t' X Y} (i j : Nat) (hx : ev l x = some (.int .i64 X)) (hy : ev l y = some (.int .i64 Y)) (hX : X = (i : Int)) (hY : Y = (j : Int)) (hi : i < 4611686018427387904) (hj : j < 4611686018427387904) : Yv P N ds l C ⟨dst, .binOp .or t x y t', ty, pos, aft, gd⟩ (.int .i64 ((i ||| j : Nat) : Int)) := by
  subst hX hY
  have h := y_or (P := P) (N := N) (ds := ds) (l := l) (C := C) (dst := dst) (ty := ty) (pos := pos) (aft := aft) (gd := gd) (t := t) (t' := t') hx hy ⟨by omega, by omega⟩ ⟨by omega, by omega⟩
  simpa only [Int.toNat_natCast] using h
theorem y_andN {x y t t' X Y} (i j : Nat) (hx : ev l x = some (.int .i64 X)) (hy : ev l y = some (.int .i64 Y)) (hX : X = (i : Int)) (hY : Y = (j : Int)) (hi : i < 4611686018427387904) (hj : j < 4611686018427387904) : Yv P N ds l C ⟨dst, .binOp .and t x y t', ty, pos, aft, gd⟩ (.int .i64 ((i &&& j : Nat) : Int)) := by
  subst hX hY
  have h := y_and (P := P) (N := N) (ds := ds) (l := l) (C := C) (dst := dst) (ty := ty) (pos := pos) (aft := aft) (gd := gd) (t := t) (t' := t') hx hy ⟨by omega, by omega⟩ ⟨by omega, by omega⟩
  simpa only [Int.toNat_natCast] using h
end
end Go.Sx
namespace Go.Wh
open Go.Sx Go.Dft
def oA (x : Nat) : Nat := (x >>> 1 &&& 6148914691236517205) + (x &&& 6148914691236517205)
def oB (x : Nat) : Nat := (oA x >>> 2 &&& 3689348814741910323) + (oA x &&& 3689348814741910323)
def oC (x : Nat) : Nat := ((oB x >>> 4) + oB x) &&& 1085102592571150095
def oD (x : Nat) : Nat := oC x + oC x >>> 8
def oE (x : Nat) : Nat := oD x + oD x >>> 16
def oF (x : Nat) : Nat := oE x + oE x >>> 32
def p16 (x : Nat) : Nat := x % 2 + x / 2 % 2 + x / 4 % 2 + x / 8 % 2 + x / 16 % 2 + x / 32 % 2 + x / 64 % 2 + x / 128 % 2 + x / 256 % 2 + x / 512 % 2 + x / 1024 % 2 + x / 2048 % 2 + x / 4096 % 2 + x / 8192 % 2 + x / 16384 % 2 + x / 32768 % 2
theorem p16_bs (x : Nat) : bs 16 x = p16 x := by
  simp only [bs, p16, Nat.div_div_eq_div_mul, Nat.reduceMul, Nat.add_zero, Nat.add_assoc]
def oOk (x : Nat) : Bool := Nat.beq (p16 x) (oF x &&& 127)
def oAll : Nat → Nat → Bool
  | 0, x => oOk x
  | k + 1, x => oAll k x && oAll k (x + 2 ^ k)
theorem oAll_ok : ∀ (k x y : Nat), oAll k x = true → x ≤ y → y < x + 2 ^ k → oOk y = true
  | 0, x, y, h, h1, h2 => by rw [show y = x by simp at h2; omega]; exact h
  | k + 1, x, y, h, h1, h2 => by
    simp only [oAll, Bool.and_eq_true] at h
    rw [Nat.pow_succ] at h2
    rcases Nat.lt_or_ge y (x + 2 ^ k) with h3 | h3
    · exact oAll_ok k x y h.1 h1 h3
    · exact oAll_ok k _ y h.2 h3 (by omega)
theorem ones_all : oAll 16 0 = true := by decide +kernel
theorem ones_bs {x : Nat} (h : x < 65536) : oF x &&& 127 = bs 16 x := by
  have h2 := oAll_ok 16 0 x ones_all (Nat.zero_le _) (by simpa using h)
  rw [p16_bs]; exact (Nat.eq_of_beq_eq_true h2).symm
theorem ones_small {x : Nat} (h : x < 65536) : oA x < 200000 ∧ oB x < 1000000 ∧ oC x < 3000000 ∧ oD x < 6000000 ∧ oE x < 12000000 ∧ oF x < 24000000 := by
  have r : ∀ a b : Nat, a >>> b ≤ a := fun a b => by rw [Nat.shiftRight_eq_div_pow]; exact Nat.div_le_self _ _
  have a1 : x >>> 1 &&& 6148914691236517205 ≤ x >>> 1 := Nat.and_le_left
  have a2 : x &&& 6148914691236517205 ≤ x := Nat.and_le_left
  have a3 := r x 1
  have hA : oA x < 200000 := by unfold oA; omega
  have b1 : oA x >>> 2 &&& 3689348814741910323 ≤ oA x >>> 2 := Nat.and_le_left
  have b2 : oA x &&& 3689348814741910323 ≤ oA x := Nat.and_le_left
  have b3 := r (oA x) 2
  have hB : oB x < 1000000 := by unfold oB; omega
  have c1 : ((oB x >>> 4) + oB x) &&& 1085102592571150095 ≤ (oB x >>> 4) + oB x := Nat.and_le_left
  have c3 := r (oB x) 4
  have hC : oC x < 3000000 := by unfold oC; omega
  have d3 := r (oC x) 8
  have hD : oD x < 6000000 := by unfold oD; omega
  have e3 := r (oD x) 16
  have hE : oE x < 12000000 := by unfold oE; omega
  have f3 := r (oE x) 32
  exact ⟨hA, hB, hC, hD, hE, by unfold oF; omega⟩
theorem bs_ext {n m : Nat} (h : m < 2 ^ n) : ∀ k, n ≤ k → bs k m = bs n m := by
  induction n generalizing m with
  | zero => intro k _; rw [show m = 0 by simpa using h, bs_zero, bs_zero]
  | succ n ih =>
    intro k hk
    obtain ⟨k, rfl⟩ : ∃ j, k = j + 1 := ⟨k - 1, by omega⟩
    simp only [bs]
    rw [ih (by rw [Nat.pow_succ] at h; omega) k (by omega)]
end Go.Wh
