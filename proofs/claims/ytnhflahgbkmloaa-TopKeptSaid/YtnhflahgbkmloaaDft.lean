/- Finite sums, and sums of powers of a root: plain mathematics, nothing of the program. -/
import Init
namespace Go.Dft

def Sm (f : Nat → Int) : Nat → Int
  | 0 => 0
  | k + 1 => Sm f k + f k
theorem Sm_congr {f g : Nat → Int} : ∀ {n : Nat}, (∀ k, k < n → f k = g k) → Sm f n = Sm g n
  | 0, _ => rfl
  | n + 1, h => by simp only [Sm]; rw [Sm_congr (n := n) fun k hk => h k (by omega), h n (by omega)]
theorem Sm_cg {q : Int} {f g : Nat → Int} : ∀ {n : Nat}, (∀ k, k < n → f k % q = g k % q) → Sm f n % q = Sm g n % q
  | 0, _ => rfl
  | n + 1, h => by
    simp only [Sm]
    rw [Int.add_emod, Sm_cg (n := n) fun k hk => h k (by omega), h n (by omega), ← Int.add_emod]
theorem Sm_range {f : Nat → Int} {c : Int} : ∀ {n : Nat}, (∀ k, k < n → 0 ≤ f k ∧ f k ≤ c) → 0 ≤ Sm f n ∧ Sm f n ≤ n * c
  | 0, _ => ⟨Int.le_refl _, by simp [Sm]⟩
  | n + 1, h => by
    have h1 := Sm_range (n := n) fun k hk => h k (by omega)
    have h2 := h n (by omega)
    have h3 : ((n + 1 : Nat) : Int) * c = n * c + c := by rw [Int.natCast_add, Int.add_mul]; simp
    simp only [Sm]; omega
theorem Sm_zero : ∀ n : Nat, Sm (fun _ => 0) n = 0
  | 0 => rfl
  | n + 1 => by simp [Sm, Sm_zero n]
theorem Sm_add (f g : Nat → Int) : ∀ n : Nat, Sm (fun k => f k + g k) n = Sm f n + Sm g n
  | 0 => rfl
  | n + 1 => by simp only [Sm]; rw [Sm_add f g n]; omega
theorem Sm_mul (c : Int) (f : Nat → Int) : ∀ n : Nat, Sm (fun k => c * f k) n = c * Sm f n
  | 0 => by simp [Sm]
  | n + 1 => by simp only [Sm]; rw [Sm_mul c f n, Int.mul_add]
theorem Sm_mulr (c : Int) (f : Nat → Int) (n : Nat) : Sm (fun k => f k * c) n = Sm f n * c := by
  rw [Int.mul_comm, ← Sm_mul]; exact Sm_congr fun k _ => Int.mul_comm _ _
theorem Sm_swap (f : Nat → Nat → Int) (m : Nat) : ∀ n : Nat, Sm (fun x => Sm (fun y => f x y) m) n = Sm (fun y => Sm (fun x => f x y) n) m
  | 0 => by simp [Sm, Sm_zero]
  | n + 1 => by simp only [Sm]; rw [Sm_swap f m n, Sm_add]
theorem Sm_single {p : Nat} (f : Nat → Int) : ∀ {n : Nat}, p < n → Sm (fun k => if k = p then f k else 0) n = f p
  | 0, h => by omega
  | n + 1, h => by
    simp only [Sm]
    by_cases c : n = p
    · subst c
      rw [if_pos rfl, Sm_congr (g := fun _ => 0) fun k hk => by rw [if_neg (by omega)], Sm_zero]; omega
    · rw [if_neg c, Sm_single f (n := n) (by omega)]; omega
/-- Exchanged by σ, with τ back. -/
theorem Sm_reindex {n : Nat} (σ τ : Nat → Nat) (f : Nat → Int) (hσ : ∀ x, x < n → σ x < n) (hτ : ∀ x, x < n → τ x < n) (h : ∀ x p, x < n → p < n → (p = σ x ↔ x = τ p)) : Sm (fun x => f (σ x)) n = Sm f n := by
  have h1 : Sm (fun x => f (σ x)) n = Sm (fun x => Sm (fun p => if p = σ x then f p else 0) n) n := Sm_congr fun x hx => (Sm_single f (hσ x hx)).symm
  rw [h1, Sm_swap]
  refine Sm_congr fun p hp => ?_
  have h2 : Sm (fun x => if p = σ x then f p else 0) n = Sm (fun x => if x = τ p then (fun _ => f p) x else 0) n := Sm_congr fun x hx => by
    by_cases c : p = σ x
    · rw [if_pos c, if_pos ((h x p hx hp).1 c)]
    · rw [if_neg c, if_neg fun e => c ((h x p hx hp).2 e)]
  rw [h2, Sm_single _ (hτ p hp)]

/-- A root's powers: W m depends on m modulo n. -/
structure Rt (q : Int) (n : Nat) (W : Nat → Int) : Prop where
  pos : 0 < n
  mul : ∀ a b, W a * W b % q = W (a + b) % q
  per : ∀ a b, a % n = b % n → W a = W b
  one : W 0 = 1
  orth : ∀ m, Sm (fun k => W (k * m)) n % q = (if m % n = 0 then (n : Int) else 0) % q
variable {q : Int} {n : Nat} {W : Nat → Int}
/-- A row's spectrum. -/
def Fo (n : Nat) (W : Nat → Int) (f : Nat → Int) (k : Nat) : Int := Sm (fun x => f x * W (k * x)) n
theorem cg_mul {a b c d : Int} (h : a % q = b % q) (h' : c % q = d % q) : a * c % q = b * d % q := by rw [Int.mul_emod, h, h', ← Int.mul_emod]
theorem cg_add {a b c d : Int} (h : a % q = b % q) (h' : c % q = d % q) : (a + c) % q = (b + d) % q := by rw [Int.add_emod, h, h', ← Int.add_emod]
theorem Fo_cg {f g : Nat → Int} (h : ∀ x, x < n → f x % q = g x % q) (k : Nat) : Fo n W f k % q = Fo n W g k % q := Sm_cg fun x hx => cg_mul (h x hx) rfl
theorem Fo_congr {f g : Nat → Int} (h : ∀ x, x < n → f x = g x) (k : Nat) : Fo n W f k = Fo n W g k := Sm_congr fun x hx => by rw [h x hx]
theorem Fo_add (f g : Nat → Int) (k : Nat) : Fo n W (fun x => f x + g x) k = Fo n W f k + Fo n W g k := by
  unfold Fo
  rw [← Sm_add]
  exact Sm_congr fun x _ => Int.add_mul _ _ _
theorem Fo_per (R : Rt q n W) (f : Nat → Int) {k k' : Nat} (h : k % n = k' % n) : Fo n W f k = Fo n W f k' := Sm_congr fun x _ => by
  rw [R.per (k * x) (k' * x) (by rw [Nat.mul_mod, h, ← Nat.mul_mod])]
/-- Two double sums' place. -/
theorem place {n x y : Nat} (_ : 0 < n) (hx : x < n) (hy : y < n) : (y + (n - x)) % n = 0 ↔ y = x := by
  constructor
  · intro h
    rcases Nat.lt_or_ge (y + (n - x)) n with h1 | h1
    · rw [Nat.mod_eq_of_lt h1] at h; omega
    · rw [Nat.mod_eq_sub_mod h1, Nat.mod_eq_of_lt (by omega)] at h; omega
  · rintro rfl
    rw [show y + (n - y) = n by omega, Nat.mod_self]
/-- Back. -/
theorem invert (R : Rt q n W) (f : Nat → Int) {x : Nat} (hx : x < n) : Sm (fun k => Fo n W f k * W (k * (n - x))) n % q = (n : Int) * f x % q := by
  have h1 : Sm (fun k => Fo n W f k * W (k * (n - x))) n = Sm (fun k => Sm (fun y => f y * W (k * y) * W (k * (n - x))) n) n := Sm_congr fun k _ => (Sm_mulr _ _ _).symm
  rw [h1, Sm_swap]
  have h2 : Sm (fun y => Sm (fun k => f y * W (k * y) * W (k * (n - x))) n) n % q = Sm (fun y => if y = x then (fun y => f y * (n : Int)) y else 0) n % q := by
    refine Sm_cg fun y hy => ?_
    have h3 : Sm (fun k => f y * W (k * y) * W (k * (n - x))) n % q = Sm (fun k => f y * W (k * (y + (n - x)))) n % q := Sm_cg fun k _ => by
      rw [Int.mul_assoc, Nat.mul_add]; exact cg_mul rfl (R.mul _ _)
    rw [h3, Sm_mul, cg_mul rfl (R.orth _)]
    by_cases c : y = x
    · rw [if_pos ((place R.pos hx hy).2 c), if_pos c]
    · rw [if_neg fun h => c ((place R.pos hx hy).1 h), if_neg c, Int.mul_zero]
  rw [h2, Sm_single _ hx, Int.mul_comm]
theorem sub_idx {n k : Nat} (hk : k < n) (x : Nat) : ((n - k) % n * x) % n = (k * (n - x % n)) % n := by
  have hn : 0 < n := by omega
  have hx := Nat.mod_lt x hn
  have h1 : ((n - k) % n * x) % n = ((n - k) * (x % n)) % n := by rw [Nat.mul_mod, Nat.mod_mod, ← Nat.mul_mod, Nat.mul_mod, Nat.mul_mod (n - k) (x % n), Nat.mod_mod]
  rw [h1]
  generalize x % n = y at *
  have e1 : (n - k) * y + k * y = n * y := by rw [← Nat.add_mul]; congr 1; omega
  have e2 : k * (n - y) + k * y = k * n := by rw [← Nat.mul_add]; congr 1; omega
  have a1 : (((n - k) * y : Nat) : Int) = (n : Int) * y - (k : Int) * y := by have : (((n - k) * y + k * y : Nat) : Int) = ((n * y : Nat) : Int) := by rw [e1]
                                                                              simp only [Int.natCast_add, Int.natCast_mul] at this ⊢; omega
  have a2 : ((k * (n - y) : Nat) : Int) = (k : Int) * n - (k : Int) * y := by have : ((k * (n - y) + k * y : Nat) : Int) = ((k * n : Nat) : Int) := by rw [e2]
                                                                              simp only [Int.natCast_add, Int.natCast_mul] at this ⊢; omega
  have h3 : (((n - k) * y : Nat) : Int) % (n : Int) = ((k * (n - y) : Nat) : Int) % (n : Int) := by
    rw [a1, a2, Int.sub_emod, Int.mul_emod_right, Int.sub_emod ((k : Int) * n), Int.mul_emod_left]
  omega
/-- The power sums to n times the squares' sum. -/
theorem parseval (R : Rt q n W) (f : Nat → Int) : Sm (fun k => Fo n W f k * Fo n W f ((n - k) % n)) n % q = (n : Int) * Sm (fun x => f x * f x) n % q := by
  have h1 : Sm (fun k => Fo n W f k * Fo n W f ((n - k) % n)) n = Sm (fun k => Sm (fun x => f x * (Fo n W f k * W (k * (n - x)))) n) n := Sm_congr fun k hk => by
    have h2 : Fo n W f ((n - k) % n) = Sm (fun x => f x * W (k * (n - x))) n := Sm_congr fun x hx => by
      rw [R.per _ _ (sub_idx hk x), Nat.mod_eq_of_lt hx]
    rw [h2, ← Sm_mul]
    exact Sm_congr fun x _ => by rw [← Int.mul_assoc, Int.mul_comm (Fo n W f k), Int.mul_assoc]
  rw [h1, Sm_swap]
  have h3 : Sm (fun x => Sm (fun k => f x * (Fo n W f k * W (k * (n - x)))) n) n % q = Sm (fun x => (n : Int) * (f x * f x)) n % q := Sm_cg fun x hx => by
    rw [Sm_mul, cg_mul rfl (invert R f hx), ← Int.mul_assoc, Int.mul_comm (f x), Int.mul_assoc]
  rw [h3, Sm_mul]
theorem shift_iff {n x p t : Nat} (hx : x < n) (hp : p < n) (ht : t < n) : p = (x + (n - t)) % n ↔ x = (p + t) % n := by
  constructor
  · rintro rfl
    rw [Nat.mod_add_mod, show x + (n - t) + t = x + n by omega, Nat.add_mod_right, Nat.mod_eq_of_lt hx]
  · rintro rfl
    rw [Nat.mod_add_mod, show p + t + (n - t) = p + n by omega, Nat.add_mod_right, Nat.mod_eq_of_lt hp]
/-- Moved by t. -/
theorem moved (R : Rt q n W) (f : Nat → Int) {t : Nat} (ht : t < n) (k : Nat) : Fo n W (fun x => f ((x + (n - t)) % n)) k % q = Fo n W f k * W (k * t) % q := by
  have h1 : Fo n W (fun x => f ((x + (n - t)) % n)) k = Sm (fun x => (fun p => f p * W (k * ((p + t) % n))) ((x + (n - t)) % n)) n := Sm_congr fun x hx => by
    show _ = f ((x + (n - t)) % n) * W (k * (((x + (n - t)) % n + t) % n))
    rw [← (shift_iff hx (Nat.mod_lt _ R.pos) ht).1 rfl]
  rw [h1.trans (Sm_reindex (fun x => (x + (n - t)) % n) (fun p => (p + t) % n) (fun p => f p * W (k * ((p + t) % n))) (fun _ _ => Nat.mod_lt _ R.pos) (fun _ _ => Nat.mod_lt _ R.pos) (fun x p hx hp => shift_iff hx hp ht))]
  unfold Fo
  rw [← Sm_mulr]
  refine Sm_cg fun p _ => ?_
  rw [R.per (k * ((p + t) % n)) (k * p + k * t) (by rw [Nat.mul_mod, Nat.mod_mod, ← Nat.mul_mod, Nat.mul_add]), Int.mul_assoc]
  exact cg_mul rfl (R.mul _ _).symm
theorem neg_iff {n x p : Nat} (hx : x < n) (hp : p < n) : p = (n - x) % n ↔ x = (n - p) % n := by
  by_cases c : x = 0
  · subst c
    rw [Nat.sub_zero, Nat.mod_self]
    constructor
    · rintro rfl; rw [Nat.sub_zero, Nat.mod_self]
    · intro h
      by_cases c : p = 0
      · exact c
      · rw [Nat.mod_eq_of_lt (by omega)] at h; omega
  · rw [Nat.mod_eq_of_lt (show n - x < n by omega)]
    constructor
    · rintro rfl; rw [Nat.mod_eq_of_lt (by omega)]; omega
    · intro h
      by_cases c' : p = 0
      · subst c'; rw [Nat.sub_zero, Nat.mod_self] at h; omega
      · rw [Nat.mod_eq_of_lt (by omega)] at h; omega
/-- Turned. -/
theorem turned (R : Rt q n W) (f : Nat → Int) {k : Nat} (hk : k < n) : Fo n W (fun x => f ((n - x) % n)) k = Fo n W f ((n - k) % n) := by
  have h1 : Fo n W (fun x => f ((n - x) % n)) k = Sm (fun x => (fun p => f p * W (k * ((n - p) % n))) ((n - x) % n)) n := Sm_congr fun x hx => by
    show _ = f ((n - x) % n) * W (k * ((n - (n - x) % n) % n))
    rw [← (neg_iff hx (Nat.mod_lt _ R.pos)).1 rfl]
  rw [h1.trans (Sm_reindex (fun x => (n - x) % n) (fun p => (n - p) % n) (fun p => f p * W (k * ((n - p) % n))) (fun _ _ => Nat.mod_lt _ R.pos) (fun _ _ => Nat.mod_lt _ R.pos) (fun x p hx hp => neg_iff hx hp))]
  refine Sm_congr fun p hp => ?_
  rw [R.per (k * ((n - p) % n)) ((n - k) % n * p) (by rw [sub_idx hk p, Nat.mod_eq_of_lt hp, Nat.mul_mod, Nat.mod_mod, ← Nat.mul_mod])]
def conv (n : Nat) (f g : Nat → Int) (x : Nat) : Int := Sm (fun y => f y * g ((x + (n - y)) % n)) n
theorem conv_comm (hn : 0 < n) (f g : Nat → Int) {x : Nat} (hx : x < n) : conv n f g x = conv n g f x := by
  have key : ∀ y p : Nat, y < n → p < n → (p = (x + (n - y)) % n ↔ y = (x + (n - p)) % n) := by
    intro y p hy hp
    have a : ∀ {a b : Nat}, a < n → b < n → a = (x + (n - b)) % n → b = (x + (n - a)) % n := by
      intro a b ha hb h
      have h2 := (shift_iff hx ha hb).1 h
      rw [Nat.add_comm a b] at h2
      exact (shift_iff hx hb ha).2 h2
    exact ⟨a hp hy, a hy hp⟩
  have h1 : conv n f g x = Sm (fun y => (fun p => f ((x + (n - p)) % n) * g p) ((x + (n - y)) % n)) n := Sm_congr fun y hy => by
    show _ = f ((x + (n - (x + (n - y)) % n)) % n) * g ((x + (n - y)) % n)
    rw [← (key y _ hy (Nat.mod_lt _ hn)).1 rfl]
  rw [h1.trans (Sm_reindex (fun y => (x + (n - y)) % n) (fun y => (x + (n - y)) % n) (fun p => f ((x + (n - p)) % n) * g p) (fun _ _ => Nat.mod_lt _ hn) (fun _ _ => Nat.mod_lt _ hn) key)]
  exact Sm_congr fun p _ => Int.mul_comm _ _
/-- The spectrum of a product. -/
theorem product (R : Rt q n W) (f g : Nat → Int) (k : Nat) : Fo n W (conv n f g) k % q = Fo n W f k * Fo n W g k % q := by
  have h1 : Fo n W (conv n f g) k = Sm (fun y => Sm (fun x => f y * (g ((x + (n - y)) % n) * W (k * x))) n) n := by
    rw [Sm_swap]
    refine Sm_congr fun x _ => ?_
    unfold conv
    rw [← Sm_mulr]
    exact Sm_congr fun y _ => by rw [Int.mul_assoc]
  rw [h1]
  have h2 : Sm (fun y => Sm (fun x => f y * (g ((x + (n - y)) % n) * W (k * x))) n) n % q = Sm (fun y => f y * W (k * y) * Fo n W g k) n % q := Sm_cg fun y hy => by
    have h3 := moved R g hy k
    unfold Fo at h3
    rw [Sm_mul, cg_mul rfl h3, Int.mul_assoc, Int.mul_comm (W (k * y))]; rfl
  rw [h2, Sm_mulr]; rfl
end Go.Dft
