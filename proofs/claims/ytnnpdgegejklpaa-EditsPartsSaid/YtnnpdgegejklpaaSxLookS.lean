/- A map looked into, where what it holds is known; in the words of Sx. -/
import Derived.Test.YtnnpdgegejklpaaSxMapG
namespace Go.Sx
open Go.RowKit Go.WideMaps Go.WideElems
set_option linter.unusedVariables false
set_option linter.unusedSimpArgs false
section
variable {N : Nat} {ds : List Deferred} {l : List (Nat × Value)} {w0 w1 : World} {m : List (Nat × Obj)} {P : Program} {ro : Option Nat} {C : World → Prop}
variable {dst : Option Tmp} {ty : TypeId} {pos : String} {aft : Array Edge} {gd : Option (Nat × Bool)} {t K E : TypeId} {es : Array MapEntry} {clock b : Nat} {κ : Type} [DecidableEq κ] {kenc : κ → Value} {kok : κ → Prop} {z : Value} {F : κ → Option Value}
theorem y_lookS {xm xk : Operand} {k : κ} {kvl v : Value} (hF : F k = some v) (PM : KeyG P t K E kenc kok z) (M : MapG kenc kok es F) (hm : ∀ w, C w → w.heap[b]? = some (.map es clock)) (hx : ev l xm = some (.map (some b))) (hk : ev l xk = some kvl) (he : kvl = kenc k) (hok : kok k) :
    Yv P N ds l C ⟨dst, .lookup t xm xk true, ty, pos, aft, gd⟩ (.tuple #[v, .bool true]) := by
  have h := y_lookG2 (P := P) (N := N) (ds := ds) (l := l) (C := C) (dst := dst) (ty := ty) (pos := pos) (aft := aft) (gd := gd) PM M hm hx hk he hok
  rw [hF] at h; exact h
theorem y_lookN {xm xk : Operand} {k : κ} {kvl : Value} (hF : F k = none) (PM : KeyG P t K E kenc kok z) (M : MapG kenc kok es F) (hm : ∀ w, C w → w.heap[b]? = some (.map es clock)) (hx : ev l xm = some (.map (some b))) (hk : ev l xk = some kvl) (he : kvl = kenc k) (hok : kok k) :
    Yv P N ds l C ⟨dst, .lookup t xm xk true, ty, pos, aft, gd⟩ (.tuple #[z, .bool false]) := by
  have h := y_lookG2 (P := P) (N := N) (ds := ds) (l := l) (C := C) (dst := dst) (ty := ty) (pos := pos) (aft := aft) (gd := gd) PM M hm hx hk he hok
  rw [hF] at h; exact h
theorem g_perm' {X : Act → World → Prop} {m' : List (Nat × Obj)} (hp : m'.Perm m) (h : G N ds l w0 w1 m' X) : G N ds l w0 w1 m X := fun a w ha hw => h a w ha ⟨hw.toHq.perm hp.symm, hw.marks⟩
end
end Go.Sx
