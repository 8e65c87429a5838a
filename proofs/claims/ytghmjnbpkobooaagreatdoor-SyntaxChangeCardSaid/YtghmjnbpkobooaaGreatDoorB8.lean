/-
  Further operations: truth compared, remainders, quotients, conversions of numbers. Plain theorems over whatever program.
-/
import Derived.Test.YtghmjnbpkobooaaGreatDoorB7
import Derived.Laws.Small
set_option linter.unusedVariables false
set_option linter.unusedSimpArgs false
namespace Go.Proofs.YtghmjnbpkobooaaGreatDoor
open Go Go.RowKit

section
variable {P : Program} {B : World} {I : Im} {L : List (Nat × Obj)} {n : Nat} {m : Sl} {w : World} {X : Sl → World → Prop} {Q : List PanicEntry → World → Prop}
variable {d : Nat} {t ty : TypeId} {pos : String} {aft : Array Edge} {gd : Option (Nat × Bool)} {x y : Operand}
theorem ow_beq {a c : Bool} {t' : TypeId} (ht : P.underlying t = some .bool) (hx : ev n m x = .bool a) (hy : ev n m y = .bool c) (h : X ((d, .bool (decide (a = c))) :: m) w) : Ow P n ⟨some d, .binOp .eql t x y t', ty, pos, aft, gd⟩ X Q m w :=
  ow_val (v := .bool (decide (a = c))) (w' := w) (by
    have e : (a == c) = decide (a = c) := by cases a <;> cases c <;> rfl
    simp [execOp, eqGuard, binOp, hx, hy, Sem.run_bind, Result.andThen, run_equal_bool w t a c ht, e]) h
theorem ow_bne {a c : Bool} {t' : TypeId} (ht : P.underlying t = some .bool) (hx : ev n m x = .bool a) (hy : ev n m y = .bool c) (h : X ((d, .bool (!decide (a = c))) :: m) w) : Ow P n ⟨some d, .binOp .neq t x y t', ty, pos, aft, gd⟩ X Q m w :=
  ow_val (v := .bool (!decide (a = c))) (w' := w) (by
    have e : (a == c) = decide (a = c) := by cases a <;> cases c <;> rfl
    simp [execOp, eqGuard, binOp, hx, hy, Sem.run_bind, Result.andThen, run_equal_bool w t a c ht, e]) h
theorem ow_rem {k : IntKind} {a c r : Int} {t' : TypeId} (hx : ev n m x = .int k a) (hy : ev n m y = .int k c) (hc : c ≠ 0) (hr : a.tmod c = r) (h : X ((d, .int k r) :: m) w) : Ow P n ⟨some d, .binOp .rem t x y t', ty, pos, aft, gd⟩ X Q m w :=
  ow_val (v := .int k r) (w' := w) (by simp [execOp, eqGuard, binOp, Op.intDiv, hx, hy, hr, hc, Sem.run_bind, Result.andThen]) h
theorem ow_quo {k : IntKind} {a c r : Int} {t' : TypeId} (hx : ev n m x = .int k a) (hy : ev n m y = .int k c) (hc : c ≠ 0) (hr : k.wrap (a.tdiv c) = r) (h : X ((d, .int k r) :: m) w) : Ow P n ⟨some d, .binOp .quo t x y t', ty, pos, aft, gd⟩ X Q m w :=
  ow_val (v := .int k r) (w' := w) (by simp [execOp, eqGuard, binOp, Op.intDiv, hx, hy, hr, hc, Sem.run_bind, Result.andThen]) h
theorem ow_conv {src dst : TypeId} {cm : Bool} {D : TypeDesc} {k k' : IntKind} {a r : Int} (hs : P.underlying src = some D) (hd : P.underlying dst = some (.int k)) (hx : ev n m x = .int k' a) (hr : k.wrap a = r) (h : X ((d, .int k r) :: m) w) : Ow P n ⟨some d, .convert src dst x, ty, pos, aft, gd⟩ X Q m w :=
  ow_val (v := .int k r) (w' := w) (by simp [execOp, convert, underlying, program, Sem.run, Conv.intToInt, hx, hs, hd, hr, Sem.run_bind, Result.andThen]) h
end
end Go.Proofs.YtghmjnbpkobooaaGreatDoor
