/-
  A type switch: the interface holds another type. Plain theorems over whatever program.
-/
import Derived.Test.YtghmjnbpkobooaaGreatDoorB9
set_option linter.unusedVariables false
set_option linter.unusedSimpArgs false
namespace Go.Proofs.YtghmjnbpkobooaaGreatDoor
open Go Go.RowKit

section
variable {P : Program} {n : Nat} {m : Sl} {w : World} {X : Sl → World → Prop} {Q : List PanicEntry → World → Prop}
variable {d : Nat} {t ty : TypeId} {pos : String} {aft : Array Edge} {gd : Option (Nat × Bool)} {x y : Operand}
theorem ow_assertF {D : TypeDesc} (ht : P.underlying t = some D) (hD : plainT D = true) {sz : Nat} {ag : Bool} {z : Value} {by_ : Nat} (hT : Ty P t sz ag z by_) {u : TypeId} {v : Value} (hx : ev n m x = .iface u v) (hne : Nat.beq u t = false) {xt : TypeId} (h : X ((d, .tuple #[z, .bool false]) :: m) w) : Ow P n ⟨some d, .typeAssert x xt t true, ty, pos, aft, gd⟩ X Q m w :=
  ow_val (v := .tuple #[z, .bool false]) (w' := w) (by
    have hn : u ≠ t := fun e => by
      subst e
      rw [Nat.beq_refl] at hne
      cases hne
    have hz := hT.zero w
    cases D <;> first | (exfalso; revert hD; simp [plainT]; done) | simp [execOp, Instr.typeAssert, hx, hn, hz, Sem.run_bind, underlying, program, Sem.run, ht, Result.andThen]) h
end
section
variable {P : Program} {B : World} {I : Im} {L : List (Nat × Obj)} {n : Nat} {m : Sl} {w : World} {X : Sl → World → Prop} {Q : List PanicEntry → World → Prop}
variable {d : Nat} {t ty : TypeId} {pos : String} {aft : Array Edge} {gd : Option (Nat × Bool)} {x y : Operand}
theorem ow_appendE {e : TypeId} {sz : Nat} {ag : Bool} {z : Value} {by_ : Nat} (ht : P.underlying t = some (.slice e)) (he : Ty P e sz ag z by_) {A0 A : Option Addr} {l0 c0 c : Nat} (hle : l0 ≤ c0)
    (hs : ev n m x = .slice A0 l0 c0) (hy : ev n m y = .slice A 0 c) (h : X ((d, .slice A0 l0 c0) :: m) w) : Ow P n ⟨some d, .call { callee := .builtin .append, args := #[x, y], argTypes := #[t, t] }, ty, pos, aft, gd⟩ X Q m w := by
  obtain ⟨i, hi, hi1, hi2, hi3⟩ := he.parts
  have hrun : (Builtin.append_ #[t, t] ty #[.slice A0 l0 c0, .slice A 0 c]).run P w = .ok (.slice A0 l0 c0) w := by
    cases A0 <;> cases A <;> simp [Builtin.append_, run_underlying ht, sizeOf, typeInfo, hi, Builtin.lenOf, Builtin.firstCells, loadCells, loadCellsFrom, storeCells, hle]
  refine ow_val (v := .slice A0 l0 c0) (w' := w) ?_ h
  simp [execOp, resolve, invoke, builtin, Sem.run_bind, Result.andThen, hs, hy, hrun]
theorem Acc.le {sz : Nat} {v : Value} {cs : List Value} {xs : List (List Dat)} (ha : Acc I sz v cs xs) : ∃ A l c, v = .slice A l c ∧ l ≤ c := by
  rcases ha with ⟨rfl, _⟩ | ⟨g, cap, rfl, h1, _⟩
  · exact ⟨_, _, _, rfl, Nat.le_refl _⟩
  · exact ⟨_, _, _, rfl, h1⟩
/-- append(v, l...), l maybe empty. -/
theorem ow_appendG {α : Type} {enc : α → List Dat} {l : List α} {e : TypeId} {sz : Nat} {ag : Bool} {z : Value} {by_ : Nat} (ht : P.underlying t = some (.slice e)) (he : Ty P e sz ag z by_) (hzs : Nat.beq z.cells.size sz = true) (hpos : Nat.blt 0 sz = true) (pre : List (Nat × Obj)) {v : Value} {cs : List Value} {xs : List (List Dat)}
    (H : Hp B I w (pre ++ (rowL v cs e ++ L))) (ha : Acc I sz v cs xs) (hs : ev n m x = v) {A : Option Addr} {n' c : Nat} (hy : ev n m y = .slice A n' c) (hn : l.length = n') (hr : RepS enc I sz l (.slice A n' c)) (hpl : ∀ q ∈ l, (enc q).all plD = true)
    (hb : (xs.length + n') * by_ ≤ 140737488355328) (h63 : xs.length + n' ≤ 9223372036854775807)
    (h : ∀ v' cs' w', Hp B I w' (pre ++ (rowL v' cs' e ++ L)) → Acc I sz v' cs' (xs ++ l.map enc) → X ((d, v') :: m) w') : Ow P n ⟨some d, .call { callee := .builtin .append, args := #[x, y], argTypes := #[t, t] }, ty, pos, aft, gd⟩ X Q m w := by
  by_cases h0 : l.length = 0
  · obtain rfl : l = [] := List.eq_nil_of_length_eq_zero h0
    obtain rfl : n' = 0 := by rw [← hn]; rfl
    obtain ⟨A0, l0, c0, rfl, hle⟩ := ha.le
    exact ow_appendE ht he hle hs hy (h _ cs w H (by simpa using ha))
  · obtain ⟨b, o, hA⟩ := RepS.some_ (by rw [hn]; exact hr) (by omega)
    exact ow_appendS ht he hzs hpos pre H ha hs hy hA hn hr hpl hb h63 h
end
end Go.Proofs.YtghmjnbpkobooaaGreatDoor
