/-
  append of a slice that may be empty. A plain theorem over whatever program.
-/
import Derived.Test.YtghmjnbpkobooaaGreatDoorB9
set_option linter.unusedVariables false
set_option linter.unusedSimpArgs false
namespace Go.Proofs.YtghmjnbpkobooaaGreatDoor
open Go Go.RowKit

section
variable {P : Program} {B : World} {I : Im} {L : List (Nat × Obj)} {n : Nat} {m : Sl} {w : World} {X : Sl → World → Prop} {Q : List PanicEntry → World → Prop}
variable {d : Nat} {t ty : TypeId} {pos : String} {aft : Array Edge} {gd : Option (Nat × Bool)} {x y : Operand}
theorem ow_append0 {e : TypeId} {sz : Nat} {ag : Bool} {z : Value} {by_ : Nat} (ht : P.underlying t = some (.slice e)) (he : Ty P e sz ag z by_) {a : Addr} {A : Option Addr} {c cap : Nat}
    (hs : ev n m x = .slice (some a) 0 cap) (hy : ev n m y = .slice A 0 c) (h : X ((d, .slice (some a) 0 cap) :: m) w) : Ow P n ⟨some d, .call { callee := .builtin .append, args := #[x, y], argTypes := #[t, t] }, ty, pos, aft, gd⟩ X Q m w := by
  obtain ⟨i, hi, hi1, hi2, hi3⟩ := he.parts
  have hrun : (Builtin.append_ #[t, t] ty #[.slice (some a) 0 cap, .slice A 0 c]).run P w = .ok (.slice (some a) 0 cap) w := by
    cases A <;> simp [Builtin.append_, run_underlying ht, sizeOf, typeInfo, hi, Builtin.lenOf, Builtin.firstCells, loadCells, loadCellsFrom, storeCells]
  refine ow_val (v := .slice (some a) 0 cap) (w' := w) ?_ h
  simp [execOp, resolve, invoke, builtin, Sem.run_bind, Result.andThen, hs, hy, hrun]
/-- append([]T{}, l...): the fresh block may be left for another. -/
theorem ow_appendF {α : Type} {enc : α → List Dat} {l : List α} {e : TypeId} {sz : Nat} {ag : Bool} {z : Value} {by_ : Nat} (ht : P.underlying t = some (.slice e)) (he : Ty P e sz ag z by_) (hzs : Nat.beq z.cells.size sz = true) (hpos : Nat.blt 0 sz = true) {g : Nat}
    (H : Hp B I w ((g, Ob [] e) :: L)) (hs : ev n m x = .slice (some ⟨g, 0, none⟩) 0 0) {A : Option Addr} {n' c : Nat} (hy : ev n m y = .slice A n' c) (hn : l.length = n') (hr : RepS enc I sz l (.slice A n' c)) (hpl : ∀ q ∈ l, (enc q).all plD = true)
    (hb : n' * by_ ≤ 140737488355328) (h63 : n' ≤ 9223372036854775807)
    (h : ∀ v' cs' w', Hp B I w' (rowL v' cs' e ++ L) → Acc I sz v' cs' (l.map enc) → X ((d, v') :: m) w') : Ow P n ⟨some d, .call { callee := .builtin .append, args := #[x, y], argTypes := #[t, t] }, ty, pos, aft, gd⟩ X Q m w := by
  have ha : Acc I sz (.slice (some ⟨g, 0, none⟩) 0 0) [] [] := .inr ⟨g, 0, rfl, Nat.le_refl _, Nat.zero_le _, by simp, fun j x hx => by simp at hx⟩
  by_cases h0 : l.length = 0
  · obtain rfl : l = [] := List.eq_nil_of_length_eq_zero h0
    obtain rfl : n' = 0 := by rw [← hn]; rfl
    exact ow_append0 ht he hs hy (h _ [] w H ha)
  · obtain ⟨b, o, hA⟩ := RepS.some_ (by rw [hn]; exact hr) (by omega)
    exact ow_appendS ht he hzs hpos [] (v := .slice (some ⟨g, 0, none⟩) 0 0) (cs := []) (xs := []) H ha hs hy hA hn hr hpl (by simpa using hb) (by simpa using h63) (fun v' cs' w' H' ha' => h v' cs' w' H' (by simpa using ha'))
end
end Go.Proofs.YtghmjnbpkobooaaGreatDoor
