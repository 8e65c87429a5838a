/-
  Further operations: the check of a pointer, a made slice, a literal slice that is frozen. Plain theorems over whatever program.
-/
import Derived.Test.YtghmjnbpkobooaaGreatDoorB6
import Derived.Laws.MakeOwn
set_option linter.unusedVariables false
set_option linter.unusedSimpArgs false
namespace Go.Proofs.YtghmjnbpkobooaaGreatDoor
open Go Go.RowKit

section
variable {P : Program} {B : World} {I : Im} {L : List (Nat × Obj)} {n : Nat} {m : Sl} {w : World} {X : Sl → World → Prop} {Q : List PanicEntry → World → Prop}
variable {d : Nat} {t ty : TypeId} {pos : String} {aft : Array Edge} {gd : Option (Nat × Bool)} {x y : Operand}
theorem ow_nilCheck {a : Addr} (hx : ev n m x = .pointer (some a)) (h : X ((d, .pointer (some a)) :: m) w) : Ow P n ⟨some d, .nilCheck x, ty, pos, aft, gd⟩ X Q m w :=
  ow_val (v := .pointer (some a)) (w' := w) (by simp [execOp, hx]) h
theorem ow_makeSlice {e : TypeId} {sz : Nat} {ag : Bool} {z : Value} {by_ : Nat} (ht : P.underlying t = some (.slice e)) (he : Ty P e sz ag z by_) (H : Hp B I w L) {kl kc : IntKind} {l c : Nat} (hx : ev n m x = .int kl (l : Int)) (hy : ev n m y = .int kc (c : Int)) (hlc : l ≤ c) (hb : by_ * c ≤ 140737488355328) (h63 : c ≤ 9223372036854775807) (h16 : c * sz ≤ 16777216)
    (cs : List Value) (hcs : (madeCells z.cells (c * sz)).toList = cs) (h : ∀ g w', Hp B I w' ((g, Ob cs e) :: L) → X ((d, .slice (some ⟨g, 0, none⟩) l c) :: m) w') : Ow P n ⟨some d, .makeSlice t x y, ty, pos, aft, gd⟩ X Q m w := by
  obtain ⟨i, hi, h1, h2, h3⟩ := he.parts
  have hb2 : (i.bytes : Int) * (c : Int) ≤ 281474976710656 := by
    rw [h3]
    have e2 : ((by_ : Int)) * (c : Int) = ((by_ * c : Nat) : Int) := by simp
    rw [e2]
    omega
  have hr := run_makeSlice (P := P) (w := w) t e i z ht hi h2 kl kc (l : Int) (c : Int) (by omega) (by omega) (by rw [h1]; simpa using h16) hb2 (by omega)
  rw [h1] at hr
  simp only [Int.toNat_natCast] at hr
  refine ow_val (v := .slice (some ⟨w.heap.size, 0, none⟩) l c) (w' := w.alloc (Ob cs e)) ?_ (h _ _ (H.alloc _))
  have e1 : madeCells z.cells (c * sz) = cs.toArray := by rw [← hcs]
  rw [e1] at hr
  simp [execOp, hx, hy, Sem.run_bind, hr, Result.andThen]
end
/-! ### Literal slices -/
def Rows (I : Im) (sz : Nat) : List (List Dat) → List Value → Prop
  | [], cs => cs = []
  | x :: xs, cs => RepL I x (cs.take sz) ∧ (cs.take sz).length = sz ∧ Rows I sz xs (cs.drop sz)
theorem Rows.at_ {I : Im} {sz : Nat} : ∀ {xs : List (List Dat)} {cs : List Value}, Rows I sz xs cs → cs.length = xs.length * sz ∧ ∀ j x, xs[j]? = some x → RepL I x ((cs.drop (j * sz)).take sz)
  | [], cs, h => by
    simp only [Rows] at h
    subst h
    exact ⟨by simp, fun j x hx => by simp at hx⟩
  | y :: xs, cs, h => by
    simp only [Rows] at h
    obtain ⟨h1, h2, h3⟩ := h
    obtain ⟨h4, h5⟩ := Rows.at_ h3
    rw [List.length_drop] at h4
    rw [List.length_take] at h2
    refine ⟨?_, fun j x hx => ?_⟩
    · rw [List.length_cons, Nat.succ_mul]
      omega
    · cases j with
      | zero =>
        simp only [List.getElem?_cons_zero, Option.some.injEq] at hx
        subst hx
        simpa using h1
      | succ j =>
        have := h5 j x (by simpa using hx)
        rw [List.drop_drop] at this
        rw [Nat.succ_mul, Nat.add_comm]
        exact this
/-- A slice that was just made and is turned no more reads as data. -/
theorem lit_done {B : World} {I : Im} {w : World} {L : List (Nat × Obj)} {α : Type} {enc : α → List Dat} {sz n : Nat} {e : TypeId} {g : Nat} {cs : List Value} (l : List α) (hn : l.length = n) (hb : n ≤ 9223372036854775807) (H : Hp B I w ((g, Ob cs e) :: L)) (hr : Rows I sz (l.map enc) cs) :
    ∃ I', Le I I' ∧ Hp B I' w L ∧ RepS enc I' sz l (.slice (some ⟨g, 0, none⟩) n n) := by
  obtain ⟨h1, h2⟩ := hr.at_
  have hl : (l.map enc).length = n := by rw [List.length_map, hn]
  have ha : Acc I sz (.slice (some ⟨g, 0, none⟩) n n) cs (l.map enc) := .inr ⟨g, n, by rw [hl], by omega, hb, by rw [h1, hl], h2⟩
  exact Acc.done ha (e := e) H
end Go.Proofs.YtghmjnbpkobooaaGreatDoor
