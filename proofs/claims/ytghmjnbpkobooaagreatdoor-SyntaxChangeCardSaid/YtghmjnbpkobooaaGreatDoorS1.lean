/-
  When two policies are equal. Plain Lean.
-/
import Derived.Test.YtghmjnbpkobooaaGreatDoorS0
set_option linter.unusedVariables false
set_option linter.unusedSimpArgs false
namespace Go.Proofs.YtghmjnbpkobooaaGreatDoor
open Go Go.RowKit

def sameT : List ByteArray → List ByteArray → Bool
  | [], [] => true
  | a :: l, b :: m => decide (a = b) && sameT l m
  | _, _ => false
theorem sameT_iff : ∀ {l m : List ByteArray}, sameT l m = true ↔ l = m
  | [], [] => by simp [sameT]
  | a :: l, b :: m => by simp [sameT, sameT_iff (l := l) (m := m)]
  | [], b :: m => by simp [sameT]
  | a :: l, [] => by simp [sameT]
theorem sameT_len {l m : List ByteArray} (h : ¬ (l.length : Int) = (m.length : Int)) : sameT l m = false := by
  rw [Bool.eq_false_iff]
  intro h2
  rw [sameT_iff] at h2
  subst h2
  exact h rfl
mutual
def sameX : Ex → Ex → Bool
  | ⟨k, n, no, nm, l⟩, ⟨k2, n2, no2, nm2, l2⟩ => (((decide (k = k2) && decide (n = n2)) && decide (no = no2)) && decide (nm = nm2)) && sameXs l l2
def sameXs : List Ex → List Ex → Bool
  | [], [] => true
  | x :: l, y :: m => sameX x y && sameXs l m
  | _, _ => false
end
mutual
theorem sameX_iff : ∀ (x y : Ex), sameX x y = true ↔ x = y
  | ⟨k, n, no, nm, l⟩, ⟨k2, n2, no2, nm2, l2⟩ => by
    simp only [sameX, Bool.and_eq_true, decide_eq_true_eq, sameXs_iff l l2, Ex.mk.injEq]
    constructor
    · rintro ⟨⟨⟨⟨h1, h2⟩, h3⟩, h4⟩, h5⟩
      exact ⟨h1, h2, h3, h4, h5⟩
    · rintro ⟨h1, h2, h3, h4, h5⟩
      exact ⟨⟨⟨⟨h1, h2⟩, h3⟩, h4⟩, h5⟩
theorem sameXs_iff : ∀ (l m : List Ex), sameXs l m = true ↔ l = m
  | [], [] => by simp only [sameXs]
  | x :: l, y :: m => by simp only [sameXs, Bool.and_eq_true, sameX_iff x y, sameXs_iff l m, List.cons.injEq]
  | [], y :: m => by simp [sameXs]
  | x :: l, [] => by simp [sameXs]
end
theorem sameX_eq (x y : Ex) : sameX x y = ((((decide (x.kind = y.kind) && decide (x.n = y.n)) && decide (x.no = y.no)) && decide (x.name = y.name)) && sameXs x.l y.l) := by
  cases x
  cases y
  simp only [sameX]
theorem sameXs_len {l m : List Ex} (h : ¬ (l.length : Int) = (m.length : Int)) : sameXs l m = false := by
  rw [Bool.eq_false_iff]
  intro h2
  rw [sameXs_iff] at h2
  subst h2
  exact h rfl
def sameR (a b : Ru) : Bool := ((decide (a.kind = b.kind) && decide (a.kindNo = b.kindNo)) && decide (a.think = b.think)) && sameX a.expr b.expr
def sameRs : List Ru → List Ru → Bool
  | [], [] => true
  | x :: l, y :: m => sameR x y && sameRs l m
  | _, _ => false
def sameP (a b : Po) : Bool := ((((decide (a.name = b.name) && decide (a.mode = b.mode)) && sameT a.offices b.offices) && sameT a.kinds b.kinds) && sameRs a.rules b.rules) && sameX a.change b.change
theorem sameR_iff (a b : Ru) : sameR a b = true ↔ a = b := by
  cases a
  cases b
  simp only [sameR, Bool.and_eq_true, decide_eq_true_eq, sameX_iff, Ru.mk.injEq]
  constructor
  · rintro ⟨⟨⟨h1, h2⟩, h3⟩, h4⟩
    exact ⟨h1, h2, h3, h4⟩
  · rintro ⟨h1, h2, h3, h4⟩
    exact ⟨⟨⟨h1, h2⟩, h3⟩, h4⟩
theorem sameRs_iff : ∀ (l m : List Ru), sameRs l m = true ↔ l = m
  | [], [] => by simp only [sameRs]
  | x :: l, y :: m => by simp only [sameRs, Bool.and_eq_true, sameR_iff x y, sameRs_iff l m, List.cons.injEq]
  | [], y :: m => by simp [sameRs]
  | x :: l, [] => by simp [sameRs]
theorem sameP_iff (a b : Po) : sameP a b = true ↔ a = b := by
  cases a
  cases b
  simp only [sameP, Bool.and_eq_true, decide_eq_true_eq, sameX_iff, sameT_iff, sameRs_iff, Po.mk.injEq]
  constructor
  · rintro ⟨⟨⟨⟨⟨h1, h2⟩, h3⟩, h4⟩, h5⟩, h6⟩
    exact ⟨h1, h4, h3, h5, h6, h2⟩
  · rintro ⟨h1, h4, h3, h5, h6, h2⟩
    exact ⟨⟨⟨⟨⟨h1, h2⟩, h3⟩, h4⟩, h5⟩, h6⟩
theorem sameRs_len {l m : List Ru} (h : ¬ (l.length : Int) = (m.length : Int)) : sameRs l m = false := by
  rw [Bool.eq_false_iff]
  intro h2
  rw [sameRs_iff] at h2
  subst h2
  exact h rfl
end Go.Proofs.YtghmjnbpkobooaaGreatDoor
