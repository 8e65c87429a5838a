/-
  A byte, as a text. A plain theorem over whatever program.
-/
import Derived.Test.YtbbflenaeihmeaaDoorB9
import Derived.Laws.BytesString
set_option linter.unusedVariables false
set_option linter.unusedSimpArgs false
namespace Go.Proofs.YtbbflenaeihmeaaDoor
open Go Go.RowKit

section
variable {P : Program} {B : World} {I : Im} {L : List (Nat × Obj)} {n : Nat} {m : Sl} {w : World} {X : Sl → World → Prop} {Q : List PanicEntry → World → Prop}
variable {d : Nat} {t ty : TypeId} {pos : String} {aft : Array Edge} {gd : Option (Nat × Bool)} {x y : Operand}
/-- string([]byte{a}): the block of the byte stands at the head. -/
theorem ow_bstr1 {src dst e : TypeId} (hs : P.underlying src = some (.slice e)) (he : P.underlying e = some (.int .u8)) (hd : P.underlying dst = some .string) {g : Nat} {a : Int} {e' : TypeId} {c : Nat}
    (H : Hp B I w ((g, Ob [.int .u8 a] e') :: L)) (hx : ev n m x = .slice (some ⟨g, 0, none⟩) 1 c) (h : X ((d, .string ⟨#[UInt8.ofNat a.toNat]⟩) :: m) w) : Ow P n ⟨some d, .convert src dst x, ty, pos, aft, gd⟩ X Q m w := by
  have hg := H.own _ (List.mem_cons_self ..)
  have h0 : w.cell? ⟨g, 0, none⟩ = some (.int .u8 a) := by rw [cell_Ob hg]; rfl
  have hr : (Conv.bytesToString (.slice (some ⟨g, 0, none⟩) 1 c)).run P w = .ok (.string ⟨#[UInt8.ofNat a.toNat]⟩) w := by
    have hl : (loadCells ⟨g, 0, none⟩ 1).run P w = .ok #[.int .u8 a] w := by
      have := run_loadCellsFrom (P := P) w ⟨g, 0, none⟩ [.int .u8 a] 0 #[] (fun j u hu => by
        cases j with
        | zero =>
          simp only [List.getElem?_cons_zero, Option.some.injEq] at hu
          subst hu
          exact h0
        | succ j => simp at hu)
      simpa [loadCells] using this
    have := run_bytesToString (P := P) w ⟨g, 0, none⟩ 1 c [a] hl
    exact this
  refine ow_val (v := .string ⟨#[UInt8.ofNat a.toNat]⟩) (w' := w) ?_ h
  simp [execOp, convert, run_underlying hs, run_underlying hd, run_underlying he, hx, hr, Sem.run_bind, Result.andThen]
end
end Go.Proofs.YtbbflenaeihmeaaDoor
