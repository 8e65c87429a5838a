/-
  The library's own variables, as the row lists them, in our words.
-/
import Derived.Test.YtbbflenaeihmeaaDoorRT
import Derived.Test.YtbbflenaeihmeaaDoorQ0
import Derived.Test.YtbbflenaeihmeaaDoorTie
import Derived.Test.YtbbflenaeihmeaaDoorCards
import Derived.WalkKit
import Derived.ProofKit
import Derived.OpenShut
import Derived.ShutString
import Derived.ChangeOld
import Derived.Below
import Derived.SizedLaws
import Derived.SevenTiedAt
import Derived.Stop.LaidErr
import Derived.Lib.LaidTab
set_option linter.unusedVariables false
set_option linter.unusedSimpArgs false
set_option maxRecDepth 10000
set_option maxHeartbeats 4000000
namespace Go.Proofs.YtbbflenaeihmeaaDoor
open Go Go.RowKit

open Go.ChangeShapes Go.WideShapes Go.ChangeAt
open Go.ChangeMaps (open_string shut_string)
def laidL : List (String × DataW Unit) := [("math/bits.deBruijn32tab", Rows.laid_math_bits_deBruijn32tab), ("math/bits.deBruijn64tab", Rows.laid_math_bits_deBruijn64tab), ("internal/strconv.uint64pow10", Rows.laid_internal_strconv_uint64pow10), ("strconv.ErrRange", Rows.laid_strconv_ErrRange), ("strconv.ErrSyntax", Rows.laid_strconv_ErrSyntax)]
theorem laidL_met (os : Os) (args : Array Value) : laidMetH Tryd.prog laidL ((World.doorLaid Tryd.prog 67 os).forCall (fun _ _ => 0) ⟨#[], args, []⟩).memory :=
  laidMetH_of_parts3 (fuel := 8) (laidMet_of_run' 8 (by kernel_rfl) (by kernel_rfl)) (by kernel_rfl) (by kernel_rfl)
theorem tPow : (Tryd.prog.globals[4]?).map (·.type) = some 161 := by kernel_rfl
theorem tSyn : (Tryd.prog.globals[1]?).map (·.type) = some 120 := by kernel_rfl
theorem tRan : (Tryd.prog.globals[2]?).map (·.type) = some 120 := by kernel_rfl
theorem block_of {n : String} {g : Nat} {W : World} {cs : Array Value} (hg : Tryd.prog.globalNamed n = some g) (hv : W.var? Tryd.prog n = some cs) : ∃ e fz, W.heap[g]? = some (.cells cs e fz) := by
  simp only [World.var?, hg, Option.bind_some] at hv
  split at hv
  · cases hv
    exact ⟨_, _, by assumption⟩
  · cases hv
theorem laidL_data {W : World} (h : laidMetH Tryd.prog laidL W) : laidMet Tryd.prog laidL W := h
theorem star_ : "*" ++ "errors.errorString" = "*errors.errorString" := by decide
theorem typeOf_err (u : TypeId) (h : Tryd.prog.typeName? 3 u = some "*errors.errorString") : u = 166 :=
  typeName_ptr_named (nm := "errors.errorString") (by rw [star_]; kernel_rfl) (by kernel_rfl) (by decide) u (by rw [star_]; exact h)
theorem cells_E : Tryd.prog.cellsOf 168 = 1 := by kernel_rfl
theorem cells_s : Tryd.prog.cellsOf 9 = 1 := by kernel_rfl
theorem cells_u : Tryd.prog.cellsOf 144 = 1 := by kernel_rfl
theorem cells_t : Tryd.prog.cellsOf 161 = 20 := by kernel_rfl
theorem lib_at {W : World} (h : laidMetH Tryd.prog laidL W) : LibAt (imW W) := by
  have h := laidL_data h
  have h3 := h.tail.tail
  have h4 := h3.tail
  have h5 := h4.tail
  have k3 : Lib.TabIs Tryd.prog W "internal/strconv.uint64pow10" .u64 Lib.pow10Tab := Lib.tabIs_of_head gPow tPow Tryd.underlying161 Tryd.underlying144 cells_u cells_t h3
  obtain ⟨a, s, hv, _⟩ := laid_sentinel h4 gRan tRan (Tryd.underlying120) typeOf_err Tryd.underlying166 Tryd.underlying168 rfl rfl Tryd.underlying9 cells_E cells_s
  obtain ⟨a2, s2, hv2, _⟩ := laid_sentinel h5 gSyn tSyn (Tryd.underlying120) typeOf_err Tryd.underlying166 Tryd.underlying168 rfl rfl Tryd.underlying9 cells_E cells_s
  obtain ⟨e3, z3, b3⟩ := block_of gPow k3
  obtain ⟨e4, z4, b4⟩ := block_of gRan hv
  obtain ⟨e5, z5, b5⟩ := block_of gSyn hv2
  exact ⟨⟨e3, z3, b3⟩, ⟨_, _, e5, z5, b5⟩, ⟨_, _, e4, z4, b4⟩⟩
end Go.Proofs.YtbbflenaeihmeaaDoor
