/-
  The table of policies, as the row lists it, in our words.
-/
import Derived.Test.YtbbflenaeihmeaaDoorR0
import Derived.Test.YtbbflenaeihmeaaDoorTie
import Derived.Test.YtbbflenaeihmeaaDoorCards
import Derived.WalkKit
import Derived.ProofKit
import Derived.OpenShut
import Derived.ShutString
import Derived.ChangeOld
import Derived.Below
import Derived.SizedLaws
import Derived.SevenTiedAt
set_option linter.unusedVariables false
set_option linter.unusedSimpArgs false
set_option maxRecDepth 10000
set_option maxHeartbeats 4000000
namespace Go.Proofs.YtbbflenaeihmeaaDoor
open Go Go.RowKit

open Go.ChangeShapes Go.WideShapes Go.ChangeAt
open Go.ChangeMaps (open_string shut_string)
def laidK : List (String × DataW Unit) := [("signatory/policies.kinds", Rows.laid_signatory_policies_kinds)]
theorem laidK_met (os : Os) (args : Array Value) : laidMetH Tryd.prog laidK ((World.doorLaid Tryd.prog 67 os).forCall (fun _ _ => 0) ⟨#[], args, []⟩).memory :=
  laidMetH_of_parts3 (fuel := 8) (laidMet_of_run' 8 (by kernel_rfl) (by kernel_rfl)) (by kernel_rfl) (by kernel_rfl)
theorem okWide_agg_ {P : Program} {w : World} {r : Reach} {base : Nat} {t : TypeId} {fs : Array Field} {v : Value} (ht : P.underlying t = some (.struct fs)) (h : Value.okWide P w r base t v) : ∃ cs, v = .agg cs ∧ cs.size = P.cellsOf t := by
  simp only [Value.okWide, ht] at h
  obtain ⟨cs, h1, h2, _⟩ := h
  exact ⟨cs, h1, h2⟩
theorem gKinds : Tryd.prog.globalNamed "signatory/policies.kinds" = some 0 := by kernel_rfl
theorem tKinds : (Tryd.prog.globals[0]?).map (·.type) = some 113 := by kernel_rfl
theorem cK : Tryd.prog.cellsOf 75 = 1 := by kernel_rfl
theorem cA : Tryd.prog.cellsOf 113 = 5 := by kernel_rfl
theorem kinds_at {W : World} (h : laidMetH Tryd.prog laidK W) : At (imW W) 0 0 kindsV := by
  obtain ⟨g, t, cs, fuel, p, hg, ht, hv, hd⟩ := h.funcs (List.mem_singleton.2 rfl)
  obtain rfl := Option.some.inj (gKinds.symm.trans hg)
  obtain rfl := Option.some.inj (tKinds.symm.trans ht)
  obtain ⟨xs, m, rfl, hx, hl, hlen, hel⟩ := DataW.trod_array Tryd.underlying113 hd
  rw [cA] at hl
  rw [cK] at hel
  have hb : ∃ e fz, W.heap[0]? = some (.cells cs e fz) := by
    simp only [World.var?, hg, Option.bind_some] at hv
    split at hv
    · cases hv
      exact ⟨_, _, by assumption⟩
    · cases hv
  obtain ⟨e, fz, hb⟩ := hb
  obtain ⟨cs⟩ := cs
  simp only at hl hel
  obtain ⟨c0, c1, c2, c3, c4, rfl⟩ : ∃ a b c d e, cs = [a, b, c, d, e] := by
    match cs, hl with
    | [a, b, c, d, e], _ => exact ⟨a, b, c, d, e, rfl⟩
  obtain ⟨x0, x1, x2, x3, x4, rfl⟩ : ∃ a b c d e, xs = [a, b, c, d, e] := by
    match xs, hlen with
    | [a, b, c, d, e], _ => exact ⟨a, b, c, d, e, rfl⟩
  have hx' : [DataW.held [115, 105, 103, 110, 97, 116, 111, 114, 121, 47, 112, 111, 108, 105, 99, 105, 101, 115, 46, 107, 105, 110, 100, 115, 36, 49], DataW.held [115, 105, 103, 110, 97, 116, 111, 114, 121, 47, 112, 111, 108, 105, 99, 105, 101, 115, 46, 107, 105, 110, 100, 115, 36, 50], DataW.held [115, 105, 103, 110, 97, 116, 111, 114, 121, 47, 112, 111, 108, 105, 99, 105, 101, 115, 46, 107, 105, 110, 100, 115, 36, 51], DataW.held [115, 105, 103, 110, 97, 116, 111, 114, 121, 47, 112, 111, 108, 105, 99, 105, 101, 115, 46, 107, 105, 110, 100, 115, 36, 52], DataW.held [115, 105, 103, 110, 97, 116, 111, 114, 121, 47, 112, 111, 108, 105, 99, 105, 101, 115, 46, 107, 105, 110, 100, 115, 36, 53]] = [x0.1, x1.1, x2.1, x3.1, x4.1] := by
    have := congrArg (fun z => z.1) hx
    exact DataW.agg.inj this
  simp only [List.cons.injEq, and_true] at hx'
  obtain ⟨e0, e1, e2, e3, e4⟩ := hx'
  have h0 : DataW.trod (funcToken Tryd.prog) Tryd.prog W 0 (fun x => true) true m 75 [c0] = some (x0.1, x0.2) := hel 0 (by decide)
  rw [← e0] at h0
  obtain rfl := func_of_trod (f0 := 172) Tryd.underlying75 (by kernel_rfl) h0
  have h1 : DataW.trod (funcToken Tryd.prog) Tryd.prog W 0 (fun x => true) true m 75 [c1] = some (x1.1, x1.2) := hel 1 (by decide)
  rw [← e1] at h1
  obtain rfl := func_of_trod (f0 := 173) Tryd.underlying75 (by kernel_rfl) h1
  have h2 : DataW.trod (funcToken Tryd.prog) Tryd.prog W 0 (fun x => true) true m 75 [c2] = some (x2.1, x2.2) := hel 2 (by decide)
  rw [← e2] at h2
  obtain rfl := func_of_trod (f0 := 174) Tryd.underlying75 (by kernel_rfl) h2
  have h3 : DataW.trod (funcToken Tryd.prog) Tryd.prog W 0 (fun x => true) true m 75 [c3] = some (x3.1, x3.2) := hel 3 (by decide)
  rw [← e3] at h3
  obtain rfl := func_of_trod (f0 := 175) Tryd.underlying75 (by kernel_rfl) h3
  have h4 : DataW.trod (funcToken Tryd.prog) Tryd.prog W 0 (fun x => true) true m 75 [c4] = some (x4.1, x4.2) := hel 4 (by decide)
  rw [← e4] at h4
  obtain rfl := func_of_trod (f0 := 176) Tryd.underlying75 (by kernel_rfl) h4
  refine ⟨_, e, fz, hb, fun j u hu => ?_⟩
  rw [Nat.zero_add]
  simpa [kindsV] using hu
end Go.Proofs.YtbbflenaeihmeaaDoor
