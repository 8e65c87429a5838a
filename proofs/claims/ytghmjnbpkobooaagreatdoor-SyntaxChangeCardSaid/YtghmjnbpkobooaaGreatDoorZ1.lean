/-
  What the writer of policies is given, and what it adds. Plain Lean, and memory.
-/
import Derived.Test.YtghmjnbpkobooaaGreatDoorY5
import Derived.Test.YtghmjnbpkobooaaGreatDoorY6
set_option linter.unusedVariables false
set_option linter.unusedSimpArgs false
namespace Go.Proofs.YtghmjnbpkobooaaGreatDoor
open Go Go.RowKit

inductive Pa where
  | str (s : ByteArray)
  | nam (s : ByteArray)
  | int (n : Int)
  | ex (x : Ex)
def putP : Pa → List Tk
  | .str s => [if resB s = true then wrd s else sgn s]
  | .nam s => [wrd s]
  | .int n => [num n]
  | .ex x => exprP x
def putsP (l : List Pa) : List Tk := (l.map putP).flatten
def Pa.w : Pa → Nat
  | .ex x => x.pc
  | _ => 0
def ArgV (I : Im) (v : Value) : Pa → Prop
  | .str s => v = .iface 9 (.string s) ∧ S63 s
  | .nam s => v = .iface 175 (.string s) ∧ S63 s
  | .int n => v = .iface 3 (.int .i64 n) ∧ I64 n
  | .ex x => ∃ us, v = .iface 26 (.agg us.toArray) ∧ RepL I (encEx x) us
def ArgsV (I : Im) : List Value → List Pa → Prop
  | [], [] => True
  | v :: vs, p :: ps => ArgV I v p ∧ ArgsV I vs ps
  | _, _ => False
theorem ArgV.mono {I I' : Im} (h : Le I I') {v : Value} : ∀ {p : Pa}, ArgV I v p → ArgV I' v p
  | .str s, ha => ha
  | .nam s, ha => ha
  | .int n, ha => ha
  | .ex x, ⟨us, h1, h2⟩ => ⟨us, h1, h2.mono h⟩
theorem ArgsV.mono {I I' : Im} (h : Le I I') : ∀ {vs : List Value} {ps : List Pa}, ArgsV I vs ps → ArgsV I' vs ps
  | [], [], _ => trivial
  | v :: vs, p :: ps, ha => ⟨ha.1.mono h, ha.2.mono h⟩
  | [], p :: ps, ha => ha.elim
  | v :: vs, [], ha => ha.elim
theorem ArgsV.get {I : Im} : ∀ {vs : List Value} {ps : List Pa}, ArgsV I vs ps → ∀ {i : Nat} {p : Pa}, ps[i]? = some p → ∃ v, vs[i]? = some v ∧ ArgV I v p
  | [], [], _, i, p, h => by simp at h
  | v :: vs, q :: ps, ha, i, p, h => by
    cases i with
    | zero =>
      simp only [List.getElem?_cons_zero, Option.some.injEq] at h
      subst h
      exact ⟨v, rfl, ha.1⟩
    | succ i => exact ha.2.get (by simpa using h)
  | [], p :: ps, ha, _, _, _ => ha.elim
  | v :: vs, [], ha, _, _, _ => ha.elim
theorem At.one {I : Im} {b off : Nat} {us : List Value} (h : At I b off us) {i : Nat} {v : Value} (hv : us[i]? = some v) : At I b (off + i) [v] := by
  obtain ⟨cs, e, fz, hb, hc⟩ := h
  refine ⟨cs, e, fz, hb, fun q u hu => ?_⟩
  cases q with
  | zero =>
    simp only [List.getElem?_cons_zero, Option.some.injEq] at hu
    subst hu
    exact hc i _ hv
  | succ q => simp at hu
theorem puts_step {l : List Pa} {i : Nat} {p : Pa} (h : l[i]? = some p) : putsP (l.take (i + 1)) = putsP (l.take i) ++ putP p := by
  unfold putsP
  rw [take_some h, List.map_append, List.flatten_append]
  simp
theorem flat_take {α : Type} (g : α → List Tk) (l : List α) (i : Nat) : (((l.take i).map g).flatten).length ≤ ((l.map g).flatten).length := by
  have h : ((l.map g).flatten) = ((l.take i).map g).flatten ++ ((l.drop i).map g).flatten := by rw [← List.flatten_append, ← List.map_append, List.take_append_drop]
  rw [h, List.length_append]
  omega
theorem puts_le (l : List Pa) (i : Nat) : (putsP (l.take i)).length ≤ (putsP l).length := flat_take putP l i
theorem flat_step {α : Type} (g : α → List Tk) {l : List α} {i : Nat} {p : α} (h : l[i]? = some p) : ((l.take (i + 1)).map g).flatten = ((l.take i).map g).flatten ++ g p := by
  rw [take_some h, List.map_append, List.flatten_append]
  simp
theorem uptoP_le (l : List Ex) (i : Nat) : (uptoP true (l.take i)).length ≤ (uptoP true l).length := by
  have h := uptoP_app true (l.take i) (l.drop i)
  rw [List.take_append_drop] at h
  rw [h, List.length_append]
  omega
theorem ofP_le (l : List Ex) (i : Nat) : (ofP true (l.take i)).length ≤ (ofP true l).length := by
  have h := ofP_app true (l.take i) (l.drop i)
  rw [List.take_append_drop] at h
  rw [h, List.length_append]
  omega
abbrev wrB (gW : Nat) (v : Value) : Nat × Obj := (gW, Ob [v] 92)
theorem mode_at {m : Int} (h : okMode m = true) : modesW[m.toNat]? = some (modeW m) ∧ 0 ≤ m ∧ m < 5 := by
  simp only [okMode, Bool.and_eq_true, decide_eq_true_eq] at h
  have hm : m = 1 ∨ m = 2 ∨ m = 3 ∨ m = 4 := by omega
  rcases hm with rfl | rfl | rfl | rfl <;> exact ⟨rfl, by decide, by decide⟩
theorem r_wPolicy : resB wPolicy = true := by decide +kernel
theorem r_wMode : resB wMode = true := by decide +kernel
theorem r_wOld : resB wOld = true := by decide +kernel
theorem r_wNew : resB wNew = true := by decide +kernel
theorem r_wBoth : resB wBoth = true := by decide +kernel
theorem r_wEither : resB wEither = true := by decide +kernel
theorem r_wOffice : resB wOffice = true := by decide +kernel
theorem r_wKind : resB wKind = true := by decide +kernel
theorem r_wRule : resB wRule = true := by decide +kernel
theorem r_wThink : resB wThink = true := by decide +kernel
theorem r_wChange : resB wChange = true := by decide +kernel
theorem r_wSome : resB wSome = true := by decide +kernel
theorem r_wWeight : resB wWeight = true := by decide +kernel
theorem r_wOf : resB wOf = true := by decide +kernel
theorem r_wUpto : resB wUpto = true := by decide +kernel
theorem r_wElse : resB wElse = true := by decide +kernel
theorem r_sSemi : resB sSemi = false := by decide +kernel
theorem r_sEq : resB sEq = false := by decide +kernel
theorem r_sLp : resB sLp = false := by decide +kernel
theorem r_sRp : resB sRp = false := by decide +kernel
theorem r_sComma : resB sComma = false := by decide +kernel
end Go.Proofs.YtghmjnbpkobooaaGreatDoor
