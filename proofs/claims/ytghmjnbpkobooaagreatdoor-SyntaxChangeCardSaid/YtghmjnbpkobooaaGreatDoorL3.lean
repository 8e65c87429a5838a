/-
  What Lex comes to, step by step: plain Lean over bytes.
-/
import Derived.Test.YtghmjnbpkobooaaGreatDoorQ3
set_option linter.unusedVariables false
set_option linter.unusedSimpArgs false
namespace Go.Proofs.YtghmjnbpkobooaaGreatDoor
open Go Go.RowKit

def byteC (src : ByteArray) (a : Nat) : Int := match src.data.toList[a]? with
  | some u => classI (u.toNat : Int)
  | none => 0
/-- What is done at a place: the tokens there, and where it goes on. -/
def stepO (src : ByteArray) (a : Nat) : Option (List Tk × Nat) :=
  if byteC src a = 1 then some ([], a + spanS src a [1])
  else if byteC src a = 2 then (if nameB (wordS src a [2, 3, 5]) = true then some ([mkTk 1 (wordS src a [2, 3, 5]) 0 (a : Int)], a + spanS src a [2, 3, 5]) else none)
  else if byteC src a = 3 then (match numO (wordS src a [3]) with
    | some v => some ([mkTk 2 ⟨#[]⟩ v (a : Int)], a + spanS src a [3])
    | none => none)
  else if byteC src a = 4 then some (signR src a)
  else none
def lexF (src : ByteArray) : Nat → Nat → List Tk → List Tk × Int × Int
  | 0, _, toks => (toks, 0, 0)
  | f + 1, a, toks => if src.size ≤ a then (toks, 0, 0) else match stepO src a with
    | none => ([], (a : Int), 30)
    | some r => lexF src f r.2 (toks ++ r.1)
def lexFrom (src : ByteArray) (a : Nat) (toks : List Tk) : List Tk × Int × Int := lexF src (src.size - a) a toks
def lexE (src : ByteArray) : List Tk × Int × Int := if 65536 < (src.size : Int) then ([], 0, 2) else lexFrom src 0 []

theorem class_range (u : UInt8) : classI (u.toNat : Int) = 0 ∨ classI (u.toNat : Int) = 1 ∨ classI (u.toNat : Int) = 2 ∨ classI (u.toNat : Int) = 3 ∨ classI (u.toNat : Int) = 4 ∨ classI (u.toNat : Int) = 5 := by
  unfold classI
  repeat (first | (split; · simp) | simp)
theorem byteC_at {src : ByteArray} {a : Nat} {u : UInt8} (hu : src.data.toList[a]? = some u) : byteC src a = classI (u.toNat : Int) := by rw [byteC, hu]
theorem span_pos {ks : List Int} {src : ByteArray} {a : Nat} {u : UInt8} (hu : src.data.toList[a]? = some u) (hk : inK ks (classI (u.toNat : Int)) = true) : 1 ≤ spanS src a ks := by
  unfold spanS restL
  rw [drop_some hu]
  have : clsK ks u = true := hk
  simp only [spanL, this, if_true]
  omega
theorem pref_head {src : ByteArray} {a : Nat} (h : prefB (tailS src a) slashS = true) : (tailS src a).data.toList[0]? = some 47 := by
  simp only [prefB, Bool.and_eq_true, decide_eq_true_eq] at h
  have h1 := h.2
  have h2 : ((tailS src a).extract 0 slashS.size).data.toList = slashS.data.toList := by rw [h1]
  rw [cut_list, List.drop_zero] at h2
  have h3 : ((tailS src a).data.toList.take (slashS.size - 0))[0]? = some 47 := by rw [h2]; rfl
  rw [List.getElem?_take] at h3
  split at h3
  · exact h3
  · cases h3
theorem sign_prog {src : ByteArray} {a : Nat} (ha : a < src.size) : a < (signR src a).2 ∧ (signR src a).2 ≤ src.size ∧ (signR src a).1.length ≤ 1 := by
  have hts : (tailS src a).size = src.size - a := by unfold tailS; rw [ByteArray.size_extract]; omega
  unfold signR
  split
  · rename_i hp
    split
    · rename_i h0
      have h1 := ix_len (tailS src a) 10
      have h2 : (ixByte (tailS src a) 10).toNat ≠ 0 := by
        intro e
        have e2 : ixByte (tailS src a) 10 = ((0 : Nat) : Int) := by omega
        have h3 := (Lib.indexByte_some e2).1
        rw [pref_head hp] at h3
        cases h3
      refine ⟨?_, ?_, by simp⟩
      · show a < a + (ixByte (tailS src a) 10).toNat
        omega
      · show a + (ixByte (tailS src a) 10).toNat ≤ src.size
        omega
    · exact ⟨ha, Nat.le_refl _, by simp⟩
  · refine ⟨?_, ?_, by simp⟩
    · show a < a + 1
      omega
    · show a + 1 ≤ src.size
      omega
theorem step_prog {src : ByteArray} {a : Nat} {r : List Tk × Nat} (ha : a < src.size) (h : stepO src a = some r) : a < r.2 ∧ r.2 ≤ src.size ∧ r.1.length ≤ 1 := by
  obtain ⟨u, _, hu⟩ := byte_at ha
  have hc := byteC_at hu
  unfold stepO at h
  split at h
  · rename_i h1
    cases h
    rw [hc] at h1
    have := span_pos (ks := [1]) hu (by rw [h1]; rfl)
    have := spanS_le src a [1] (by omega)
    exact ⟨by show a < a + _; omega, by show a + _ ≤ _; omega, by simp⟩
  · split at h
    · rename_i h1
      split at h
      · cases h
        rw [hc] at h1
        have := span_pos (ks := [2, 3, 5]) hu (by rw [h1]; rfl)
        have := spanS_le src a [2, 3, 5] (by omega)
        exact ⟨by show a < a + _; omega, by show a + _ ≤ _; omega, by simp⟩
      · cases h
    · split at h
      · rename_i h1
        split at h
        · cases h
          rw [hc] at h1
          have := span_pos (ks := [3]) hu (by rw [h1]; rfl)
          have := spanS_le src a [3] (by omega)
          exact ⟨by show a < a + _; omega, by show a + _ ≤ _; omega, by simp⟩
        · cases h
      · split at h
        · cases h
          exact sign_prog ha
        · cases h
theorem lexF_fuel (src : ByteArray) : ∀ (f g a : Nat) (toks : List Tk), src.size - a ≤ f → src.size - a ≤ g → lexF src f a toks = lexF src g a toks
  | 0, 0, _, _, _, _ => rfl
  | 0, g + 1, a, toks, h, _ => by
    simp only [lexF]
    rw [if_pos (by omega)]
  | f + 1, 0, a, toks, _, h => by
    simp only [lexF]
    rw [if_pos (by omega)]
  | f + 1, g + 1, a, toks, h1, h2 => by
    simp only [lexF]
    split
    · rfl
    · rename_i ha
      cases hs : stepO src a with
      | none => rfl
      | some r =>
        have := step_prog (by omega) hs
        exact lexF_fuel src f g r.2 (toks ++ r.1) (by omega) (by omega)
theorem lex_end {src : ByteArray} {a : Nat} (toks : List Tk) (h : src.size ≤ a) : lexFrom src a toks = (toks, 0, 0) := by
  unfold lexFrom
  rw [show src.size - a = 0 by omega]
  rfl
theorem lex_step {src : ByteArray} {a : Nat} {toks : List Tk} {r : List Tk × Nat} (h : a < src.size) (hs : stepO src a = some r) : lexFrom src a toks = lexFrom src r.2 (toks ++ r.1) := by
  unfold lexFrom
  obtain ⟨f, hf⟩ : ∃ f, src.size - a = f + 1 := ⟨src.size - a - 1, by omega⟩
  have := step_prog h hs
  rw [hf]
  simp only [lexF]
  rw [if_neg (by omega), hs]
  exact lexF_fuel src _ _ _ _ (by omega) (by omega)
theorem lex_bad {src : ByteArray} {a : Nat} {toks : List Tk} (h : a < src.size) (hs : stepO src a = none) : lexFrom src a toks = ([], (a : Int), 30) := by
  unfold lexFrom
  obtain ⟨f, hf⟩ : ∃ f, src.size - a = f + 1 := ⟨src.size - a - 1, by omega⟩
  rw [hf]
  simp only [lexF]
  rw [if_neg (by omega), hs]
theorem step1 {src : ByteArray} {a : Nat} (h : byteC src a = 1) : stepO src a = some ([], a + spanS src a [1]) := by rw [stepO, if_pos h]
theorem step2 {src : ByteArray} {a : Nat} (h : byteC src a = 2) : stepO src a = if nameB (wordS src a [2, 3, 5]) = true then some ([mkTk 1 (wordS src a [2, 3, 5]) 0 (a : Int)], a + spanS src a [2, 3, 5]) else none := by
  rw [stepO, if_neg (by omega), if_pos h]
theorem step3 {src : ByteArray} {a : Nat} (h : byteC src a = 3) : stepO src a = match numO (wordS src a [3]) with
    | some v => some ([mkTk 2 ⟨#[]⟩ v (a : Int)], a + spanS src a [3])
    | none => none := by
  rw [stepO, if_neg (by omega), if_neg (by omega), if_pos h]
theorem step4 {src : ByteArray} {a : Nat} (h : byteC src a = 4) : stepO src a = some (signR src a) := by
  rw [stepO, if_neg (by omega), if_neg (by omega), if_neg (by omega), if_pos h]
theorem step0 {src : ByteArray} {a : Nat} (h : byteC src a = 0 ∨ byteC src a = 5) : stepO src a = none := by
  rw [stepO, if_neg (by omega), if_neg (by omega), if_neg (by omega), if_neg (by omega)]
end Go.Proofs.YtghmjnbpkobooaaGreatDoor
