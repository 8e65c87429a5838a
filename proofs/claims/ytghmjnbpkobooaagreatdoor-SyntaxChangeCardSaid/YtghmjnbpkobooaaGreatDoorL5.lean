/-
  Parts of a source, and a source with more behind it: steps and ways carried over. What the statement on errors comes to. Plain Lean.
-/
import Derived.Test.YtghmjnbpkobooaaGreatDoorL4
set_option linter.unusedVariables false
set_option linter.unusedSimpArgs false
namespace Go.Proofs.YtghmjnbpkobooaaGreatDoor
open Go Go.RowKit

theorem app_list (s t : ByteArray) : (s ++ t).data.toList = s.data.toList ++ t.data.toList := by simp
theorem app_size (s t : ByteArray) : (s ++ t).size = s.size + t.size := by simp
theorem head_at {src : ByteArray} {a : Nat} (ha : a < src.size) : ∃ u A, src.data.toList.drop a = u :: A ∧ (u :: A).length = src.size - a := by
  obtain ⟨u, _, hu⟩ := byte_at ha
  exact ⟨u, _, drop_some hu, by rw [← drop_some hu, List.length_drop, ← size_data]⟩
theorem step_some {src : ByteArray} {a : Nat} {r : List Tk × Nat} (ha : a < src.size) (h : stepO src a = some r) : ∃ q, stepT (src.data.toList.drop a) = some q ∧ r = shiftR a q ∧ r.2 = a + q.2 := by
  rw [step_T ha] at h
  obtain ⟨q, h1, rfl⟩ := Option.map_eq_some_iff.1 h
  exact ⟨q, h1, rfl, rfl⟩
theorem step_app {src : ByteArray} (x : ByteArray) {a : Nat} {r : List Tk × Nat} (ha : a < src.size) (h : stepO src a = some r) (hr : r.2 < src.size) : stepO (src ++ x) a = some r := by
  obtain ⟨q, h1, rfl, h2⟩ := step_some ha h
  obtain ⟨u, A, hd, hl⟩ := head_at ha
  rw [hd] at h1
  rw [step_T (by rw [app_size]; omega), app_list, List.drop_append_of_le_length (by rw [← size_data]; omega), hd, stepT_app _ h1 (by rw [hl]; omega)]
  rfl
theorem take_size {src : ByteArray} {n : Nat} (h : n ≤ src.size) : (src.extract 0 n).size = n := by
  rw [ByteArray.size_extract]
  omega
theorem step_take {src : ByteArray} {n a : Nat} {r : List Tk × Nat} (hn : n ≤ src.size) (ha : a < n) (h : stepO src a = some r) (hr : r.2 ≤ n) : stepO (src.extract 0 n) a = some r := by
  obtain ⟨q, h1, rfl, h2⟩ := step_some (by omega) h
  have hz := take_size hn
  obtain ⟨u, A, hd, hl⟩ := head_at (src := src.extract 0 n) (a := a) (by omega)
  have hsp : src.data.toList.drop a = (u :: A) ++ src.data.toList.drop n := by
    have h3 : (src.data.toList.take n).drop a = u :: A := by
      rw [cut_list, List.drop_zero, Nat.sub_zero] at hd
      exact hd
    rw [← h3, ← List.drop_append_of_le_length (by rw [List.length_take, ← size_data]; omega), List.take_append_drop]
  rw [hsp] at h1
  rw [step_T (by omega), hd, stepT_pre h1 (by rw [hl]; omega)]
  rfl
theorem step_no {src : ByteArray} {a : Nat} (ha : a < src.size) (h : stepO src a = none) : stepT (src.data.toList.drop a) = none := by
  rw [step_T ha] at h
  exact Option.map_eq_none_iff.1 h
theorem step_none {src x : ByteArray} {a : Nat} {c : UInt8} {X : List UInt8} (hx : x.data.toList = c :: X) (hc : classI (c.toNat : Int) = 1) (ha : a < src.size) (h : stepO src a = none) : stepO (src ++ x) a = none := by
  have h1 := step_no ha h
  obtain ⟨u, A, hd, hl⟩ := head_at ha
  rw [hd] at h1
  have hw : stepT (u :: A ++ c :: X) = stepT (u :: A) := by
    refine stepT_white X hc (fun e => ?_) (fun e => ?_)
    · simp [stepT, e] at h1
    · obtain ⟨m, hm⟩ := com_two e
      simp only [List.cons.injEq] at hm
      obtain ⟨rfl, rfl⟩ := hm
      have h4 : classI 47 = 4 := by decide +kernel
      simp [stepT, h4, isCom] at h1
  rw [step_T (by rw [app_size]; omega), app_list, List.drop_append_of_le_length (by rw [← size_data]; omega), hd, hx, hw, h1]
  rfl
theorem step_drop {src : ByteArray} {n : Nat} (hn : n < src.size) (h : stepO src n = none) : stepO (src.extract n src.size) 0 = none := by
  have h1 := step_no hn h
  rw [step_T (by rw [ByteArray.size_extract]; omega), List.drop_zero]
  have := tail_list src n
  unfold tailS at this
  rw [this, h1]
  rfl
theorem Steps.app {src : ByteArray} (x : ByteArray) {a b : Nat} {ts : List Tk} (h : Steps src a b ts) (hb : b < src.size) : Steps (src ++ x) a b ts := by
  induction h with
  | nil => exact .nil _
  | cons h hs k ih => exact .cons (by rw [app_size]; omega) (step_app x h hs (by have := k.le; omega)) (ih hb)
theorem Steps.take {src : ByteArray} {n a b : Nat} {ts : List Tk} (h : Steps src a b ts) (hn : n ≤ src.size) (hb : b ≤ n) : Steps (src.extract 0 n) a b ts := by
  induction h with
  | nil => exact .nil _
  | cons h hs k ih =>
    have h1 := step_prog h hs
    have h2 := k.le
    exact .cons (by rw [take_size hn]; omega) (step_take hn (by omega) hs (by omega)) (ih hb)
theorem Steps.lexE {src : ByteArray} {ts : List Tk} (hz : src.size ≤ 65536) (h : Steps src 0 src.size ts) : lexE src = (ts, 0, 0) := by
  rw [lexE_small hz, h.lex, lex_end _ (Nat.le_refl _)]
  rfl
theorem Steps.lexBad {src : ByteArray} {b : Nat} {ts : List Tk} (hz : src.size ≤ 65536) (h : Steps src 0 b ts) (hb : b < src.size) (hs : stepO src b = none) : Go.Proofs.YtghmjnbpkobooaaGreatDoor.lexE src = ([], (b : Int), 30) := by
  rw [lexE_small hz, h.lex, lex_bad hb hs]
theorem lexE_ways {src : ByteArray} (hz : src.size ≤ 65536) : (∃ ts, Steps src 0 src.size ts ∧ lexE src = (ts, 0, 0)) ∨ (∃ b ts, Steps src 0 b ts ∧ b < src.size ∧ stepO src b = none ∧ lexE src = ([], (b : Int), 30)) := by
  rcases lex_way src src.size 0 (by omega) (by omega) with ⟨ts, h1, h2⟩ | ⟨b, ts, h1, h2, h3, h4⟩
  · exact .inl ⟨ts, h1, h1.lexE hz⟩
  · exact .inr ⟨b, ts, h1, h2, h3, h1.lexBad hz h2 h3⟩
theorem white_32 : classI ((32 : UInt8).toNat : Int) = 1 := by decide +kernel
theorem white_10 : classI ((10 : UInt8).toNat : Int) = 1 := by decide +kernel
theorem wrong_cases {src more : ByteArray} (hz : (src.size : Int) + (more.size : Int) ≤ 3000) : (∃ l, lexE src = (l, 0, 0)) ∨ (∃ (n : Nat) (l : List Tk), lexE src = ([], (n : Int), 30) ∧ n < src.size ∧ lexE (src.extract 0 n) = (l, 0, 0) ∧ lexE ((src ++ ⟨#[32]⟩) ++ more) = ([], (n : Int), 30) ∧ lexE (src.extract n src.size) = ([], 0, 30)) := by
  rcases lexE_ways (src := src) (by omega) with ⟨ts, h1, h2⟩ | ⟨b, ts, h1, h2, h3, h4⟩
  · exact .inl ⟨ts, h2⟩
  · refine .inr ⟨b, ts, h4, h2, ?_, ?_, ?_⟩
    · have hb := take_size (src := src) (n := b) (by omega)
      have := h1.take (n := b) (by omega) (Nat.le_refl _)
      refine Steps.lexE (by omega) ?_
      rw [hb]
      exact this
    · have e : (src ++ ⟨#[32]⟩) ++ more = src ++ ((⟨#[32]⟩ : ByteArray) ++ more) := by
        apply bytes_ext
        simp only [app_list, List.append_assoc]
      have h32 : (⟨#[32]⟩ : ByteArray).size = 1 := rfl
      rw [e]
      exact Steps.lexBad (by rw [app_size, app_size, h32]; omega) (h1.app _ h2) (by rw [app_size]; omega) (step_none (c := 32) (X := more.data.toList) (by rw [app_list]; rfl) white_32 h2 h3)
    · have hz2 : (src.extract b src.size).size = src.size - b := by
        rw [ByteArray.size_extract]
        omega
      exact Steps.lexBad (src := src.extract b src.size) (b := 0) (by omega) (.nil 0) (by omega) (step_drop h2 h3)
end Go.Proofs.YtghmjnbpkobooaaGreatDoor
