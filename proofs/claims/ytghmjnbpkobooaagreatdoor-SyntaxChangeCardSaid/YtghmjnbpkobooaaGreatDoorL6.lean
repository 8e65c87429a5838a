/-
  A source behind another one: white space is passed byte by byte; a way is carried over to a later place. What the statement on two sources comes to. Plain Lean.
-/
import Derived.Test.YtghmjnbpkobooaaGreatDoorL5
set_option linter.unusedVariables false
set_option linter.unusedSimpArgs false
namespace Go.Proofs.YtghmjnbpkobooaaGreatDoor
open Go Go.RowKit

theorem class_1 {src : ByteArray} {a : Nat} (h : byteC src a = 1) : a < src.size ∧ ∃ u, src.data.toList[a]? = some u ∧ clsK [1] u = true := by
  unfold byteC at h
  split at h
  · rename_i u hu
    refine ⟨?_, u, hu, ?_⟩
    · have := (List.getElem?_eq_some_iff.1 hu).1
      rw [size_data]
      exact this
    · unfold clsK
      rw [h]
      rfl
  · omega
theorem cls1_byte {src : ByteArray} {a : Nat} {u : UInt8} (hu : src.data.toList[a]? = some u) (h : clsK [1] u = true) : byteC src a = 1 := by
  rw [byteC_at hu]
  unfold clsK at h
  rcases class_range u with e | e | e | e | e | e <;> rw [e] at h ⊢ <;> first | rfl | (revert h; decide)
theorem lex_space {src : ByteArray} {a : Nat} (h : byteC src a = 1) (toks : List Tk) : lexFrom src a toks = lexFrom src (a + 1) toks := by
  obtain ⟨ha, u, hu, hc⟩ := class_1 h
  have hs := step1 h
  have e1 : spanS src a [1] = spanS src (a + 1) [1] + 1 := by
    unfold spanS restL
    rw [drop_some hu]
    simp only [spanL, hc, if_true]
  rw [lex_step ha hs, List.append_nil]
  show lexFrom src (a + spanS src a [1]) toks = _
  by_cases h0 : spanS src (a + 1) [1] = 0
  · rw [e1, h0]
  · have h1 : byteC src (a + 1) = 1 := by
      obtain ⟨v, hv, hc2⟩ := span_in (f := clsK [1]) (A := restL src (a + 1)) (j := 0) (by unfold spanS at h0; omega)
      unfold restL at hv
      rw [List.getElem?_drop, Nat.add_zero] at hv
      exact cls1_byte hv hc2
    obtain ⟨ha1, _⟩ := class_1 h1
    rw [lex_step ha1 (step1 h1), List.append_nil, e1]
    show _ = lexFrom src (a + 1 + spanS src (a + 1) [1]) toks
    rw [show a + (spanS src (a + 1) [1] + 1) = a + 1 + spanS src (a + 1) [1] by omega]
theorem lex_spaces {src : ByteArray} : ∀ (k a : Nat), (∀ j, j < k → byteC src (a + j) = 1) → ∀ toks, lexFrom src a toks = lexFrom src (a + k) toks
  | 0, a, _, toks => rfl
  | k + 1, a, h, toks => by
    have h0 := h 0 (by omega)
    rw [Nat.add_zero] at h0
    rw [lex_space h0, lex_spaces k (a + 1) (fun j hj => by rw [show a + 1 + j = a + (j + 1) by omega]; exact h (j + 1) (by omega)), show a + 1 + k = a + (k + 1) by omega]
/-- A way to the end of a part, white space behind the part: on to the end of the part. -/
theorem Steps.white {src x : ByteArray} {X : List UInt8} (hx : x.data.toList = 10 :: X) {a b : Nat} {ts : List Tk} (h : Steps src a b ts) : b = src.size → ∀ toks, lexFrom (src ++ x) a toks = lexFrom (src ++ x) b (toks ++ ts) := by
  induction h with
  | nil => intro _ toks; rw [List.append_nil]
  | @cons a b ts r h hs k ih =>
    intro hb toks
    have hp := step_prog h hs
    rw [← List.append_assoc, ← ih hb]
    obtain ⟨q, h1, rfl, h2⟩ := step_some h hs
    obtain ⟨u, A, hd, hl⟩ := head_at h
    have hu : src.data.toList[a]? = some u := by
      have : (src.data.toList.drop a)[0]? = some u := by rw [hd]; rfl
      rwa [List.getElem?_drop, Nat.add_zero] at this
    by_cases hc : classI (u.toNat : Int) = 1
    · have h5 : byteC src a = 1 := by rw [byteC_at hu, hc]
      have h6 := step1 h5
      rw [hs] at h6
      injection h6 with h6
      rw [h6]
      show _ = lexFrom (src ++ x) (a + spanS src a [1]) (toks ++ [])
      rw [List.append_nil]
      refine lex_spaces _ a (fun j hj => ?_) toks
      obtain ⟨v, hv, hc2⟩ := span_in (f := clsK [1]) (A := restL src a) (j := j) hj
      unfold restL at hv
      rw [List.getElem?_drop] at hv
      refine cls1_byte (u := v) ?_ hc2
      rw [app_list, List.getElem?_append_left (List.getElem?_eq_some_iff.1 hv).1]
      exact hv
    · refine lex_step (by rw [app_size]; omega) ?_
      rw [step_T (by rw [app_size]; omega), app_list, List.drop_append_of_le_length (by rw [← size_data]; omega), hd, hx, stepT_white X white_10 hc (fun _ => rfl), ← hd, h1]
      rfl
/-- The steps of what stands behind. -/
theorem step_later {src b : ByteArray} {c a : Nat} (hd : src.data.toList.drop c = b.data.toList) {r : List Tk × Nat} (ha : a < b.size) (h : stepO b a = some r) : stepO src (c + a) = some (r.1.map (atT c), c + r.2) := by
  obtain ⟨q, h1, rfl, h2⟩ := step_some ha h
  have e : src.data.toList.drop (c + a) = b.data.toList.drop a := by rw [← List.drop_drop, hd]
  have hz : c + a < src.size := by
    have := congrArg List.length hd
    rw [List.length_drop, ← size_data, ← size_data] at this
    omega
  rw [step_T hz, e, h1]
  simp only [Option.map_some, shiftR, List.map_map]
  congr 2
  · apply List.map_congr_left
    intro t _
    simp only [Function.comp, atT, mkTk]
    congr 1
    omega
  · omega
theorem step_laterN {src b : ByteArray} {c a : Nat} (hd : src.data.toList.drop c = b.data.toList) (ha : a < b.size) (h : stepO b a = none) : stepO src (c + a) = none := by
  have h1 := step_no ha h
  have e : src.data.toList.drop (c + a) = b.data.toList.drop a := by rw [← List.drop_drop, hd]
  have hz : c + a < src.size := by
    have := congrArg List.length hd
    rw [List.length_drop, ← size_data, ← size_data] at this
    omega
  rw [step_T hz, e, h1]
  rfl
theorem Steps.later {src b : ByteArray} {c : Nat} (hd : src.data.toList.drop c = b.data.toList) {i j : Nat} {ts : List Tk} (h : Steps b i j ts) : Steps src (c + i) (c + j) (ts.map (atT c)) := by
  induction h with
  | nil => exact .nil _
  | cons h hs k ih =>
    rw [List.map_append]
    refine .cons ?_ (step_later hd h hs) ih
    have := congrArg List.length hd
    rw [List.length_drop, ← size_data, ← size_data] at this
    omega
theorem Steps.len {src : ByteArray} {a b : Nat} {ts : List Tk} (h : Steps src a b ts) : a + ts.length ≤ b := by
  induction h with
  | nil => simp
  | cons h hs k ih =>
    have := step_prog h hs
    rw [List.length_append]
    omega
theorem sign_place {src : ByteArray} {a : Nat} {t : Tk} (h : t ∈ (signR src a).1) : t.at_ = (a : Int) := by
  unfold signR at h
  split at h
  · split at h
    · cases h
    · cases h
  · obtain rfl := List.mem_singleton.1 h
    rfl
theorem step_place {src : ByteArray} {a : Nat} {r : List Tk × Nat} (h : stepO src a = some r) : ∀ t ∈ r.1, t.at_ = (a : Int) := by
  intro t ht
  unfold stepO at h
  split at h
  · cases h
    cases ht
  · split at h
    · split at h
      · cases h
        obtain rfl := List.mem_singleton.1 ht
        rfl
      · cases h
    · split at h
      · split at h
        · cases h
          obtain rfl := List.mem_singleton.1 ht
          rfl
        · cases h
      · split at h
        · cases h
          exact sign_place ht
        · cases h
theorem Steps.places {src : ByteArray} {a b : Nat} {ts : List Tk} (h : Steps src a b ts) : ∀ t ∈ ts, 0 ≤ t.at_ ∧ t.at_ < (src.size : Int) := by
  induction h with
  | nil => intro t ht; cases ht
  | cons h hs k ih =>
    intro t ht
    rcases List.mem_append.1 ht with h1 | h1
    · have := step_place hs t h1
      omega
    · exact ih t h1
theorem joined_cases {a b : ByteArray} (hz : (a.size : Int) + (b.size : Int) ≤ 3000) : (∃ n : Nat, lexE a = ([], (n : Int), 30) ∧ lexE ((a ++ ⟨#[10]⟩) ++ b) = ([], (n : Int), 30)) ∨ (∃ (l : List Tk) (n : Nat), lexE a = (l, 0, 0) ∧ lexE b = ([], (n : Int), 30) ∧ n < b.size ∧ lexE ((a ++ ⟨#[10]⟩) ++ b) = ([], (n : Int) + (a.size : Int) + 1, 30)) ∨ (∃ l m, lexE a = (l, 0, 0) ∧ lexE b = (m, 0, 0) ∧ l.length ≤ a.size ∧ m.length ≤ b.size ∧ (∀ t ∈ m, 0 ≤ t.at_ ∧ t.at_ ≤ 3000) ∧ lexE ((a ++ ⟨#[10]⟩) ++ b) = (l ++ m.map (atT (a.size + 1)), 0, 0)) := by
  have e : (a ++ ⟨#[10]⟩) ++ b = a ++ ((⟨#[10]⟩ : ByteArray) ++ b) := by
    apply bytes_ext
    simp only [app_list, List.append_assoc]
  have h10 : (⟨#[10]⟩ : ByteArray).size = 1 := rfl
  have hx : ((⟨#[10]⟩ : ByteArray) ++ b).data.toList = 10 :: b.data.toList := by rw [app_list]; rfl
  have hJ : (a ++ ((⟨#[10]⟩ : ByteArray) ++ b)).size = a.size + 1 + b.size := by rw [app_size, app_size, h10]; omega
  have hd : (a ++ ((⟨#[10]⟩ : ByteArray) ++ b)).data.toList.drop (a.size + 1) = b.data.toList := by
    rw [app_list, hx, size_data, List.drop_length_add_append]
    rfl
  rw [e]
  rcases lexE_ways (src := a) (by omega) with ⟨ts, h1, h2⟩ | ⟨n, ts, h1, h2, h3, h4⟩
  · refine .inr ?_
    have hw : byteC (a ++ ((⟨#[10]⟩ : ByteArray) ++ b)) a.size = 1 := by
      refine cls1_byte (u := 10) ?_ rfl
      rw [app_list, hx, size_data, List.getElem?_append_right (Nat.le_refl _), Nat.sub_self]
      rfl
    have h5 : lexE (a ++ ((⟨#[10]⟩ : ByteArray) ++ b)) = lexFrom (a ++ ((⟨#[10]⟩ : ByteArray) ++ b)) (a.size + 1) ts := by
      rw [lexE_small (by omega), h1.white hx rfl, lex_space hw, List.nil_append]
    rcases lexE_ways (src := b) (by omega) with ⟨us, k1, k2⟩ | ⟨n, us, k1, k2, k3, k4⟩
    · have h6 := (k1.later hd).lex ts
      rw [Nat.add_zero] at h6
      have h6 := h6.trans (lex_end _ (by omega))
      exact .inr ⟨ts, us, h2, k2, by have := h1.len; omega, by have := k1.len; omega, fun t ht => by have := k1.places t ht; omega, by rw [h5, h6]⟩
    · have h6 := (k1.later hd).lex ts
      rw [Nat.add_zero] at h6
      have h6 := h6.trans (lex_bad (by omega) (step_laterN hd k2 k3))
      refine .inl ⟨ts, n, h2, k4, k2, ?_⟩
      rw [h5, h6, show ((a.size + 1 + n : Nat) : Int) = (n : Int) + (a.size : Int) + 1 by omega]
  · exact .inl ⟨n, h4, Steps.lexBad (by omega) (h1.app _ h2) (by omega) (step_none (c := 10) hx white_10 h2 h3)⟩
end Go.Proofs.YtghmjnbpkobooaaGreatDoor
