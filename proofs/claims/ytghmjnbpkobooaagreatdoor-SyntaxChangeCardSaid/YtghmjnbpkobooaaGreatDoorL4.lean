/-
  What a step of Lex depends on: the bytes that follow, and no more. Steps, ways, and what the statements on names and on errors come to. Plain Lean.
-/
import Derived.Test.YtghmjnbpkobooaaGreatDoorL3
set_option linter.unusedVariables false
set_option linter.unusedSimpArgs false
namespace Go.Proofs.YtghmjnbpkobooaaGreatDoor
open Go Go.RowKit

/-! ### Spans -/
theorem span_lt {f : UInt8 → Bool} : ∀ {A : List UInt8} (X : List UInt8), spanL f A < A.length → spanL f (A ++ X) = spanL f A
  | [], _, h => by simp at h
  | u :: A, X, h => by
    simp only [List.cons_append, spanL] at h ⊢
    split
    · rename_i hu
      rw [if_pos hu] at h
      rw [span_lt X (by simpa using h)]
    · rfl
theorem span_pre {f : UInt8 → Bool} : ∀ {A : List UInt8} (X : List UInt8), spanL f (A ++ X) ≤ A.length → spanL f A = spanL f (A ++ X)
  | [], X, h => by
    simp only [List.nil_append, List.length_nil] at h ⊢
    simp only [spanL]
    omega
  | u :: A, X, h => by
    simp only [List.cons_append, spanL] at h ⊢
    split
    · rename_i hu
      rw [if_pos hu] at h
      rw [span_pre X (by simpa using h)]
    · rfl
theorem span_stop {f : UInt8 → Bool} {x : UInt8} (hx : f x = false) : ∀ (A X : List UInt8), spanL f (A ++ x :: X) = spanL f A
  | [], X => by simp [spanL, hx]
  | u :: A, X => by simp only [List.cons_append, spanL, span_stop hx A X]
theorem span_all {f : UInt8 → Bool} : ∀ {A : List UInt8}, A.all f = true → spanL f A = A.length
  | [], _ => rfl
  | u :: A, h => by
    simp only [List.all_cons, Bool.and_eq_true] at h
    simp only [spanL, h.1, if_true, span_all h.2, List.length_cons]
theorem span_in {f : UInt8 → Bool} : ∀ {A : List UInt8} {j : Nat}, j < spanL f A → ∃ u, A[j]? = some u ∧ f u = true
  | [], j, h => by simp [spanL] at h
  | u :: A, j, h => by
    simp only [spanL] at h
    split at h
    · rename_i hu
      cases j with
      | zero => exact ⟨u, rfl, hu⟩
      | succ j => exact span_in (A := A) (by omega)
    · omega
theorem span_ix (c : UInt8) : ∀ A : List UInt8, spanL (fun u => !(u == c)) A = if 0 ≤ Lib.indexByte A c then (Lib.indexByte A c).toNat else A.length
  | [] => by simp [spanL, Lib.indexByte]
  | u :: A => by
    have hg := Lib.indexByte_ge A c
    have ih := span_ix c A
    by_cases hu : (u == c) = true
    · simp [spanL, Lib.indexByte, hu]
    · have hu' : (u == c) = false := by simpa using hu
      by_cases h1 : Lib.indexByte A c = -1
      · simp [spanL, Lib.indexByte, hu', ih, h1]
      · have h2 : (Lib.indexByte A c == -1) = false := by simpa using h1
        simp only [spanL, Lib.indexByte, hu', h2, ih, Bool.not_false, if_true, Bool.false_eq_true, if_false, List.length_cons]
        rw [if_pos (by omega), if_pos (by omega)]
        omega

/-! ### A step, as a function of the bytes that follow -/
def wordT (ks : List Int) (l : List UInt8) : ByteArray := ⟨(l.take (spanL (clsK ks) l)).toArray⟩
def isCom (l : List UInt8) : Bool := decide (l[0]? = some 47) && decide (l[1]? = some 47)
def not10 (u : UInt8) : Bool := !(u == 10)
def stepT : List UInt8 → Option (List Tk × Nat)
  | [] => none
  | u :: l => if classI (u.toNat : Int) = 1 then some ([], spanL (clsK [1]) (u :: l))
    else if classI (u.toNat : Int) = 2 then (if nameB (wordT [2, 3, 5] (u :: l)) = true then some ([mkTk 1 (wordT [2, 3, 5] (u :: l)) 0 0], spanL (clsK [2, 3, 5]) (u :: l)) else none)
    else if classI (u.toNat : Int) = 3 then (match numO (wordT [3] (u :: l)) with
      | some v => some ([mkTk 2 ⟨#[]⟩ v 0], spanL (clsK [3]) (u :: l))
      | none => none)
    else if classI (u.toNat : Int) = 4 then (if isCom (u :: l) = true then some ([], spanL not10 (u :: l)) else some ([mkTk 3 ⟨#[u]⟩ 0 0], 1))
    else none
def atT (a : Nat) (t : Tk) : Tk := mkTk t.kind t.text t.n (t.at_ + (a : Int))
def shiftR (a : Nat) (r : List Tk × Nat) : List Tk × Nat := (r.1.map (atT a), a + r.2)
theorem bytes_ext {s t : ByteArray} (h : s.data.toList = t.data.toList) : s = t := by
  obtain ⟨⟨a⟩⟩ := s
  obtain ⟨⟨b⟩⟩ := t
  simp only at h
  rw [h]
theorem word_T (src : ByteArray) (a : Nat) (ks : List Int) : wordS src a ks = wordT ks (src.data.toList.drop a) := by
  apply bytes_ext
  unfold wordS wordT
  rw [cut_list]
  show _ = (src.data.toList.drop a).take _
  rw [Nat.add_sub_cancel_left]
  rfl
theorem tail_list (src : ByteArray) (a : Nat) : (tailS src a).data.toList = src.data.toList.drop a := by
  unfold tailS
  rw [cut_list, size_data, List.take_of_length_le (by rw [List.length_drop]; omega)]
theorem pref_slash (s : ByteArray) : prefB s slashS = isCom s.data.toList := by
  have h : prefB s slashS = decide (s.data.toList.take 2 = [47, 47]) := by
    have hs : slashS.size = 2 := rfl
    have h2 : (s.extract 0 2 = slashS) ↔ s.data.toList.take 2 = [47, 47] := by
      constructor
      · intro e
        have := congrArg (fun z : ByteArray => z.data.toList) e
        simp only [cut_list, List.drop_zero, Nat.sub_zero] at this
        exact this
      · intro e
        apply bytes_ext
        rw [cut_list, List.drop_zero, Nat.sub_zero, e]
        rfl
    unfold prefB
    rw [hs]
    by_cases h1 : s.data.toList.take 2 = [47, 47]
    · have : 2 ≤ s.data.toList.length := by
        have := congrArg List.length h1
        rw [List.length_take] at this
        simp only [List.length_cons, List.length_nil] at this
        omega
      rw [size_data]
      simp only [h2, h1, decide_true, Bool.and_true, decide_eq_true_eq]
      omega
    · simp only [h2, h1, decide_false, Bool.and_false]
  rw [h]
  unfold isCom
  rcases s.data.toList with _ | ⟨a, _ | ⟨b, l⟩⟩
  · rfl
  · simp
  · simp [List.take]
theorem sign_T (src : ByteArray) (a : Nat) (u : UInt8) (l : List UInt8) (h : src.data.toList.drop a = u :: l) : signR src a = shiftR a (if isCom (u :: l) = true then ([], spanL not10 (u :: l)) else ([mkTk 3 ⟨#[u]⟩ 0 0], 1)) := by
  have hl : a < src.size := by
    rcases Nat.lt_or_ge a src.size with h1 | h1
    · exact h1
    · rw [List.drop_of_length_le (by rw [← size_data]; omega)] at h
      cases h
  unfold signR
  rw [pref_slash, tail_list, h]
  split
  · have e1 : ixByte (tailS src a) 10 = Lib.indexByte (u :: l) 10 := by unfold ixByte; rw [tail_list, h]; rfl
    have e2 : spanL not10 (u :: l) = _ := span_ix 10 (u :: l)
    rw [e1, e2]
    split
    · rfl
    · have : (u :: l).length = src.size - a := by rw [← h, List.length_drop, ← size_data]
      simp only [shiftR, List.map_nil, this]
      rw [show a + (src.size - a) = src.size by omega]
  · have e3 : src.extract a (a + 1) = ⟨#[u]⟩ := by
      apply bytes_ext
      rw [cut_list, h, Nat.add_sub_cancel_left]
      rfl
    rw [e3]
    simp [shiftR, atT, mkTk]
theorem step_T {src : ByteArray} {a : Nat} (ha : a < src.size) : stepO src a = (stepT (src.data.toList.drop a)).map (shiftR a) := by
  obtain ⟨u, _, hu⟩ := byte_at ha
  have hd := drop_some hu
  have hs : ∀ ks, spanS src a ks = spanL (clsK ks) (u :: src.data.toList.drop (a + 1)) := fun ks => by unfold spanS restL; rw [hd]
  unfold stepO
  rw [byteC_at hu, word_T, word_T, hs, hs, hs, hd, sign_T src a u _ hd]
  simp only [stepT]
  split
  · rfl
  · split
    · split
      · simp [shiftR, atT, mkTk]
      · rfl
    · split
      · cases numO (wordT [3] (u :: src.data.toList.drop (a + 1))) with
        | none => rfl
        | some v => simp [shiftR, atT, mkTk]
      · split
        · split
          · rfl
          · rfl
        · rfl
theorem cls_head {ks : List Int} {u : UInt8} {l : List UInt8} (h : inK ks (classI (u.toNat : Int)) = true) : 1 ≤ spanL (clsK ks) (u :: l) := by
  have : clsK ks u = true := h
  simp only [spanL, this, if_true]
  omega
theorem com_two {l : List UInt8} (h : isCom l = true) : ∃ m, l = 47 :: 47 :: m := by
  simp only [isCom, Bool.and_eq_true, decide_eq_true_eq] at h
  rcases l with _ | ⟨a, _ | ⟨b, l⟩⟩
  · simp at h
  · simp at h
  · simp at h
    exact ⟨l, by rw [h.1, h.2]⟩
theorem com_app {A : List UInt8} (X : List UInt8) (h : isCom A = true) : isCom (A ++ X) = true := by
  obtain ⟨m, rfl⟩ := com_two h
  rfl
theorem com_pre {A X : List UInt8} (h : isCom (A ++ X) = true) (hl : 2 ≤ A.length) : isCom A = true := by
  rcases A with _ | ⟨a, _ | ⟨b, l⟩⟩
  · simp at hl
  · simp at hl
  · simpa [isCom] using h
theorem com_span {l : List UInt8} (h : isCom l = true) : 2 ≤ spanL not10 l := by
  obtain ⟨m, rfl⟩ := com_two h
  simp only [spanL, show not10 47 = true from rfl, if_true]
  omega
theorem wordT_eq {ks : List Int} {A X : List UInt8} (h : spanL (clsK ks) (A ++ X) = spanL (clsK ks) A) : wordT ks (A ++ X) = wordT ks A := by
  have := spanL_le (clsK ks) A
  unfold wordT
  rw [h, List.take_append_of_le_length this]
/-- The step's length, at each class. -/
theorem stepT_cong {u : UInt8} {A X : List UInt8} (h1 : classI (u.toNat : Int) = 1 → spanL (clsK [1]) (u :: A ++ X) = spanL (clsK [1]) (u :: A))
    (h2 : classI (u.toNat : Int) = 2 → spanL (clsK [2, 3, 5]) (u :: A ++ X) = spanL (clsK [2, 3, 5]) (u :: A)) (h3 : classI (u.toNat : Int) = 3 → spanL (clsK [3]) (u :: A ++ X) = spanL (clsK [3]) (u :: A))
    (h4 : classI (u.toNat : Int) = 4 → isCom (u :: A ++ X) = isCom (u :: A) ∧ (isCom (u :: A) = true → spanL not10 (u :: A ++ X) = spanL not10 (u :: A))) : stepT (u :: A ++ X) = stepT (u :: A) := by
  show stepT (u :: (A ++ X)) = stepT (u :: A)
  simp only [List.cons_append] at h1 h2 h3 h4
  simp only [stepT]
  split
  · rename_i h
    rw [h1 h]
  · split
    · rename_i h
      have e := wordT_eq (ks := [2, 3, 5]) (A := u :: A) (X := X) (h2 h)
      simp only [List.cons_append] at e
      rw [h2 h, e]
    · split
      · rename_i h
        have e := wordT_eq (ks := [3]) (A := u :: A) (X := X) (h3 h)
        simp only [List.cons_append] at e
        rw [h3 h, e]
      · split
        · rename_i h
          obtain ⟨e1, e2⟩ := h4 h
          rw [e1]
          split
          · rename_i hc
            rw [e2 hc]
          · rfl
        · rfl
theorem stepT_len {u : UInt8} {l : List UInt8} {r : List Tk × Nat} (h : stepT (u :: l) = some r) : (classI (u.toNat : Int) = 1 → r.2 = spanL (clsK [1]) (u :: l)) ∧ (classI (u.toNat : Int) = 2 → r.2 = spanL (clsK [2, 3, 5]) (u :: l)) ∧ (classI (u.toNat : Int) = 3 → r.2 = spanL (clsK [3]) (u :: l)) ∧ (classI (u.toNat : Int) = 4 → (isCom (u :: l) = true → r.2 = spanL not10 (u :: l)) ∧ (isCom (u :: l) = false → r.2 = 1)) := by
  simp only [stepT] at h
  split at h
  · rename_i hc
    cases h
    exact ⟨fun _ => rfl, fun e => by omega, fun e => by omega, fun e => by omega⟩
  · split at h
    · split at h
      · cases h
        exact ⟨fun e => by omega, fun _ => rfl, fun e => by omega, fun e => by omega⟩
      · cases h
    · split at h
      · split at h
        · cases h
          exact ⟨fun e => by omega, fun e => by omega, fun _ => rfl, fun e => by omega⟩
        · cases h
      · split at h
        · split at h
          · rename_i hc
            cases h
            exact ⟨fun e => by omega, fun e => by omega, fun e => by omega, fun _ => ⟨fun _ => rfl, fun e => by rw [hc] at e; cases e⟩⟩
          · rename_i hc
            cases h
            exact ⟨fun e => by omega, fun e => by omega, fun e => by omega, fun _ => ⟨fun e => absurd e hc, fun _ => rfl⟩⟩
        · cases h
/-- A step that ends before the end is made whatever follows. -/
theorem stepT_app {u : UInt8} {A : List UInt8} {r : List Tk × Nat} (X : List UInt8) (h : stepT (u :: A) = some r) (hr : r.2 < (u :: A).length) : stepT (u :: A ++ X) = some r := by
  obtain ⟨k1, k2, k3, k4⟩ := stepT_len h
  rw [← h]
  refine stepT_cong (fun e => span_lt X (by rw [← k1 e]; exact hr)) (fun e => span_lt X (by rw [← k2 e]; exact hr)) (fun e => span_lt X (by rw [← k3 e]; exact hr)) (fun e => ?_)
  obtain ⟨k5, k6⟩ := k4 e
  by_cases hc : isCom (u :: A) = true
  · exact ⟨by rw [hc]; exact com_app X hc, fun _ => span_lt X (by rw [← k5 hc]; exact hr)⟩
  · have hc' : isCom (u :: A) = false := by simpa using hc
    rw [k6 hc'] at hr
    refine ⟨?_, fun e => absurd e hc⟩
    cases h7 : isCom (u :: A ++ X) with
    | false => exact hc'.symm
    | true => exact absurd (com_pre h7 hr) hc
/-- A step that ends within a part is made in the part. -/
theorem stepT_pre {u : UInt8} {A X : List UInt8} {r : List Tk × Nat} (h : stepT (u :: A ++ X) = some r) (hr : r.2 ≤ (u :: A).length) : stepT (u :: A) = some r := by
  obtain ⟨k1, k2, k3, k4⟩ := stepT_len (l := A ++ X) h
  rw [← h]
  refine (stepT_cong (fun e => (span_pre X (by have := k1 e; simp only [List.cons_append]; omega)).symm) (fun e => (span_pre X (by have := k2 e; simp only [List.cons_append]; omega)).symm) (fun e => (span_pre X (by have := k3 e; simp only [List.cons_append]; omega)).symm) (fun e => ?_)).symm
  obtain ⟨k5, k6⟩ := k4 e
  by_cases hc : isCom (u :: A ++ X) = true
  · have h5 := k5 hc
    have h6 := com_span hc
    simp only [List.cons_append] at h6
    have h7 := com_pre hc (by omega)
    exact ⟨by rw [hc, h7], fun _ => (span_pre X (by simp only [List.cons_append]; omega)).symm⟩
  · have hc' : isCom (u :: A) = false := by
      cases h7 : isCom (u :: A) with
      | false => rfl
      | true => exact absurd (com_app X h7) hc
    exact ⟨by rw [hc']; simpa using hc, fun e => by rw [hc'] at e; cases e⟩
theorem cls_white {x : UInt8} (hx : classI (x.toNat : Int) = 1) : clsK [2, 3, 5] x = false ∧ clsK [3] x = false := by
  unfold clsK
  rw [hx]
  exact ⟨rfl, rfl⟩
theorem white_slash {x : UInt8} (hx : classI (x.toNat : Int) = 1) : x ≠ 47 := by
  intro e
  subst e
  revert hx
  decide +kernel
/-- White space behind a part turns no step but white space's, and a comment's. -/
theorem stepT_white {u x : UInt8} {A : List UInt8} (X : List UInt8) (hx : classI (x.toNat : Int) = 1) (h1 : classI (u.toNat : Int) ≠ 1) (hc : isCom (u :: A) = true → x = 10) : stepT (u :: A ++ x :: X) = stepT (u :: A) := by
  refine stepT_cong (fun e => absurd e h1) (fun _ => span_stop (cls_white hx).1 _ _) (fun _ => span_stop (cls_white hx).2 _ _) (fun _ => ⟨?_, fun h => ?_⟩)
  · cases h : isCom (u :: A) with
    | true => exact com_app _ h
    | false =>
      cases h7 : isCom (u :: A ++ x :: X) with
      | false => rfl
      | true =>
        cases A with
        | nil =>
          obtain ⟨m, hm⟩ := com_two h7
          simp only [List.cons_append, List.nil_append, List.cons.injEq] at hm
          exact absurd hm.2.1 (white_slash hx)
        | cons b A => rw [com_pre h7 (by simp)] at h; cases h
  · exact span_stop (by rw [hc h]; rfl) _ _

/-! ### Ways -/
inductive Steps (src : ByteArray) : Nat → Nat → List Tk → Prop
  | nil (a : Nat) : Steps src a a []
  | cons {a b : Nat} {ts : List Tk} {r : List Tk × Nat} (h : a < src.size) (hs : stepO src a = some r) (k : Steps src r.2 b ts) : Steps src a b (r.1 ++ ts)
theorem Steps.le {src : ByteArray} {a b : Nat} {ts : List Tk} (h : Steps src a b ts) : a ≤ b := by
  induction h with
  | nil => exact Nat.le_refl _
  | cons h hs k ih =>
    have := step_prog h hs
    omega
theorem Steps.lex {src : ByteArray} {a b : Nat} {ts : List Tk} (h : Steps src a b ts) : ∀ toks, lexFrom src a toks = lexFrom src b (toks ++ ts) := by
  induction h with
  | nil => intro toks; rw [List.append_nil]
  | cons h hs k ih => intro toks; rw [lex_step h hs, ih, List.append_assoc]
theorem lex_way (src : ByteArray) : ∀ (n a : Nat), src.size - a ≤ n → a ≤ src.size → (∃ ts, Steps src a src.size ts ∧ ∀ toks, lexFrom src a toks = (toks ++ ts, 0, 0)) ∨ (∃ b ts, Steps src a b ts ∧ b < src.size ∧ stepO src b = none ∧ ∀ toks, lexFrom src a toks = ([], (b : Int), 30))
  | n, a, hn, ha => by
    by_cases h : a = src.size
    · subst h
      exact .inl ⟨[], .nil _, fun toks => by rw [lex_end toks (Nat.le_refl _), List.append_nil]⟩
    · cases hs : stepO src a with
      | none => exact .inr ⟨a, [], .nil _, by omega, hs, fun toks => lex_bad (by omega) hs⟩
      | some r =>
        have hp := step_prog (by omega) hs
        match n, hn with
        | 0, hn => omega
        | n + 1, hn =>
          rcases lex_way src n r.2 (by omega) (by omega) with ⟨ts, h1, h2⟩ | ⟨b, ts, h1, h2, h3, h4⟩
          · exact .inl ⟨r.1 ++ ts, .cons (by omega) hs h1, fun toks => by rw [lex_step (by omega) hs, h2, List.append_assoc]⟩
          · exact .inr ⟨b, r.1 ++ ts, .cons (by omega) hs h1, h2, h3, fun toks => by rw [lex_step (by omega) hs, h4]⟩
theorem lexE_small {src : ByteArray} (h : src.size ≤ 65536) : lexE src = lexFrom src 0 [] := by
  unfold lexE
  rw [if_neg (by omega)]
theorem Steps.all {src : ByteArray} {P : Tk → Prop} (hP : ∀ a r, stepO src a = some r → ∀ t ∈ r.1, P t) {a b : Nat} {ts : List Tk} (h : Steps src a b ts) : ∀ t ∈ ts, P t := by
  induction h with
  | nil => intro t ht; cases ht
  | cons h hs k ih =>
    intro t ht
    rcases List.mem_append.1 ht with h1 | h1
    · exact hP _ _ hs t h1
    · exact ih t h1

/-! ### Names -/
theorem class_let {c : Int} (h : letterB c = true) : classI c = 2 := by unfold classI; rw [if_pos h]
theorem cls_part {c : Int} (h : partB c = true) : inK [2, 3, 5] (classI c) = true := by
  unfold classI
  by_cases h1 : letterB c = true
  · rw [if_pos h1]
    rfl
  · rw [if_neg h1]
    by_cases h2 : digitB c = true
    · rw [if_pos h2]
      rfl
    · have h3 : decide (c = 95) = true := by
        simp only [partB, Bool.or_eq_true] at h
        rcases h with (h | h) | h
        · exact absurd h h1
        · exact absurd h h2
        · exact h
      rw [if_neg h2, if_pos h3]
      rfl
theorem name_open {s : ByteArray} (h : nameB s = true) : ∃ u l, s.data.toList = u :: l ∧ classI (u.toNat : Int) = 2 ∧ spanL (clsK [2, 3, 5]) (u :: l) = (u :: l).length ∧ s.size ≤ 32 := by
  simp only [nameB, Bool.and_eq_true, Bool.not_eq_true', decide_eq_false_iff_not] at h
  obtain ⟨⟨⟨h1, h2⟩, h3⟩, h4⟩ := h
  rw [size_data] at h1 h2
  cases hl : s.data.toList with
  | nil => rw [hl] at h1; simp at h1
  | cons u l =>
    rw [hl] at h3 h4
    exact ⟨u, l, rfl, class_let h3, span_all (List.all_eq_true.2 fun x hx => cls_part (List.all_eq_true.1 h4 x hx)), by rw [size_data]; omega⟩
theorem stepT_name {s : ByteArray} (h : nameB s = true) : stepT s.data.toList = some ([mkTk 1 s 0 0], s.size) := by
  obtain ⟨u, l, hl, hc, hsp, _⟩ := name_open h
  have hw : wordT [2, 3, 5] (u :: l) = s := by
    apply bytes_ext
    unfold wordT
    rw [hsp, List.take_length, hl]
  rw [hl]
  simp only [stepT]
  rw [if_neg (by omega), if_pos hc, hw, if_pos h, hsp, ← hl, ← size_data]
theorem lex_name {s : ByteArray} (h : nameB s = true) : lexE s = ([mkTk 1 s 0 0], 0, 0) := by
  obtain ⟨u, l, hl, hc, hsp, hz⟩ := name_open h
  have hpos : 0 < s.size := by rw [size_data, hl]; simp
  have hs : stepO s 0 = some ([mkTk 1 s 0 0], 0 + s.size) := by
    rw [step_T hpos, List.drop_zero, stepT_name h]
    simp [shiftR, atT, mkTk]
  rw [lexE_small (by omega), lex_step hpos hs, lex_end _ (by simp)]
  rfl
theorem step_name {src : ByteArray} {a : Nat} {r : List Tk × Nat} (h : stepO src a = some r) : ∀ t ∈ r.1, t.kind = 1 → nameB t.text = true := by
  intro t ht hk
  unfold stepO at h
  split at h
  · cases h
    cases ht
  · split at h
    · split at h
      · rename_i hn
        cases h
        obtain rfl := List.mem_singleton.1 ht
        exact hn
      · cases h
    · split at h
      · split at h
        · cases h
          obtain rfl := List.mem_singleton.1 ht
          simp [mkTk] at hk
        · cases h
      · split at h
        · cases h
          unfold signR at ht
          split at ht
          · split at ht
            · cases ht
            · cases ht
          · obtain rfl := List.mem_singleton.1 ht
            simp [mkTk] at hk
        · cases h
theorem lex_names {s : ByteArray} {t : Tk} (ht : t ∈ (lexE s).1) (hk : t.kind = 1) : nameB t.text = true := by
  unfold lexE at ht
  split at ht
  · cases ht
  · rcases lex_way s s.size 0 (by omega) (by omega) with ⟨ts, h1, h2⟩ | ⟨b, ts, h1, h2, h3, h4⟩
    · rw [h2, List.nil_append] at ht
      exact Steps.all (P := fun t => t.kind = 1 → nameB t.text = true) (fun a r h => step_name h) h1 t ht hk
    · rw [h4] at ht
      cases ht
theorem names_cases {s : ByteArray} (hz : (s.size : Int) ≤ 1000) : (nameB s = true ∧ lexE s = ([mkTk 1 s 0 0], 0, 0)) ∨ (nameB s = false ∧ ∃ l a e, lexE s = (l, a, e) ∧ ¬ e = 0) ∨ (nameB s = false ∧ ∃ l a, lexE s = (l, a, 0) ∧ ¬ (l.length : Int) = 1) ∨ (nameB s = false ∧ ∃ t a, lexE s = ([t], a, 0) ∧ ¬ t.kind = 1) ∨ (nameB s = false ∧ ∃ t a, lexE s = ([t], a, 0) ∧ t.kind = 1 ∧ ¬ t.text = s) := by
  cases hn : nameB s with
  | true => exact .inl ⟨rfl, lex_name hn⟩
  | false =>
    rcases hx : lexE s with ⟨l, a, e⟩
    by_cases he : e = 0
    · subst he
      by_cases h1 : (l.length : Int) = 1
      · obtain ⟨t, rfl⟩ : ∃ t, l = [t] := List.length_eq_one_iff.1 (by omega)
        by_cases hk : t.kind = 1
        · refine .inr (.inr (.inr (.inr ⟨rfl, t, a, rfl, hk, fun e => ?_⟩)))
          have := lex_names (s := s) (t := t) (by rw [hx]; exact List.mem_singleton.2 rfl) hk
          rw [e, hn] at this
          cases this
        · exact .inr (.inr (.inr (.inl ⟨rfl, t, a, rfl, hk⟩)))
      · exact .inr (.inr (.inl ⟨rfl, l, a, rfl, h1⟩))
    · exact .inr (.inl ⟨rfl, l, a, e, rfl, he⟩)
end Go.Proofs.YtghmjnbpkobooaaGreatDoor
