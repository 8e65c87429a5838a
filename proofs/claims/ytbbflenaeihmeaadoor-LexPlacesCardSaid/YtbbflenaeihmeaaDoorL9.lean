/-
  Between the places of a source's tokens there is nothing but white space and comments. Plain Lean.
-/
import Derived.Test.YtbbflenaeihmeaaDoorL7
set_option linter.unusedVariables false
set_option linter.unusedSimpArgs false
namespace Go.Proofs.YtbbflenaeihmeaaDoor
open Go Go.RowKit

def byteN (src : ByteArray) (i : Nat) : Int := match src.data.toList[i]? with
  | some u => (u.toNat : Int)
  | none => 0
/-- Whether a byte stands in a comment. -/
def comN (src : ByteArray) (to_ i : Nat) (c : Bool) : Bool := !decide (byteN src i = 10) && (c || ((decide (byteN src i = 47) && decide ((i : Int) + 1 < (to_ : Int))) && decide (byteN src (i + 1) = 47)))
def gapF (src : ByteArray) (to_ : Nat) : Nat → Nat → Bool → Option Bool
  | 0, _, c => some c
  | f + 1, i, c => if (!comN src to_ i c && !spaceB (byteN src i)) = true then none else gapF src to_ f (i + 1) (comN src to_ i c)
def gapRun (src : ByteArray) (to_ i : Nat) (c : Bool) : Option Bool := gapF src to_ (to_ - i) i c
theorem gap_end {src : ByteArray} {to_ i : Nat} (c : Bool) (h : to_ ≤ i) : gapRun src to_ i c = some c := by
  unfold gapRun
  rw [show to_ - i = 0 by omega]
  rfl
theorem gap_step {src : ByteArray} {to_ i : Nat} (c : Bool) (h : i < to_) : gapRun src to_ i c = if (!comN src to_ i c && !spaceB (byteN src i)) = true then none else gapRun src to_ (i + 1) (comN src to_ i c) := by
  unfold gapRun
  rw [show to_ - i = (to_ - (i + 1)) + 1 by omega]
  rfl
theorem byteN_at {src : ByteArray} {i : Nat} {u : UInt8} (h : src.data.toList[i]? = some u) : byteN src i = (u.toNat : Int) := by rw [byteN, h]
theorem space_of {c : Int} (h : classI c = 1) : spaceB c = true := by
  unfold classI at h
  split at h
  · omega
  · split at h
    · omega
    · split at h
      · omega
      · split at h
        · assumption
        · split at h <;> omega
theorem class_47 : classI 47 = 4 := by decide +kernel
theorem class_10 : classI 10 = 1 := by decide +kernel
/-- White space is passed, and no comment stands behind it. -/
theorem gap_whites {src : ByteArray} {to_ : Nat} : ∀ (k a : Nat) (c : Bool), a + (k + 1) ≤ to_ → (∀ j, j < k + 1 → byteC src (a + j) = 1) → (c = true → byteN src a = 10) → gapRun src to_ a c = gapRun src to_ (a + (k + 1)) false
  | k, a, c, hb, h, hc => by
    have h0 := h 0 (by omega)
    rw [Nat.add_zero] at h0
    obtain ⟨ha, u, hu, _⟩ := class_1 h0
    have hn := byteN_at hu
    have hcl : classI (u.toNat : Int) = 1 := by rw [← byteC_at hu, h0]
    have h47 : byteN src a ≠ 47 := by
      intro e
      rw [← hn, e, class_47] at hcl
      omega
    have hcom : comN src to_ a c = false := by
      unfold comN
      cases c with
      | true => rw [hc rfl]; rfl
      | false =>
        rw [decide_eq_false h47]
        simp
    have hsp : spaceB (byteN src a) = true := space_of (by rw [hn, hcl])
    rw [gap_step c (by omega), hcom, hsp]
    simp only [Bool.not_true, Bool.and_false, Bool.false_eq_true, if_false]
    match k, hb, h with
    | 0, _, _ => rfl
    | k + 1, hb, h =>
      rw [gap_whites k (a + 1) false (by omega) (fun j hj => by rw [show a + 1 + j = a + (j + 1) by omega]; exact h (j + 1) (by omega)) (fun e => by cases e), show a + 1 + (k + 1) = a + (k + 1 + 1) by omega]
/-- Within a comment. -/
theorem gap_within {src : ByteArray} {to_ : Nat} : ∀ (k a : Nat), a + k ≤ to_ → (∀ j, j < k → byteN src (a + j) ≠ 10) → gapRun src to_ a true = gapRun src to_ (a + k) true
  | 0, a, _, _ => rfl
  | k + 1, a, hb, h => by
    have h0 := h 0 (by omega)
    rw [Nat.add_zero] at h0
    have hcom : comN src to_ a true = true := by
      unfold comN
      rw [decide_eq_false h0]
      rfl
    rw [gap_step true (by omega), hcom]
    simp only [Bool.not_true, Bool.false_and, Bool.false_eq_true, if_false]
    rw [gap_within k (a + 1) (by omega) (fun j hj => by rw [show a + 1 + j = a + (j + 1) by omega]; exact h (j + 1) (by omega)), show a + 1 + k = a + (k + 1) by omega]
theorem span_stopped {f : UInt8 → Bool} : ∀ (A : List UInt8), A[spanL f A]? = none ∨ ∃ u, A[spanL f A]? = some u ∧ f u = false
  | [] => .inl rfl
  | u :: A => by
    cases h : f u with
    | false => exact .inr ⟨u, by simp [spanL, h], h⟩
    | true =>
      simp only [spanL, h, if_true, List.getElem?_cons_succ]
      exact span_stopped A
theorem not10_N {src : ByteArray} {i : Nat} {u : UInt8} (hu : src.data.toList[i]? = some u) (h : not10 u = true) : byteN src i ≠ 10 := by
  rw [byteN_at hu]
  intro e
  have : u = 10 := UInt8.toNat_inj.1 (by show u.toNat = 10; omega)
  rw [this] at h
  cases h
/-- A step that gives no token: white space or a comment. -/
theorem step_empty {src : ByteArray} {a b : Nat} (ha : a < src.size) (h : stepO src a = some ([], b)) : (byteC src a = 1 ∧ b = a + spanS src a [1]) ∨ (byteN src a = 47 ∧ byteN src (a + 1) = 47 ∧ b = a + spanL not10 (src.data.toList.drop a)) := by
  obtain ⟨q, h1, h2, h3⟩ := step_some ha h
  obtain ⟨u, A, hd, hl⟩ := head_at ha
  obtain ⟨hu, _⟩ : src.data.toList[a]? = some u ∧ True := by
    have h1 : (src.data.toList.drop a)[0]? = some u := by rw [hd]; rfl
    rw [List.getElem?_drop, Nat.add_zero] at h1
    exact ⟨h1, trivial⟩
  have hq : q.1 = [] := by
    have := congrArg Prod.fst h2
    simp only [shiftR] at this
    exact List.map_eq_nil_iff.1 this.symm
  rw [hd] at h1
  obtain ⟨k1, k2, k3, k4⟩ := stepT_len h1
  simp only at h3
  by_cases c1 : classI (u.toNat : Int) = 1
  · refine .inl ⟨by rw [byteC_at hu, c1], ?_⟩
    have := k1 c1
    unfold spanS restL
    rw [hd]
    omega
  · simp only [stepT] at h1
    rw [if_neg c1] at h1
    split at h1
    · split at h1
      · cases h1
        cases hq
      · cases h1
    · split at h1
      · split at h1
        · cases h1
          cases hq
        · cases h1
      · split at h1
        · rename_i c4
          split at h1
          · rename_i hc
            have := (k4 c4).1 hc
            obtain ⟨m, hm⟩ := com_two hc
            have hd2 : src.data.toList.drop a = 47 :: 47 :: m := by rw [hd, hm]
            have e0 : src.data.toList[a]? = some 47 := by
              have h1 : (src.data.toList.drop a)[0]? = some 47 := by rw [hd2]; rfl
              rwa [List.getElem?_drop, Nat.add_zero] at h1
            have e1 : src.data.toList[a + 1]? = some 47 := by
              have h1 : (src.data.toList.drop a)[1]? = some 47 := by rw [hd2]; rfl
              rwa [List.getElem?_drop] at h1
            exact .inr ⟨byteN_at e0, byteN_at e1, by rw [hd]; omega⟩
          · cases h1
            cases hq
        · cases h1
def Left (src : ByteArray) (b : Nat) (c : Bool) : Prop := c = true → b = src.size ∨ byteN src b = 10
theorem Steps.gap {src : ByteArray} {to_ a b : Nat} {ts : List Tk} (h : Steps src a b ts) : ts = [] → b ≤ to_ → to_ ≤ src.size → ∀ c, Left src a c → ∃ c', gapRun src to_ a c = gapRun src to_ b c' ∧ Left src b c' := by
  induction h with
  | nil => intro _ _ _ c hc; exact ⟨c, rfl, hc⟩
  | @cons a b ts r h hs k ih =>
    intro hts hb hto c hc
    obtain ⟨hr, hts⟩ := List.append_eq_nil_iff.1 hts
    have hp := step_prog h hs
    have hl := k.le
    obtain ⟨r1, r2⟩ := r
    simp only at hr hl hp ih
    subst hr
    have hcc : c = true → byteN src a = 10 := fun e => by
      rcases hc e with h1 | h1
      · omega
      · exact h1
    rcases step_empty h hs with ⟨h1, h2⟩ | ⟨h1, h2, h3⟩
    · obtain ⟨k0, hk0⟩ : ∃ k0, spanS src a [1] = k0 + 1 := ⟨spanS src a [1] - 1, by omega⟩
      obtain ⟨c', h4, h5⟩ := ih hts hb hto false (fun e => by cases e)
      refine ⟨c', ?_, h5⟩
      rw [← h4, h2, hk0]
      refine gap_whites k0 a c (by omega) (fun j hj => ?_) hcc
      obtain ⟨v, hv, hv2⟩ := span_in (f := clsK [1]) (A := restL src a) (j := j) (by unfold spanS at hk0; omega)
      unfold restL at hv
      rw [List.getElem?_drop] at hv
      exact cls1_byte hv hv2
    · have hcf : c = false := by
        cases c with
        | false => rfl
        | true => have := hcc rfl; omega
      subst hcf
      have hlow : 2 ≤ spanL not10 (src.data.toList.drop a) := by
        refine com_span ?_
        have e0 : src.data.toList[a]? = some 47 := by
          obtain ⟨u, _, hu⟩ := byte_at h
          rw [byteN_at hu] at h1
          rw [hu, show u = 47 from UInt8.toNat_inj.1 (by show u.toNat = 47; omega)]
        have e1 : src.data.toList[a + 1]? = some 47 := by
          by_cases hz : a + 1 < src.size
          · obtain ⟨u, _, hu⟩ := byte_at hz
            rw [byteN_at hu] at h2
            rw [hu, show u = 47 from UInt8.toNat_inj.1 (by show u.toNat = 47; omega)]
          · rw [byteN, List.getElem?_eq_none (by rw [← size_data]; omega)] at h2
            cases h2
        unfold isCom
        rw [List.getElem?_drop, List.getElem?_drop, Nat.add_zero, e0, e1]
        rfl
      have hcom : comN src to_ a false = true := by
        unfold comN
        rw [h1, h2, decide_eq_true (show (a : Int) + 1 < (to_ : Int) by omega)]
        rfl
      have hin : gapRun src to_ a false = gapRun src to_ r2 true := by
        rw [gap_step false (by omega), hcom]
        simp only [Bool.not_true, Bool.false_and, Bool.false_eq_true, if_false]
        rw [gap_within (spanL not10 (src.data.toList.drop a) - 1) (a + 1) (by omega) (fun j hj => by
          obtain ⟨v, hv, hv2⟩ := span_in (f := not10) (A := src.data.toList.drop a) (j := j + 1) (by omega)
          rw [List.getElem?_drop] at hv
          rw [show a + 1 + j = a + (j + 1) by omega]
          exact not10_N hv hv2), h3]
        congr 1
        omega
      obtain ⟨c', h4, h5⟩ := ih hts hb hto true (fun _ => by
        rcases span_stopped (f := not10) (src.data.toList.drop a) with h6 | ⟨u, h6, h7⟩
        · rw [List.getElem?_drop, List.getElem?_eq_none_iff, ← size_data] at h6
          omega
        · rw [List.getElem?_drop] at h6
          rw [h3]
          refine .inr ?_
          rw [byteN_at h6]
          have : u = 10 := by simpa [not10] using h7
          rw [this]
          rfl)
      exact ⟨c', by rw [hin, h4], h5⟩
end Go.Proofs.YtbbflenaeihmeaaDoor
