/-
  How long the texts of a row's tokens may be: by the weights of the row.
-/
import Derived.Test.YtbbflenaeihmeaaDoorR2
set_option linter.unusedVariables false
set_option linter.unusedSimpArgs false
set_option maxRecDepth 10000
set_option maxHeartbeats 4000000
namespace Go.Proofs.YtbbflenaeihmeaaDoor
open Go Go.RowKit

open Go.ChangeShapes Go.WideShapes Go.ChangeAt
theorem weights_all {H : Type} {P : Program} {e : TypeId} : ∀ {l : List (DataW H)} {d : DataW H}, d ∈ l → ∀ n ∈ d.weights P e, n ∈ DataW.weightsAll P e l
  | x :: l, d, hd, n, hn => by
    simp only [DataW.weightsAll, List.mem_append]
    rcases List.mem_cons.1 hd with rfl | h
    · exact .inl hn
    · exact .inr (weights_all h n hn)
  | [], _, hd, _, _ => by cases hd
section
variable {H : Type} {enc : TypeId × Value → H} {P : Program} {w : World} {sp : Nat → Bool} {held : Bool} {t e : TypeId}
theorem rd_sliceZ {α : Type} {en : α → List Dat} {Z : α → Prop} {sz n c : Nat} {us : List Value} {y : DataW H × List MemPlace} (ht : P.underlying t = some (.slice e)) (hs : P.cellsOf e = sz) (hpos : 0 < sz)
    (R : ∀ m, m < n → ∀ us y, DataW.trod enc P w 0 sp held m e us = some y → (∀ k ∈ y.1.weights P e, k ≤ c) → ∃ a : α, RepL (imW w) (en a) us ∧ Z a) (h : DataW.trod enc P w 0 sp held n t us = some y) (hw : ∀ k ∈ y.1.weights P t, k ≤ c) : ∃ l v, us = [v] ∧ RepS en (imW w) sz l v ∧ ∀ a ∈ l, Z a := by
  rcases DataW.trod_slice ht h with ⟨rfl, _⟩ | ⟨a, len, cap, elems, rest, m, rfl, rfl, hy, _, hlc, hcap, hlen, hel, _⟩
  · exact ⟨[], _, rfl, RepS.nil _ _ _, fun a ha => by cases ha⟩
  · have hwe : ∀ q ∈ elems, ∀ k ∈ q.1.weights P e, k ≤ c := by
      intro q hq k hk
      refine hw k ?_
      rw [hy]
      simp only [DataW.weights, ht]
      exact List.mem_cons_of_mem _ (List.mem_append_left _ (weights_all (List.mem_map_of_mem hq) k hk))
    unfold maxLen at hcap
    rw [hs] at hel
    have key : ∀ i, i < len → ∃ (x : α) (us : List Value), w.cells? 0 (a.add (i * sz)) sz = some us ∧ RepL (imW w) (en x) us ∧ Z x := by
      intro i hi
      have h1 := hel i hi
      have h2 : elems[i]? = some (elems[i]'(by omega)) := List.getElem?_eq_getElem _
      rw [h2] at h1
      cases hc : w.cells? 0 (a.add (i * sz)) sz with
      | none => rw [hc] at h1; cases h1
      | some us =>
        rw [hc] at h1
        obtain ⟨x, hx⟩ := R m (Nat.lt_succ_self _) us _ h1 (hwe _ (List.mem_of_getElem? h2))
        exact ⟨x, us, rfl, hx⟩
    have hsp : 0 < len → a.spot = none := by
      intro h0
      obtain ⟨x, us, hc, _⟩ := key 0 h0
      obtain ⟨hl, hc⟩ := rd_cells hc
      have h1 := hc 0 (us[0]'(by omega)) (List.getElem?_eq_getElem _)
      have e0 : (a.add (0 * sz)).add 0 = a := by simp [Addr.add]
      rw [e0] at h1
      exact World.cell?_spot h1
    have pick : ∃ l : List α, l.length = len ∧ ∀ i x, l[i]? = some x → (∃ us, w.cells? 0 (a.add (i * sz)) sz = some us ∧ RepL (imW w) (en x) us) ∧ Z x := by
      clear hlen hel
      have : ∀ k, k ≤ len → ∃ l : List α, l.length = k ∧ ∀ i x, l[i]? = some x → (∃ us, w.cells? 0 (a.add (i * sz)) sz = some us ∧ RepL (imW w) (en x) us) ∧ Z x := by
        intro k
        induction k with
        | zero => exact fun _ => ⟨[], rfl, fun i x hx => by simp at hx⟩
        | succ k ih =>
          intro hk
          obtain ⟨l, h1, h2⟩ := ih (by omega)
          obtain ⟨x, us, h3, h4⟩ := key k (by omega)
          refine ⟨l ++ [x], by simp [h1], fun i z hz => ?_⟩
          by_cases hi : i < l.length
          · rw [List.getElem?_append_left hi] at hz
            exact h2 i z hz
          · rw [List.getElem?_append_right (by omega)] at hz
            have : i = k := by
              have := (List.getElem?_eq_some_iff.1 hz).1
              simp at this
              omega
            subst this
            simp [h1] at hz
            subst hz
            exact ⟨⟨us, h3, h4.1⟩, h4.2⟩
      exact this len (Nat.le_refl _)
    obtain ⟨l, h1, h2⟩ := pick
    refine ⟨l, _, rfl, ?_, fun x hx => by obtain ⟨i, hi⟩ := List.getElem?_of_mem hx; exact (h2 i x hi).2⟩
    unfold RepS
    simp only [Rep, List.length_map]
    refine ⟨some a, cap, by rw [h1], by rw [h1]; exact hlc, by omega, ?_⟩
    by_cases h0 : 0 < len
    · have hs := hsp h0
      obtain ⟨b, off, s⟩ := a
      cases hs
      refine RepRow.of fun j x hx => ?_
      rw [List.getElem?_map] at hx
      cases hl : l[j]? with
      | none => rw [hl] at hx; cases hx
      | some z =>
        rw [hl] at hx
        cases hx
        obtain ⟨⟨us, h3, h4⟩, _⟩ := h2 j z hl
        rw [add_mk] at h3
        rw [Nat.zero_add]
        exact ⟨us, rd_at h3 hpos, (rd_cells h3).1, h4⟩
    · have : l = [] := List.eq_nil_of_length_eq_zero (by omega)
      subst this
      simp only [List.map_nil, RepRow]
end
theorem rd_TkZ {c : Nat} {H : Type} {enc : TypeId × Value → H} {w : World} {sp : Nat → Bool} {held : Bool} (n : Nat) : ∀ us y, DataW.trod enc Tryd.prog w 0 sp held n 64 us = some y → (∀ k ∈ y.1.weights Tryd.prog 64, k ≤ c) → ∃ x : Tk, RepL (imW w) (encTk x) us ∧ x.text.size ≤ c := by
  intro us y h hw
  obtain ⟨xs, n', rfl, hyy, hl, hlen, hf⟩ := DataW.trod_struct Tryd.underlying64 h
  rw [cells64] at hl
  match us, hl with
  | [c0, c1, c2, c3], _ =>
    obtain ⟨y0, hy0⟩ : ∃ y, xs[0]? = some y := ⟨_, List.getElem?_eq_getElem (by rw [hlen]; decide)⟩
    have h0 : DataW.trod enc Tryd.prog w 0 sp held n' 3 (List.take (Tryd.prog.cellsOf 3) (List.drop 0 [c0, c1, c2, c3])) = some y0 := (hf 0 _ rfl).trans hy0
    simp only [cells3, List.drop_succ_cons, List.drop_zero, List.take_succ_cons, List.take_zero] at h0
    obtain ⟨y1, hy1⟩ : ∃ y, xs[1]? = some y := ⟨_, List.getElem?_eq_getElem (by rw [hlen]; decide)⟩
    have h1 : DataW.trod enc Tryd.prog w 0 sp held n' 9 (List.take (Tryd.prog.cellsOf 9) (List.drop 1 [c0, c1, c2, c3])) = some y1 := (hf 1 _ rfl).trans hy1
    simp only [cells9, List.drop_succ_cons, List.drop_zero, List.take_succ_cons, List.take_zero] at h1
    obtain ⟨y2, hy2⟩ : ∃ y, xs[2]? = some y := ⟨_, List.getElem?_eq_getElem (by rw [hlen]; decide)⟩
    have h2 : DataW.trod enc Tryd.prog w 0 sp held n' 3 (List.take (Tryd.prog.cellsOf 3) (List.drop 2 [c0, c1, c2, c3])) = some y2 := (hf 2 _ rfl).trans hy2
    simp only [cells3, List.drop_succ_cons, List.drop_zero, List.take_succ_cons, List.take_zero] at h2
    obtain ⟨y3, hy3⟩ : ∃ y, xs[3]? = some y := ⟨_, List.getElem?_eq_getElem (by rw [hlen]; decide)⟩
    have h3 : DataW.trod enc Tryd.prog w 0 sp held n' 3 (List.take (Tryd.prog.cellsOf 3) (List.drop 3 [c0, c1, c2, c3])) = some y3 := (hf 3 _ rfl).trans hy3
    simp only [cells3, List.drop_succ_cons, List.drop_zero, List.take_succ_cons, List.take_zero] at h3
    obtain ⟨a0, e0, k0⟩ := rd_int Tryd.underlying3 h0
    cases e0
    obtain ⟨a1_, q1_, x1_, _⟩ := DataW.trod_string Tryd.underlying9 h1
    obtain ⟨a1, e1, k1⟩ := rd_str Tryd.underlying9 h1
    cases e1
    obtain ⟨a2, e2, k2⟩ := rd_int Tryd.underlying3 h2
    cases e2
    obtain ⟨a3, e3, k3⟩ := rd_int Tryd.underlying3 h3
    cases e3
    obtain rfl : a1_ = a1 := by
      simp only [List.cons.injEq, Value.string.injEq, and_true] at q1_
      exact q1_.symm
    refine ⟨⟨a0, a1_, a2, a3⟩, tk_iff.2 ⟨rfl, k0, k1, k2, k3⟩, ?_⟩
    refine hw a1_.size ?_
    rw [hyy]
    simp only [DataW.weights, Tryd.underlying64]
    refine DataW.weights_mem_each (j := 1) (t := 9) (d := y1.1) rfl (by rw [List.getElem?_map, hy1]; rfl) _ ?_
    rw [x1_]
    simp [DataW.weights]
theorem rd_toksZ {H : Type} {enc : TypeId × Value → H} {w : World} {sp : Nat → Bool} {held : Bool} {n c : Nat} {us : List Value} {y : DataW H × List MemPlace} (h : DataW.trod enc Tryd.prog w 0 sp held n 53 us = some y) (hw : ∀ k ∈ y.1.weights Tryd.prog 53, k ≤ c) : ∃ l v, us = [v] ∧ RepS encTk (imW w) 4 l v ∧ ∀ t ∈ l, t.text.size ≤ c :=
  rd_sliceZ (en := encTk) (Z := fun t : Tk => t.text.size ≤ c) Tryd.underlying53 cells64 (by decide) (fun m _ us y h hw => rd_TkZ m us y h hw) h hw
end Go.Proofs.YtbbflenaeihmeaaDoor
