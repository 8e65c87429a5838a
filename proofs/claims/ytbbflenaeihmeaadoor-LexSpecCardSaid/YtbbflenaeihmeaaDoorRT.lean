/-
  How the arguments that a row reads stand in memory: the whole of memory as it lies, turned no more.
-/
import Derived.Test.YtbbflenaeihmeaaDoorBA
import Derived.ProofKit
import Derived.LaidMore
import Derived.OpenShut
import Derived.Stop.Joined
import Derived.Carry
import Derived.ChangeAlike
import Derived.ShutString
set_option linter.unusedVariables false
set_option linter.unusedSimpArgs false
set_option maxRecDepth 10000
set_option maxHeartbeats 4000000
namespace Go.Proofs.YtbbflenaeihmeaaDoor
open Go Go.RowKit

open Go.ChangeShapes Go.WideShapes Go.ChangeAt
/-- The whole of memory, as it lies. -/
def imW (w : World) : Im := fun g => w.heap[g]?
theorem hp_start (w : World) : Hp w (imW w) w [] := ⟨fun _ _ h => h, fun _ h => (by cases h), fun _ h => (by cases h), List.nodup_nil, rfl, rfl⟩
/-- Behind a call that left all of it as it lay. -/
theorem below_of {w w' : World} (h : Hp w (imW w) w' []) : ∃ w2 : World, Below w.heap.size w w2 ∧ w'.Alike w2 := by
  refine ⟨{ w' with tape := w.tape }, ⟨h.os, rfl, h.out, ?_, ?_⟩, rfl, rfl, rfl⟩
  · show w.heap.size ≤ w'.heap.size
    rcases Nat.eq_zero_or_pos w.heap.size with h0 | h0
    · omega
    · have h1 : w.heap.size - 1 < w.heap.size := by omega
      have h2 : w.heap[w.heap.size - 1]? = some (w.heap[w.heap.size - 1]'h1) := by simp [h1]
      have := lt_of_at (h.imm _ _ h2)
      omega
  · intro k hk
    show w'.heap[k]? = _
    have h2 : w.heap[k]? = some (w.heap[k]'hk) := by simp [hk]
    rw [h2]
    exact h.imm _ _ h2
section
variable {H : Type} {enc : TypeId × Value → H} {P : Program} {w : World} {sp : Nat → Bool} {held : Bool} {t e : TypeId}
theorem add0 (a : Addr) : a.spot = none → ∀ j, a.add j = ⟨a.block, a.off + j, none⟩ := by
  rintro h j
  obtain ⟨b, o, s⟩ := a
  cases h
  exact add_mk b o j
theorem rd_cells {a : Addr} {n : Nat} {us : List Value} (h : w.cells? 0 a n = some us) : us.length = n ∧ ∀ j u, us[j]? = some u → w.cell? (a.add j) = some u := by
  unfold World.cells? at h
  rw [if_pos (Nat.zero_le _)] at h
  have h1 := mapM_some_length h
  rw [List.length_range] at h1
  refine ⟨h1, fun j u hu => ?_⟩
  have hj : j < n := by
    have := (List.getElem?_eq_some_iff.1 hu).1
    omega
  rw [mapM_some_get h j j (by simp [hj])]
  exact hu
theorem rd_at {b off n : Nat} {us : List Value} (h : w.cells? 0 ⟨b, off, none⟩ n = some us) (hn : 0 < n) : At (imW w) b off us := by
  obtain ⟨hl, hc⟩ := rd_cells h
  have h0 := hc 0 (us[0]'(by omega)) (List.getElem?_eq_getElem _)
  have hb : ∃ cs e fz, w.heap[b]? = some (.cells cs e fz) := by
    rw [add_mk] at h0
    unfold World.cell? at h0
    simp only at h0
    split at h0
    · exact ⟨_, _, _, by assumption⟩
    · cases h0
  obtain ⟨cs, e, fz, hb⟩ := hb
  refine ⟨cs, e, fz, hb, fun j u hu => ?_⟩
  have := hc j u hu
  rw [add_mk] at this
  simpa [World.cell?, hb] using this
theorem rd_int {n : Nat} {us : List Value} {y : DataW H × List MemPlace} (ht : P.underlying t = some (.int .i64)) (h : DataW.trod enc P w 0 sp held n t us = some y) : ∃ a, us = [.int .i64 a] ∧ I64 a := by
  obtain ⟨a, h1, _, h2⟩ := DataW.trod_int ht h
  refine ⟨a, h1, ?_⟩
  have := bounds_i64 h2
  constructor <;> omega
theorem rd_str {n : Nat} {us : List Value} {y : DataW H × List MemPlace} (ht : P.underlying t = some .string) (h : DataW.trod enc P w 0 sp held n t us = some y) : ∃ s, us = [.string s] ∧ S63 s := by
  obtain ⟨s, h1, _, h2⟩ := DataW.trod_string ht h
  refine ⟨s, h1, ?_⟩
  unfold maxLen at h2
  unfold S63
  omega
theorem rd_u8 {n : Nat} {us : List Value} {y : DataW H × List MemPlace} (ht : P.underlying t = some (.int .u8)) (h : DataW.trod enc P w 0 sp held n t us = some y) : ∃ a, us = [.int .u8 a] ∧ (0 ≤ a ∧ a ≤ 255) := by
  obtain ⟨a, h1, _, h2⟩ := DataW.trod_int ht h
  exact ⟨a, h1, bounds_u8 h2⟩
theorem rd_slice {α : Type} {en : α → List Dat} {sz n : Nat} {us : List Value} {y : DataW H × List MemPlace} (ht : P.underlying t = some (.slice e)) (hs : P.cellsOf e = sz) (hpos : 0 < sz)
    (R : ∀ m, m < n → ∀ us y, DataW.trod enc P w 0 sp held m e us = some y → ∃ a : α, RepL (imW w) (en a) us) (h : DataW.trod enc P w 0 sp held n t us = some y) : ∃ l v, us = [v] ∧ RepS en (imW w) sz l v := by
  rcases DataW.trod_slice ht h with ⟨rfl, _⟩ | ⟨a, len, cap, elems, rest, m, rfl, rfl, _, _, hlc, hcap, hlen, hel, _⟩
  · exact ⟨[], _, rfl, RepS.nil _ _ _⟩
  · unfold maxLen at hcap
    rw [hs] at hel
    have key : ∀ i, i < len → ∃ (x : α) (us : List Value), w.cells? 0 (a.add (i * sz)) sz = some us ∧ RepL (imW w) (en x) us := by
      intro i hi
      have h1 := hel i hi
      have h2 : elems[i]? = some (elems[i]'(by omega)) := List.getElem?_eq_getElem _
      rw [h2] at h1
      cases hc : w.cells? 0 (a.add (i * sz)) sz with
      | none => rw [hc] at h1; cases h1
      | some us =>
        rw [hc] at h1
        obtain ⟨x, hx⟩ := R m (Nat.lt_succ_self _) us _ h1
        exact ⟨x, us, rfl, hx⟩
    have hsp : 0 < len → a.spot = none := by
      intro h0
      obtain ⟨x, us, hc, _⟩ := key 0 h0
      obtain ⟨hl, hc⟩ := rd_cells hc
      have h1 := hc 0 (us[0]'(by omega)) (List.getElem?_eq_getElem _)
      have e0 : (a.add (0 * sz)).add 0 = a := by simp [Addr.add]
      rw [e0] at h1
      exact World.cell?_spot h1
    have pick : ∃ l : List α, l.length = len ∧ ∀ i x, l[i]? = some x → ∃ us, w.cells? 0 (a.add (i * sz)) sz = some us ∧ RepL (imW w) (en x) us := by
      clear hlen hel
      have : ∀ k, k ≤ len → ∃ l : List α, l.length = k ∧ ∀ i x, l[i]? = some x → ∃ us, w.cells? 0 (a.add (i * sz)) sz = some us ∧ RepL (imW w) (en x) us := by
        intro k
        induction k with
        | zero => exact fun _ => ⟨[], rfl, fun i x hx => by simp at hx⟩
        | succ k ih =>
          intro hk
          obtain ⟨l, h1, h2⟩ := ih (by omega)
          obtain ⟨x, us, h3, h4⟩ := key k (by omega)
          refine ⟨l ++ [x], by simp [h1], fun i z hz => ?_⟩
          by_cases hi : i < l.length
          · rw [List.getElem?_append_left hi] at hz
            exact h2 i z hz
          · rw [List.getElem?_append_right (by omega)] at hz
            have : i = k := by
              have := (List.getElem?_eq_some_iff.1 hz).1
              simp at this
              omega
            subst this
            simp [h1] at hz
            subst hz
            exact ⟨us, h3, h4⟩
      exact this len (Nat.le_refl _)
    obtain ⟨l, h1, h2⟩ := pick
    refine ⟨l, _, rfl, ?_⟩
    unfold RepS
    simp only [Rep, List.length_map]
    refine ⟨some a, cap, by rw [h1], by rw [h1]; exact hlc, by omega, ?_⟩
    by_cases h0 : 0 < len
    · have hs := hsp h0
      obtain ⟨b, off, s⟩ := a
      cases hs
      refine RepRow.of fun j x hx => ?_
      rw [List.getElem?_map] at hx
      cases hl : l[j]? with
      | none => rw [hl] at hx; cases hx
      | some z =>
        rw [hl] at hx
        cases hx
        obtain ⟨us, h3, h4⟩ := h2 j z hl
        rw [add_mk] at h3
        rw [Nat.zero_add]
        exact ⟨us, rd_at h3 hpos, (rd_cells h3).1, h4⟩
    · have : l = [] := List.eq_nil_of_length_eq_zero (by omega)
      subst this
      simp only [List.map_nil, RepRow]
end
theorem cells3 : Tryd.prog.cellsOf 3 = 1 := by kernel_rfl
theorem cells9 : Tryd.prog.cellsOf 9 = 1 := by kernel_rfl
theorem cells64 : Tryd.prog.cellsOf 64 = 4 := by kernel_rfl
theorem rd_Tk {H : Type} {enc : TypeId × Value → H} {w : World} {sp : Nat → Bool} {held : Bool} (n : Nat) : ∀ us y, DataW.trod enc Tryd.prog w 0 sp held n 64 us = some y → ∃ x : Tk, RepL (imW w) (encTk x) us := by
  intro us y h
  obtain ⟨xs, n', rfl, _, hl, hlen, hf⟩ := DataW.trod_struct Tryd.underlying64 h
  rw [cells64] at hl
  match us, hl with
  | [c0, c1, c2, c3], _ =>
    obtain ⟨y0, hy0⟩ : ∃ y, xs[0]? = some y := ⟨_, List.getElem?_eq_getElem (by rw [hlen]; decide)⟩
    have h0 : DataW.trod enc Tryd.prog w 0 sp held n' 3 (List.take (Tryd.prog.cellsOf 3) (List.drop 0 [c0, c1, c2, c3])) = some y0 := (hf 0 _ rfl).trans hy0
    simp only [cells3, List.drop_succ_cons, List.drop_zero, List.take_succ_cons, List.take_zero] at h0
    obtain ⟨y1, hy1⟩ : ∃ y, xs[1]? = some y := ⟨_, List.getElem?_eq_getElem (by rw [hlen]; decide)⟩
    have h1 : DataW.trod enc Tryd.prog w 0 sp held n' 9 (List.take (Tryd.prog.cellsOf 9) (List.drop 1 [c0, c1, c2, c3])) = some y1 := (hf 1 _ rfl).trans hy1
    simp only [cells9, List.drop_succ_cons, List.drop_zero, List.take_succ_cons, List.take_zero] at h1
    obtain ⟨y2, hy2⟩ : ∃ y, xs[2]? = some y := ⟨_, List.getElem?_eq_getElem (by rw [hlen]; decide)⟩
    have h2 : DataW.trod enc Tryd.prog w 0 sp held n' 3 (List.take (Tryd.prog.cellsOf 3) (List.drop 2 [c0, c1, c2, c3])) = some y2 := (hf 2 _ rfl).trans hy2
    simp only [cells3, List.drop_succ_cons, List.drop_zero, List.take_succ_cons, List.take_zero] at h2
    obtain ⟨y3, hy3⟩ : ∃ y, xs[3]? = some y := ⟨_, List.getElem?_eq_getElem (by rw [hlen]; decide)⟩
    have h3 : DataW.trod enc Tryd.prog w 0 sp held n' 3 (List.take (Tryd.prog.cellsOf 3) (List.drop 3 [c0, c1, c2, c3])) = some y3 := (hf 3 _ rfl).trans hy3
    simp only [cells3, List.drop_succ_cons, List.drop_zero, List.take_succ_cons, List.take_zero] at h3
    obtain ⟨a0, e0, k0⟩ := rd_int Tryd.underlying3 h0
    cases e0
    obtain ⟨a1, e1, k1⟩ := rd_str Tryd.underlying9 h1
    cases e1
    obtain ⟨a2, e2, k2⟩ := rd_int Tryd.underlying3 h2
    cases e2
    obtain ⟨a3, e3, k3⟩ := rd_int Tryd.underlying3 h3
    cases e3
    exact ⟨⟨a0, a1, a2, a3⟩, tk_iff.2 ⟨rfl, k0, k1, k2, k3⟩⟩
theorem own_ : ownKnob Tryd.prog.godebug = none := by kernel_rfl
theorem laidOut_ : laidOutB Tryd.prog = true := by kernel_rfl
end Go.Proofs.YtbbflenaeihmeaaDoor
