/-
  The library's own variables, as the row lists them, in our words.
-/
import Derived.Test.YtghmjnbpkobooaaGreatDoorBA
import Derived.Test.YtghmjnbpkobooaaGreatDoorS1
import Derived.ProofKit
import Derived.LaidMore
import Derived.OpenShut
import Derived.Stop.Joined
import Derived.Carry
import Derived.ChangeAlike
import Derived.ShutString
import Derived.Test.YtghmjnbpkobooaaGreatDoorQ0
import Derived.Test.YtghmjnbpkobooaaGreatDoorTie
import Derived.Test.YtghmjnbpkobooaaGreatDoorCards
import Derived.WalkKit
import Derived.ChangeOld
import Derived.Below
import Derived.SizedLaws
import Derived.SevenTiedAt
import Derived.Stop.LaidErr
import Derived.Lib.LaidTab
set_option linter.unusedVariables false
set_option linter.unusedSimpArgs false
set_option maxRecDepth 10000
set_option maxHeartbeats 4000000
namespace Go.Proofs.YtghmjnbpkobooaaGreatDoor
open Go Go.RowKit

open Go.ChangeShapes Go.WideShapes Go.ChangeAt
theorem okWide_agg_ {P : Program} {w : World} {r : Reach} {base : Nat} {t : TypeId} {fs : Array Field} {v : Value} (ht : P.underlying t = some (.struct fs)) (h : Value.okWide P w r base t v) : ∃ cs, v = .agg cs ∧ cs.size = P.cellsOf t := by
  simp only [Value.okWide, ht] at h
  obtain ⟨cs, h1, h2, _⟩ := h
  exact ⟨cs, h1, h2⟩
/-- The whole of memory, as it lies. -/
def imW (w : World) : Im := fun g => w.heap[g]?
theorem hp_start (w : World) : Hp w (imW w) w [] := ⟨fun _ _ h => h, fun _ h => (by cases h), fun _ h => (by cases h), List.nodup_nil, rfl, rfl⟩
/-- Behind a call that left all of it as it lay. -/
theorem below_of {w w' : World} (h : Hp w (imW w) w' []) : ∃ w2 : World, Below w.heap.size w w2 ∧ w'.Alike w2 := by
  refine ⟨{ w' with tape := w.tape }, ⟨h.os, rfl, h.out, ?_, ?_⟩, rfl, rfl, rfl⟩
  · show w.heap.size ≤ w'.heap.size
    rcases Nat.eq_zero_or_pos w.heap.size with h0 | h0
    · omega
    · have h1 : w.heap.size - 1 < w.heap.size := by omega
      have h2 : w.heap[w.heap.size - 1]? = some (w.heap[w.heap.size - 1]'h1) := by simp [h1]
      have := lt_of_at (h.imm _ _ h2)
      omega
  · intro k hk
    show w'.heap[k]? = _
    have h2 : w.heap[k]? = some (w.heap[k]'hk) := by simp [hk]
    rw [h2]
    exact h.imm _ _ h2
section
variable {H : Type} {enc : TypeId × Value → H} {P : Program} {w : World} {sp : Nat → Bool} {held : Bool} {t e : TypeId}
theorem add0 (a : Addr) : a.spot = none → ∀ j, a.add j = ⟨a.block, a.off + j, none⟩ := by
  rintro h j
  obtain ⟨b, o, s⟩ := a
  cases h
  exact add_mk b o j
theorem rd_cells {a : Addr} {n : Nat} {us : List Value} (h : w.cells? 0 a n = some us) : us.length = n ∧ ∀ j u, us[j]? = some u → w.cell? (a.add j) = some u := by
  unfold World.cells? at h
  rw [if_pos (Nat.zero_le _)] at h
  have h1 := mapM_some_length h
  rw [List.length_range] at h1
  refine ⟨h1, fun j u hu => ?_⟩
  have hj : j < n := by
    have := (List.getElem?_eq_some_iff.1 hu).1
    omega
  rw [mapM_some_get h j j (by simp [hj])]
  exact hu
theorem rd_at {b off n : Nat} {us : List Value} (h : w.cells? 0 ⟨b, off, none⟩ n = some us) (hn : 0 < n) : At (imW w) b off us := by
  obtain ⟨hl, hc⟩ := rd_cells h
  have h0 := hc 0 (us[0]'(by omega)) (List.getElem?_eq_getElem _)
  have hb : ∃ cs e fz, w.heap[b]? = some (.cells cs e fz) := by
    rw [add_mk] at h0
    unfold World.cell? at h0
    simp only at h0
    split at h0
    · exact ⟨_, _, _, by assumption⟩
    · cases h0
  obtain ⟨cs, e, fz, hb⟩ := hb
  refine ⟨cs, e, fz, hb, fun j u hu => ?_⟩
  have := hc j u hu
  rw [add_mk] at this
  simpa [World.cell?, hb] using this
theorem rd_int {n : Nat} {us : List Value} {y : DataW H × List MemPlace} (ht : P.underlying t = some (.int .i64)) (h : DataW.trod enc P w 0 sp held n t us = some y) : ∃ a, us = [.int .i64 a] ∧ I64 a := by
  obtain ⟨a, h1, _, h2⟩ := DataW.trod_int ht h
  refine ⟨a, h1, ?_⟩
  have := bounds_i64 h2
  constructor <;> omega
theorem rd_str {n : Nat} {us : List Value} {y : DataW H × List MemPlace} (ht : P.underlying t = some .string) (h : DataW.trod enc P w 0 sp held n t us = some y) : ∃ s, us = [.string s] ∧ S63 s := by
  obtain ⟨s, h1, _, h2⟩ := DataW.trod_string ht h
  refine ⟨s, h1, ?_⟩
  unfold maxLen at h2
  unfold S63
  omega
theorem rd_u8 {n : Nat} {us : List Value} {y : DataW H × List MemPlace} (ht : P.underlying t = some (.int .u8)) (h : DataW.trod enc P w 0 sp held n t us = some y) : ∃ a, us = [.int .u8 a] ∧ (0 ≤ a ∧ a ≤ 255) := by
  obtain ⟨a, h1, _, h2⟩ := DataW.trod_int ht h
  exact ⟨a, h1, bounds_u8 h2⟩
theorem rd_slice {α : Type} {en : α → List Dat} {sz n : Nat} {us : List Value} {y : DataW H × List MemPlace} (ht : P.underlying t = some (.slice e)) (hs : P.cellsOf e = sz) (hpos : 0 < sz)
    (R : ∀ m, m < n → ∀ us y, DataW.trod enc P w 0 sp held m e us = some y → ∃ a : α, RepL (imW w) (en a) us) (h : DataW.trod enc P w 0 sp held n t us = some y) : ∃ l v, us = [v] ∧ RepS en (imW w) sz l v := by
  rcases DataW.trod_slice ht h with ⟨rfl, _⟩ | ⟨a, len, cap, elems, rest, m, rfl, rfl, _, _, hlc, hcap, hlen, hel, _⟩
  · exact ⟨[], _, rfl, RepS.nil _ _ _⟩
  · unfold maxLen at hcap
    rw [hs] at hel
    have key : ∀ i, i < len → ∃ (x : α) (us : List Value), w.cells? 0 (a.add (i * sz)) sz = some us ∧ RepL (imW w) (en x) us := by
      intro i hi
      have h1 := hel i hi
      have h2 : elems[i]? = some (elems[i]'(by omega)) := List.getElem?_eq_getElem _
      rw [h2] at h1
      cases hc : w.cells? 0 (a.add (i * sz)) sz with
      | none => rw [hc] at h1; cases h1
      | some us =>
        rw [hc] at h1
        obtain ⟨x, hx⟩ := R m (Nat.lt_succ_self _) us _ h1
        exact ⟨x, us, rfl, hx⟩
    have hsp : 0 < len → a.spot = none := by
      intro h0
      obtain ⟨x, us, hc, _⟩ := key 0 h0
      obtain ⟨hl, hc⟩ := rd_cells hc
      have h1 := hc 0 (us[0]'(by omega)) (List.getElem?_eq_getElem _)
      have e0 : (a.add (0 * sz)).add 0 = a := by simp [Addr.add]
      rw [e0] at h1
      exact World.cell?_spot h1
    have pick : ∃ l : List α, l.length = len ∧ ∀ i x, l[i]? = some x → ∃ us, w.cells? 0 (a.add (i * sz)) sz = some us ∧ RepL (imW w) (en x) us := by
      clear hlen hel
      have : ∀ k, k ≤ len → ∃ l : List α, l.length = k ∧ ∀ i x, l[i]? = some x → ∃ us, w.cells? 0 (a.add (i * sz)) sz = some us ∧ RepL (imW w) (en x) us := by
        intro k
        induction k with
        | zero => exact fun _ => ⟨[], rfl, fun i x hx => by simp at hx⟩
        | succ k ih =>
          intro hk
          obtain ⟨l, h1, h2⟩ := ih (by omega)
          obtain ⟨x, us, h3, h4⟩ := key k (by omega)
          refine ⟨l ++ [x], by simp [h1], fun i z hz => ?_⟩
          by_cases hi : i < l.length
          · rw [List.getElem?_append_left hi] at hz
            exact h2 i z hz
          · rw [List.getElem?_append_right (by omega)] at hz
            have : i = k := by
              have := (List.getElem?_eq_some_iff.1 hz).1
              simp at this
              omega
            subst this
            simp [h1] at hz
            subst hz
            exact ⟨us, h3, h4⟩
      exact this len (Nat.le_refl _)
    obtain ⟨l, h1, h2⟩ := pick
    refine ⟨l, _, rfl, ?_⟩
    unfold RepS
    simp only [Rep, List.length_map]
    refine ⟨some a, cap, by rw [h1], by rw [h1]; exact hlc, by omega, ?_⟩
    by_cases h0 : 0 < len
    · have hs := hsp h0
      obtain ⟨b, off, s⟩ := a
      cases hs
      refine RepRow.of fun j x hx => ?_
      rw [List.getElem?_map] at hx
      cases hl : l[j]? with
      | none => rw [hl] at hx; cases hx
      | some z =>
        rw [hl] at hx
        cases hx
        obtain ⟨us, h3, h4⟩ := h2 j z hl
        rw [add_mk] at h3
        rw [Nat.zero_add]
        exact ⟨us, rd_at h3 hpos, (rd_cells h3).1, h4⟩
    · have : l = [] := List.eq_nil_of_length_eq_zero (by omega)
      subst this
      simp only [List.map_nil, RepRow]
end
theorem cells3 : Tryz.prog.cellsOf 3 = 1 := by kernel_rfl
theorem cells9 : Tryz.prog.cellsOf 9 = 1 := by kernel_rfl
theorem cells22 : Tryz.prog.cellsOf 22 = 1 := by kernel_rfl
theorem cells23 : Tryz.prog.cellsOf 23 = 1 := by kernel_rfl
theorem cells24 : Tryz.prog.cellsOf 24 = 1 := by kernel_rfl
theorem cells26 : Tryz.prog.cellsOf 26 = 5 := by kernel_rfl
theorem cells28 : Tryz.prog.cellsOf 28 = 10 := by kernel_rfl
theorem cells71 : Tryz.prog.cellsOf 71 = 4 := by kernel_rfl
theorem cells84 : Tryz.prog.cellsOf 84 = 8 := by kernel_rfl
theorem rd_Ex {H : Type} {enc : TypeId × Value → H} {w : World} {sp : Nat → Bool} {held : Bool} (n : Nat) : ∀ us y, DataW.trod enc Tryz.prog w 0 sp held n 26 us = some y → ∃ x : Ex, RepL (imW w) (encEx x) us := by
  induction n using Nat.strongRecOn with
  | ind n ih =>
  intro us y h
  obtain ⟨xs, n', rfl, _, hl, hlen, hf⟩ := DataW.trod_struct Tryz.underlying26 h
  rw [cells26] at hl
  match us, hl with
  | [c0, c1, c2, c3, c4], _ =>
    obtain ⟨y0, hy0⟩ : ∃ y, xs[0]? = some y := ⟨_, List.getElem?_eq_getElem (by rw [hlen]; decide)⟩
    have h0 : DataW.trod enc Tryz.prog w 0 sp held n' 3 (List.take (Tryz.prog.cellsOf 3) (List.drop 0 [c0, c1, c2, c3, c4])) = some y0 := (hf 0 _ rfl).trans hy0
    simp only [cells3, List.drop_succ_cons, List.drop_zero, List.take_succ_cons, List.take_zero] at h0
    obtain ⟨y1, hy1⟩ : ∃ y, xs[1]? = some y := ⟨_, List.getElem?_eq_getElem (by rw [hlen]; decide)⟩
    have h1 : DataW.trod enc Tryz.prog w 0 sp held n' 3 (List.take (Tryz.prog.cellsOf 3) (List.drop 1 [c0, c1, c2, c3, c4])) = some y1 := (hf 1 _ rfl).trans hy1
    simp only [cells3, List.drop_succ_cons, List.drop_zero, List.take_succ_cons, List.take_zero] at h1
    obtain ⟨y2, hy2⟩ : ∃ y, xs[2]? = some y := ⟨_, List.getElem?_eq_getElem (by rw [hlen]; decide)⟩
    have h2 : DataW.trod enc Tryz.prog w 0 sp held n' 3 (List.take (Tryz.prog.cellsOf 3) (List.drop 2 [c0, c1, c2, c3, c4])) = some y2 := (hf 2 _ rfl).trans hy2
    simp only [cells3, List.drop_succ_cons, List.drop_zero, List.take_succ_cons, List.take_zero] at h2
    obtain ⟨y3, hy3⟩ : ∃ y, xs[3]? = some y := ⟨_, List.getElem?_eq_getElem (by rw [hlen]; decide)⟩
    have h3 : DataW.trod enc Tryz.prog w 0 sp held n' 9 (List.take (Tryz.prog.cellsOf 9) (List.drop 3 [c0, c1, c2, c3, c4])) = some y3 := (hf 3 _ rfl).trans hy3
    simp only [cells9, List.drop_succ_cons, List.drop_zero, List.take_succ_cons, List.take_zero] at h3
    obtain ⟨y4, hy4⟩ : ∃ y, xs[4]? = some y := ⟨_, List.getElem?_eq_getElem (by rw [hlen]; decide)⟩
    have h4 : DataW.trod enc Tryz.prog w 0 sp held n' 24 (List.take (Tryz.prog.cellsOf 24) (List.drop 4 [c0, c1, c2, c3, c4])) = some y4 := (hf 4 _ rfl).trans hy4
    simp only [cells24, List.drop_succ_cons, List.drop_zero, List.take_succ_cons, List.take_zero] at h4
    obtain ⟨a0, e0, k0⟩ := rd_int Tryz.underlying3 h0
    cases e0
    obtain ⟨a1, e1, k1⟩ := rd_int Tryz.underlying3 h1
    cases e1
    obtain ⟨a2, e2, k2⟩ := rd_int Tryz.underlying3 h2
    cases e2
    obtain ⟨a3, e3, k3⟩ := rd_str Tryz.underlying9 h3
    cases e3
    obtain ⟨a4, v4, e4, k4⟩ := rd_slice (en := encEx) Tryz.underlying24 cells26 (by decide) (fun m_ hm_ us_ y_ h_ => ih m_ (by omega) us_ y_ h_) h4
    cases e4
    exact ⟨⟨a0, a1, a2, a3, a4⟩, ex_iff.2 ⟨_, rfl, k0, k1, k2, k3, k4⟩⟩
theorem rd_Ru {H : Type} {enc : TypeId × Value → H} {w : World} {sp : Nat → Bool} {held : Bool} (n : Nat) : ∀ us y, DataW.trod enc Tryz.prog w 0 sp held n 84 us = some y → ∃ x : Ru, RepL (imW w) (encRu x) us := by
  intro us y h
  obtain ⟨xs, n', rfl, _, hl, hlen, hf⟩ := DataW.trod_struct Tryz.underlying84 h
  rw [cells84] at hl
  match us, hl with
  | [c0, c1, c2, c3, c4, c5, c6, c7], _ =>
    obtain ⟨y0, hy0⟩ : ∃ y, xs[0]? = some y := ⟨_, List.getElem?_eq_getElem (by rw [hlen]; decide)⟩
    have h0 : DataW.trod enc Tryz.prog w 0 sp held n' 9 (List.take (Tryz.prog.cellsOf 9) (List.drop 0 [c0, c1, c2, c3, c4, c5, c6, c7])) = some y0 := (hf 0 _ rfl).trans hy0
    simp only [cells9, List.drop_succ_cons, List.drop_zero, List.take_succ_cons, List.take_zero] at h0
    obtain ⟨y1, hy1⟩ : ∃ y, xs[1]? = some y := ⟨_, List.getElem?_eq_getElem (by rw [hlen]; decide)⟩
    have h1 : DataW.trod enc Tryz.prog w 0 sp held n' 3 (List.take (Tryz.prog.cellsOf 3) (List.drop 1 [c0, c1, c2, c3, c4, c5, c6, c7])) = some y1 := (hf 1 _ rfl).trans hy1
    simp only [cells3, List.drop_succ_cons, List.drop_zero, List.take_succ_cons, List.take_zero] at h1
    obtain ⟨y2, hy2⟩ : ∃ y, xs[2]? = some y := ⟨_, List.getElem?_eq_getElem (by rw [hlen]; decide)⟩
    have h2 : DataW.trod enc Tryz.prog w 0 sp held n' 3 (List.take (Tryz.prog.cellsOf 3) (List.drop 2 [c0, c1, c2, c3, c4, c5, c6, c7])) = some y2 := (hf 2 _ rfl).trans hy2
    simp only [cells3, List.drop_succ_cons, List.drop_zero, List.take_succ_cons, List.take_zero] at h2
    obtain ⟨y3, hy3⟩ : ∃ y, xs[3]? = some y := ⟨_, List.getElem?_eq_getElem (by rw [hlen]; decide)⟩
    have h3 : DataW.trod enc Tryz.prog w 0 sp held n' 26 (List.take (Tryz.prog.cellsOf 26) (List.drop 3 [c0, c1, c2, c3, c4, c5, c6, c7])) = some y3 := (hf 3 _ rfl).trans hy3
    simp only [cells26, List.drop_succ_cons, List.drop_zero, List.take_succ_cons, List.take_zero] at h3
    obtain ⟨a0, e0, k0⟩ := rd_str Tryz.underlying9 h0
    cases e0
    obtain ⟨a1, e1, k1⟩ := rd_int Tryz.underlying3 h1
    cases e1
    obtain ⟨a2, e2, k2⟩ := rd_int Tryz.underlying3 h2
    cases e2
    obtain ⟨a3, k3⟩ := rd_Ex _ _ _ h3
    obtain ⟨v, e, q1, q2, q3, q4, q5⟩ := ex_iff.1 k3
    cases e
    exact ⟨⟨a0, a1, a2, a3⟩, ru_iff.2 ⟨_, rfl, k0, k1, k2, q1, q2, q3, q4, q5⟩⟩
theorem rd_Po {H : Type} {enc : TypeId × Value → H} {w : World} {sp : Nat → Bool} {held : Bool} (n : Nat) : ∀ us y, DataW.trod enc Tryz.prog w 0 sp held n 28 us = some y → ∃ x : Po, RepL (imW w) (encPo x) us := by
  intro us y h
  obtain ⟨xs, n', rfl, _, hl, hlen, hf⟩ := DataW.trod_struct Tryz.underlying28 h
  rw [cells28] at hl
  match us, hl with
  | [c0, c1, c2, c3, c4, c5, c6, c7, c8, c9], _ =>
    obtain ⟨y0, hy0⟩ : ∃ y, xs[0]? = some y := ⟨_, List.getElem?_eq_getElem (by rw [hlen]; decide)⟩
    have h0 : DataW.trod enc Tryz.prog w 0 sp held n' 9 (List.take (Tryz.prog.cellsOf 9) (List.drop 0 [c0, c1, c2, c3, c4, c5, c6, c7, c8, c9])) = some y0 := (hf 0 _ rfl).trans hy0
    simp only [cells9, List.drop_succ_cons, List.drop_zero, List.take_succ_cons, List.take_zero] at h0
    obtain ⟨y1, hy1⟩ : ∃ y, xs[1]? = some y := ⟨_, List.getElem?_eq_getElem (by rw [hlen]; decide)⟩
    have h1 : DataW.trod enc Tryz.prog w 0 sp held n' 22 (List.take (Tryz.prog.cellsOf 22) (List.drop 1 [c0, c1, c2, c3, c4, c5, c6, c7, c8, c9])) = some y1 := (hf 1 _ rfl).trans hy1
    simp only [cells22, List.drop_succ_cons, List.drop_zero, List.take_succ_cons, List.take_zero] at h1
    obtain ⟨y2, hy2⟩ : ∃ y, xs[2]? = some y := ⟨_, List.getElem?_eq_getElem (by rw [hlen]; decide)⟩
    have h2 : DataW.trod enc Tryz.prog w 0 sp held n' 22 (List.take (Tryz.prog.cellsOf 22) (List.drop 2 [c0, c1, c2, c3, c4, c5, c6, c7, c8, c9])) = some y2 := (hf 2 _ rfl).trans hy2
    simp only [cells22, List.drop_succ_cons, List.drop_zero, List.take_succ_cons, List.take_zero] at h2
    obtain ⟨y3, hy3⟩ : ∃ y, xs[3]? = some y := ⟨_, List.getElem?_eq_getElem (by rw [hlen]; decide)⟩
    have h3 : DataW.trod enc Tryz.prog w 0 sp held n' 23 (List.take (Tryz.prog.cellsOf 23) (List.drop 3 [c0, c1, c2, c3, c4, c5, c6, c7, c8, c9])) = some y3 := (hf 3 _ rfl).trans hy3
    simp only [cells23, List.drop_succ_cons, List.drop_zero, List.take_succ_cons, List.take_zero] at h3
    obtain ⟨y4, hy4⟩ : ∃ y, xs[4]? = some y := ⟨_, List.getElem?_eq_getElem (by rw [hlen]; decide)⟩
    have h4 : DataW.trod enc Tryz.prog w 0 sp held n' 26 (List.take (Tryz.prog.cellsOf 26) (List.drop 4 [c0, c1, c2, c3, c4, c5, c6, c7, c8, c9])) = some y4 := (hf 4 _ rfl).trans hy4
    simp only [cells26, List.drop_succ_cons, List.drop_zero, List.take_succ_cons, List.take_zero] at h4
    obtain ⟨y5, hy5⟩ : ∃ y, xs[5]? = some y := ⟨_, List.getElem?_eq_getElem (by rw [hlen]; decide)⟩
    have h5 : DataW.trod enc Tryz.prog w 0 sp held n' 3 (List.take (Tryz.prog.cellsOf 3) (List.drop 9 [c0, c1, c2, c3, c4, c5, c6, c7, c8, c9])) = some y5 := (hf 5 _ rfl).trans hy5
    simp only [cells3, List.drop_succ_cons, List.drop_zero, List.take_succ_cons, List.take_zero] at h5
    obtain ⟨a0, e0, k0⟩ := rd_str Tryz.underlying9 h0
    cases e0
    obtain ⟨a1, v1, e1, k1⟩ := rd_slice (en := encS) Tryz.underlying22 cells9 (by decide) (fun _ _ _ _ h_ => by obtain ⟨s_, rfl, k_⟩ := rd_str Tryz.underlying9 h_; exact ⟨s_, s_iff.2 ⟨rfl, k_⟩⟩) h1
    cases e1
    obtain ⟨a2, v2, e2, k2⟩ := rd_slice (en := encS) Tryz.underlying22 cells9 (by decide) (fun _ _ _ _ h_ => by obtain ⟨s_, rfl, k_⟩ := rd_str Tryz.underlying9 h_; exact ⟨s_, s_iff.2 ⟨rfl, k_⟩⟩) h2
    cases e2
    obtain ⟨a3, v3, e3, k3⟩ := rd_slice (en := encRu) Tryz.underlying23 cells84 (by decide) (fun m_ _ us_ y_ h_ => rd_Ru m_ us_ y_ h_) h3
    cases e3
    obtain ⟨a4, k4⟩ := rd_Ex _ _ _ h4
    obtain ⟨a5, e5, k5⟩ := rd_int Tryz.underlying3 h5
    cases e5
    obtain ⟨v, e, q1, q2, q3, q4, q5⟩ := ex_iff.1 k4
    cases e
    exact ⟨⟨a0, a1, a2, a3, a4, a5⟩, po_iff.2 ⟨_, _, _, _, rfl, k0, k1, k2, k3, q1, q2, q3, q4, q5, k5⟩⟩
theorem rd_Tk {H : Type} {enc : TypeId × Value → H} {w : World} {sp : Nat → Bool} {held : Bool} (n : Nat) : ∀ us y, DataW.trod enc Tryz.prog w 0 sp held n 71 us = some y → ∃ x : Tk, RepL (imW w) (encTk x) us := by
  intro us y h
  obtain ⟨xs, n', rfl, _, hl, hlen, hf⟩ := DataW.trod_struct Tryz.underlying71 h
  rw [cells71] at hl
  match us, hl with
  | [c0, c1, c2, c3], _ =>
    obtain ⟨y0, hy0⟩ : ∃ y, xs[0]? = some y := ⟨_, List.getElem?_eq_getElem (by rw [hlen]; decide)⟩
    have h0 : DataW.trod enc Tryz.prog w 0 sp held n' 3 (List.take (Tryz.prog.cellsOf 3) (List.drop 0 [c0, c1, c2, c3])) = some y0 := (hf 0 _ rfl).trans hy0
    simp only [cells3, List.drop_succ_cons, List.drop_zero, List.take_succ_cons, List.take_zero] at h0
    obtain ⟨y1, hy1⟩ : ∃ y, xs[1]? = some y := ⟨_, List.getElem?_eq_getElem (by rw [hlen]; decide)⟩
    have h1 : DataW.trod enc Tryz.prog w 0 sp held n' 9 (List.take (Tryz.prog.cellsOf 9) (List.drop 1 [c0, c1, c2, c3])) = some y1 := (hf 1 _ rfl).trans hy1
    simp only [cells9, List.drop_succ_cons, List.drop_zero, List.take_succ_cons, List.take_zero] at h1
    obtain ⟨y2, hy2⟩ : ∃ y, xs[2]? = some y := ⟨_, List.getElem?_eq_getElem (by rw [hlen]; decide)⟩
    have h2 : DataW.trod enc Tryz.prog w 0 sp held n' 3 (List.take (Tryz.prog.cellsOf 3) (List.drop 2 [c0, c1, c2, c3])) = some y2 := (hf 2 _ rfl).trans hy2
    simp only [cells3, List.drop_succ_cons, List.drop_zero, List.take_succ_cons, List.take_zero] at h2
    obtain ⟨y3, hy3⟩ : ∃ y, xs[3]? = some y := ⟨_, List.getElem?_eq_getElem (by rw [hlen]; decide)⟩
    have h3 : DataW.trod enc Tryz.prog w 0 sp held n' 3 (List.take (Tryz.prog.cellsOf 3) (List.drop 3 [c0, c1, c2, c3])) = some y3 := (hf 3 _ rfl).trans hy3
    simp only [cells3, List.drop_succ_cons, List.drop_zero, List.take_succ_cons, List.take_zero] at h3
    obtain ⟨a0, e0, k0⟩ := rd_int Tryz.underlying3 h0
    cases e0
    obtain ⟨a1, e1, k1⟩ := rd_str Tryz.underlying9 h1
    cases e1
    obtain ⟨a2, e2, k2⟩ := rd_int Tryz.underlying3 h2
    cases e2
    obtain ⟨a3, e3, k3⟩ := rd_int Tryz.underlying3 h3
    cases e3
    exact ⟨⟨a0, a1, a2, a3⟩, tk_iff.2 ⟨rfl, k0, k1, k2, k3⟩⟩
theorem own_ : ownKnob Tryz.prog.godebug = none := by kernel_rfl
theorem laidOut_ : laidOutB Tryz.prog = true := by kernel_rfl
end Go.Proofs.YtghmjnbpkobooaaGreatDoor

set_option linter.unusedVariables false
set_option linter.unusedSimpArgs false
set_option maxRecDepth 10000
set_option maxHeartbeats 4000000
namespace Go.Proofs.YtghmjnbpkobooaaGreatDoor
open Go Go.RowKit

open Go.ChangeShapes Go.WideShapes Go.ChangeAt
open Go.ChangeMaps (open_string shut_string)
def laidL : List (String × DataW Unit) := [("math/bits.deBruijn32tab", Rows.laid_math_bits_deBruijn32tab), ("math/bits.deBruijn64tab", Rows.laid_math_bits_deBruijn64tab), ("internal/strconv.uint64pow10", Rows.laid_internal_strconv_uint64pow10), ("strconv.ErrRange", Rows.laid_strconv_ErrRange), ("strconv.ErrSyntax", Rows.laid_strconv_ErrSyntax)]
theorem laidL_met (os : Os) (args : Array Value) : laidMetH Tryz.prog laidL ((World.doorLaid Tryz.prog 67 os).forCall (fun _ _ => 0) ⟨#[], args, []⟩).memory :=
  laidMetH_of_parts3 (fuel := 8) (laidMet_of_run' 8 (by kernel_rfl) (by kernel_rfl)) (by kernel_rfl) (by kernel_rfl)
theorem tPow : (Tryz.prog.globals[4]?).map (·.type) = some 358 := by kernel_rfl
theorem tSyn : (Tryz.prog.globals[1]?).map (·.type) = some 248 := by kernel_rfl
theorem tRan : (Tryz.prog.globals[2]?).map (·.type) = some 248 := by kernel_rfl
theorem block_of {n : String} {g : Nat} {W : World} {cs : Array Value} (hg : Tryz.prog.globalNamed n = some g) (hv : W.var? Tryz.prog n = some cs) : ∃ e fz, W.heap[g]? = some (.cells cs e fz) := by
  simp only [World.var?, hg, Option.bind_some] at hv
  split at hv
  · cases hv
    exact ⟨_, _, by assumption⟩
  · cases hv
theorem laidL_data {W : World} (h : laidMetH Tryz.prog laidL W) : laidMet Tryz.prog laidL W := h
theorem star_ : "*" ++ "errors.errorString" = "*errors.errorString" := by decide
theorem typeOf_err (u : TypeId) (h : Tryz.prog.typeName? 3 u = some "*errors.errorString") : u = 365 :=
  typeName_ptr_named (nm := "errors.errorString") (by rw [star_]; kernel_rfl) (by kernel_rfl) (by decide) u (by rw [star_]; exact h)
theorem cells_E : Tryz.prog.cellsOf 367 = 1 := by kernel_rfl
theorem cells_s : Tryz.prog.cellsOf 9 = 1 := by kernel_rfl
theorem cells_u : Tryz.prog.cellsOf 324 = 1 := by kernel_rfl
theorem cells_t : Tryz.prog.cellsOf 358 = 20 := by kernel_rfl
theorem lib_at {W : World} (h : laidMetH Tryz.prog laidL W) : LibAt (imW W) := by
  have h := laidL_data h
  have h3 := h.tail.tail
  have h4 := h3.tail
  have h5 := h4.tail
  have k3 : Lib.TabIs Tryz.prog W "internal/strconv.uint64pow10" .u64 Lib.pow10Tab := Lib.tabIs_of_head gPow tPow Tryz.underlying358 Tryz.underlying324 cells_u cells_t h3
  obtain ⟨a, s, hv, _⟩ := laid_sentinel h4 gRan tRan (Tryz.underlying248) typeOf_err Tryz.underlying365 Tryz.underlying367 rfl rfl Tryz.underlying9 cells_E cells_s
  obtain ⟨a2, s2, hv2, _⟩ := laid_sentinel h5 gSyn tSyn (Tryz.underlying248) typeOf_err Tryz.underlying365 Tryz.underlying367 rfl rfl Tryz.underlying9 cells_E cells_s
  obtain ⟨e3, z3, b3⟩ := block_of gPow k3
  obtain ⟨e4, z4, b4⟩ := block_of gRan hv
  obtain ⟨e5, z5, b5⟩ := block_of gSyn hv2
  exact ⟨⟨e3, z3, b3⟩, ⟨_, _, e5, z5, b5⟩, ⟨_, _, e4, z4, b4⟩⟩
end Go.Proofs.YtghmjnbpkobooaaGreatDoor
