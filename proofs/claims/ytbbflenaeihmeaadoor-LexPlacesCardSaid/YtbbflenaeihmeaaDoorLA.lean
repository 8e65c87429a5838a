/-
  Where the tokens of a source stand. Plain Lean.
-/
import Derived.Test.YtbbflenaeihmeaaDoorL9
set_option linter.unusedVariables false
set_option linter.unusedSimpArgs false
namespace Go.Proofs.YtbbflenaeihmeaaDoor
open Go Go.RowKit

theorem step_spell {src : ByteArray} {a b : Nat} {t : Tk} (ha : a < src.size) (h : stepO src a = some ([t], b)) : src.extract a b = spellS t ∧ validB t = true ∧ b = a + (spellS t).size ∧ 0 < (spellS t).size ∧ b ≤ src.size ∧ byteC src a ≠ 1 := by
  have hv := (step_valid ha h).1
  rw [List.all_cons, List.all_nil, Bool.and_true] at hv
  have hp := step_prog ha h
  simp only at hp
  have key : src.extract a b = spellS t ∧ byteC src a ≠ 1 := by
    unfold stepO at h
    split at h
    · cases h
    · rename_i hc
      refine ⟨?_, hc⟩
      split at h
      · split at h
        · cases h
          exact (if_neg (show ¬ (1 : Int) = 2 by decide)).symm
        · cases h
      · split at h
        · split at h
          · rename_i v hv2
            cases h
            unfold numO at hv2
            split at hv2
            · split at hv2
              · rename_i hc2
                injection hv2 with hv2
                rw [hv2] at hc2
                exact hc2.1.symm.trans (if_pos rfl).symm
              · cases hv2
            · cases hv2
          · cases h
        · split at h
          · unfold signR at h
            split at h
            · split at h
              · cases h
              · cases h
            · cases h
              exact (if_neg (show ¬ (3 : Int) = 2 by decide)).symm
          · cases h
  have hz : (spellS t).size = b - a := by
    rw [← key.1, ByteArray.size_extract]
    omega
  exact ⟨key.1, hv, by omega, by omega, hp.2.1, key.2⟩
theorem Steps.first {src : ByteArray} {a b : Nat} {l : List Tk} (h : Steps src a b l) : ∀ {t ts}, l = t :: ts → ∃ c r, Steps src a c [] ∧ c < src.size ∧ stepO src c = some ([t], r) ∧ Steps src r b ts := by
  induction h with
  | nil => intro t ts e; cases e
  | @cons a b l r h hs k ih =>
    intro t ts e
    have hp := step_prog h hs
    obtain ⟨r1, r2⟩ := r
    rcases r1 with _ | ⟨x, _ | ⟨y, r1⟩⟩
    · obtain ⟨c, q, h1, h2, h3, h4⟩ := ih (t := t) (ts := ts) e
      exact ⟨c, q, .cons h hs h1, h2, h3, h4⟩
    · simp only [List.cons_append, List.nil_append, List.cons.injEq] at e
      obtain ⟨rfl, rfl⟩ := e
      exact ⟨a, r2, .nil _, h, hs, k⟩
    · have := hp.2.2
      simp at this
theorem place_next {src : ByteArray} {i : Nat} {t : Tk} {ts : List Tk} (h : Steps src i src.size (t :: ts)) : ∃ a, i ≤ a ∧ a ≤ src.size ∧ t.at_ = (a : Int) ∧ gapRun src a i false = some false ∧ validB t = true ∧ 0 < (spellS t).size ∧ a + (spellS t).size ≤ src.size ∧ src.extract a (a + (spellS t).size) = spellS t ∧ Steps src (a + (spellS t).size) src.size ts := by
  obtain ⟨a, r, h1, h2, h3, h4⟩ := h.first rfl
  obtain ⟨k1, k2, k3, k4, k5, k6⟩ := step_spell h2 h3
  obtain ⟨c', g1, g2⟩ := h1.gap (to_ := a) rfl (Nat.le_refl _) (by omega) false (fun e => by cases e)
  rw [gap_end c' (Nat.le_refl _)] at g1
  have hc : c' = false := by
    cases c' with
    | false => rfl
    | true =>
      rcases g2 rfl with h5 | h5
      · omega
      · obtain ⟨u, _, hu⟩ := byte_at h2
        rw [byteN_at hu] at h5
        exact absurd (by rw [byteC_at hu, h5, class_10]) k6
  subst hc
  subst k3
  exact ⟨a, h1.le, by omega, step_place h3 t (List.mem_singleton.2 rfl), g1, k2, k4, k5, k1, h4⟩
theorem place_end {src : ByteArray} {i : Nat} (h : Steps src i src.size []) : ∃ c, gapRun src src.size i false = some c := by
  obtain ⟨c', g1, _⟩ := h.gap (to_ := src.size) rfl (Nat.le_refl _) (Nat.le_refl _) false (fun e => by cases e)
  exact ⟨c', by rw [g1, gap_end c' (Nat.le_refl _)]⟩
end Go.Proofs.YtbbflenaeihmeaaDoor
