/-
  How many tokens small policies have; what the statements on syntax ask of printing and parsing. Plain Lean.
-/
import Derived.Test.YtghmjnbpkobooaaGreatDoorYF
set_option linter.unusedVariables false
set_option linter.unusedSimpArgs false
namespace Go.Proofs.YtghmjnbpkobooaaGreatDoor
open Go Go.RowKit

theorem expr_len : ∀ (d : Nat) (x : Ex), x.pc ≤ d → (exprP x).length + 4 ≤ 8 * x.pc
  | 0, x, hd => by
    have := x.pc_eq
    omega
  | d + 1, x, hd => by
    have hpc := x.pc_eq
    have hu : ∀ (b : Bool) (m : List Ex), Ex.pcs m ≤ d → (uptoP b m).length ≤ 8 * Ex.pcs m ∧ (ofP b m).length ≤ 8 * Ex.pcs m := by
      intro b m
      induction m generalizing b with
      | nil =>
        intro _
        exact ⟨Nat.zero_le _, Nat.zero_le _⟩
      | cons y m ih =>
        intro h2
        simp only [Ex.pcs] at h2 ⊢
        have hy := expr_len d y (by omega)
        have hm := ih false (by omega)
        simp only [uptoP, ofP, List.length_append, List.length_cons, List.length_nil]
        cases b
        · simp only [Bool.false_eq_true, if_false, List.length_cons, List.length_nil]
          constructor <;> omega
        · simp only [if_true, List.length_nil]
          constructor <;> omega
    have h := hu true x.l (by omega)
    rw [exprP_eq]
    split
    · simp only [List.length_cons, List.length_nil]
      omega
    · split
      · simp only [List.length_cons, List.length_nil]
        omega
      · split
        · simp only [List.length_append, List.length_cons, List.length_nil]
          omega
        · simp only [List.length_append, List.length_cons, List.length_nil]
          omega
theorem flat_up {α : Type} {f : α → List Tk} {c : Nat} : ∀ {l : List α}, (∀ a ∈ l, (f a).length ≤ c) → ((l.map f).flatten).length ≤ c * l.length
  | [], _ => by simp
  | a :: l, h => by
    have h1 := h a (List.mem_cons_self ..)
    have h2 := flat_up fun b hb => h b (List.mem_cons_of_mem _ hb)
    rw [List.map_cons, List.flatten_cons, List.length_append, List.length_cons, Nat.mul_succ]
    omega
theorem few_toks {p : Po} (h : fewOk p) : (policyP p).length ≤ 20000 := by
  obtain ⟨h1, h2, h3, h4, h5⟩ := h
  have e1 := flat_up (f := declP wOffice) (c := 3) (l := p.offices) fun a _ => Nat.le_refl 3
  have e2 := flat_up (f := declP wKind) (c := 3) (l := p.kinds) fun a _ => Nat.le_refl 3
  have e3 := flat_up (f := ruleP) (c := 486) (l := p.rules) fun a ha => by
    have := expr_len _ a.expr (Nat.le_refl _)
    have := h5 a ha
    simp only [ruleP, List.length_append, List.length_cons, List.length_nil]
    omega
  have e4 := expr_len _ p.change (Nat.le_refl _)
  simp only [policyP, headP, declsP, rulesP, tailP, List.length_append, List.length_cons, List.length_nil]
  omega
theorem parsed_small {src : ByteArray} {x : Po} {a k : Int} (h : parseE src = (x, a, k)) : (policyP x).length ≤ 100000 ∧ (k = 0 → (printE x).2 = 0) := by
  rcases parse_err src with h1 | h1
  · obtain ⟨h2, h3, _⟩ := parse_good h1
    obtain ⟨_, h4, h5, h6, _⟩ := lex_good h2
    obtain ⟨_, h8, h9⟩ := parsed_ok h3 h4
    rw [h] at h8 h9
    refine ⟨?_, fun _ => by rw [h9]⟩
    show (policyP (x, a, k).1).length ≤ _
    rw [h8, nrm_len]
    omega
  · rw [h] at h1
    have h2 : x = zeroP := h1
    subst h2
    refine ⟨Nat.le_of_ble_eq_true (by kernel_rfl), fun hk => ?_⟩
    subst hk
    have h3 : (parseE src).2.2 = 0 := by rw [h]
    obtain ⟨h4, h5, _⟩ := parse_good h3
    rw [h] at h5
    obtain ⟨h6, _⟩ := parsed_ok h5 (lex_good h4).2.1
    cases h6
theorem print_bad {p : Po} {s : ByteArray} {k : Int} (h : printE p = (s, k)) (hk : ¬ k = 0) : s = ⟨#[]⟩ ∧ k = 190 := by
  unfold printE at h
  split at h
  · injection h with h1 h2
    exact absurd h2.symm hk
  · injection h with h1 h2
    exact ⟨h1.symm, h2.symm⟩
theorem print_good {p : Po} {s : ByteArray} {k : Int} (hT : (policyP p).length ≤ 200000) (h : printE p = (s, k)) (hk : k = 0) : s = textP p ∧ okPo p = true := by
  subst hk
  have h1 := (print_ok hT).1 (by rw [h])
  rw [print_eq hT, if_pos h1] at h
  injection h with h2 h3
  exact ⟨h2.symm, h1⟩
theorem back_good {p : Po} {s : ByteArray} {k : Int} (hT : (policyP p).length ≤ 200000) (h : printE p = (s, k)) (hk : k = 0) (hz : ¬ 65536 < (s.size : Int)) : parseE s = (p, 0, 0) := by
  obtain ⟨rfl, h1⟩ := print_good hT h hk
  exact back_print hT h1 (by omega)
end Go.Proofs.YtghmjnbpkobooaaGreatDoor
