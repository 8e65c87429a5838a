/-
  What a number's figures come to, as the reference reckons it. Plain Lean.
-/
import Derived.Test.YtbbflenaeihmeaaDoorL7
set_option linter.unusedVariables false
set_option linter.unusedSimpArgs false
namespace Go.Proofs.YtbbflenaeihmeaaDoor
open Go Go.RowKit

def valF (acc : Nat) : List UInt8 → Nat
  | [] => acc
  | c :: r => valF (acc * 10 + (c.toNat - 48)) r
def isDig (c : UInt8) : Bool := decide (48 ≤ c.toNat) && decide (c.toNat ≤ 57)
theorem val_app : ∀ (A B : List UInt8) (acc : Nat), valF acc (A ++ B) = valF (valF acc A) B
  | [], _, _ => rfl
  | c :: A, B, acc => val_app A B _
theorem val_ge : ∀ (l : List UInt8) (acc : Nat), acc ≤ valF acc l
  | [], _ => Nat.le_refl _
  | c :: l, acc => by
    have := val_ge l (acc * 10 + (c.toNat - 48))
    show acc ≤ valF (acc * 10 + (c.toNat - 48)) l
    omega
theorem parse_val : ∀ (l : List UInt8) (acc : Nat), l.all isDig = true → valF acc l < 1000000000000000000 → Lib.parseUint10 acc l = .ok (valF acc l)
  | [], acc, _, _ => rfl
  | c :: l, acc, h, hb => by
    simp only [List.all_cons, isDig, Bool.and_eq_true, decide_eq_true_eq] at h
    have hg := val_ge l (acc * 10 + (c.toNat - 48))
    have hb' : valF (acc * 10 + (c.toNat - 48)) l < 1000000000000000000 := hb
    simp only [Lib.parseUint10]
    rw [if_pos h.1, if_neg (by omega), if_neg (by omega), parse_val l _ h.2 hb']
    rfl
theorem parse_only : ∀ (l : List UInt8) (acc u : Nat), Lib.parseUint10 acc l = .ok u → u = valF acc l
  | [], acc, u, h => by
    simp only [Lib.parseUint10] at h
    injection h with h
    exact h.symm
  | c :: l, acc, u, h => by
    simp only [Lib.parseUint10] at h
    split at h
    · split at h
      · cases h
      · split at h
        · cases h
        · exact parse_only l _ u h
    · cases h
theorem dig_back {c : UInt8} (h : isDig c = true) : UInt8.ofNat (48 + (c.toNat - 48)) = c := by
  simp only [isDig, Bool.and_eq_true, decide_eq_true_eq] at h
  rw [show 48 + (c.toNat - 48) = c.toNat by omega]
  simp
theorem val_pos {c : UInt8} {l : List UInt8} (h : isDig c = true) (hc : c ≠ 48) : 0 < valF 0 (c :: l) := by
  simp only [isDig, Bool.and_eq_true, decide_eq_true_eq] at h
  have hn : c.toNat ≠ 48 := fun e => hc (UInt8.toNat_inj.1 (by show c.toNat = 48; exact e))
  have := val_ge l (0 * 10 + (c.toNat - 48))
  show 0 < valF (0 * 10 + (c.toNat - 48)) l
  omega
theorem dec_val (n : Nat) : ∀ l : List UInt8, l.length = n → l.all isDig = true → (l.length = 1 ∨ ∃ c r, l = c :: r ∧ c ≠ 48) → Lib.decDigits (valF 0 l) = l := by
  induction n with
  | zero =>
    intro l hn _ h
    have : l = [] := List.eq_nil_of_length_eq_zero hn
    subst this
    rcases h with h | ⟨c, r, h, _⟩
    · cases h
    · cases h
  | succ n ih =>
    intro l hn hd h
    rcases List.eq_nil_or_concat l with rfl | ⟨A, c, rfl⟩
    · cases hn
    · rw [List.concat_eq_append] at hn hd h ⊢
      rw [List.all_append, Bool.and_eq_true] at hd
      have hc : isDig c = true := by simpa using hd.2
      have hc2 := hc
      simp only [isDig, Bool.and_eq_true, decide_eq_true_eq] at hc2
      rw [val_app]
      show Lib.decDigits (valF 0 A * 10 + (c.toNat - 48)) = _
      cases A with
      | nil =>
        show Lib.decDigits (0 * 10 + (c.toNat - 48)) = _
        rw [Nat.zero_mul, Nat.zero_add, Lib.decDigits_one (by omega), dig_back hc]
        rfl
      | cons a A =>
        have ha : a ≠ 48 := by
          rcases h with h | ⟨b, r, h, hb⟩
          · simp at h
          · simp only [List.cons_append, List.cons.injEq] at h
            rw [h.1]
            exact hb
        have hda : isDig a = true := by
          have := hd.1
          rw [List.all_cons, Bool.and_eq_true] at this
          exact this.1
        have hp := val_pos (l := A) hda ha
        have hi := ih (a :: A) (by simp only [List.length_append, List.length_cons, List.length_nil] at hn ⊢; omega) hd.1 (.inr ⟨a, A, rfl, ha⟩)
        generalize valF 0 (a :: A) = v at hp hi ⊢
        unfold Lib.decDigits
        rw [dif_neg (by omega), show (v * 10 + (c.toNat - 48)) / 10 = v by omega, show (v * 10 + (c.toNat - 48)) % 10 = c.toNat - 48 by omega, hi, dig_back hc]
theorem dec_nozero (n : Nat) : ∀ u, u ≤ n → 0 < u → ∀ c r, Lib.decDigits u = c :: r → c ≠ 48 := by
  induction n with
  | zero => intro u h1 h2; omega
  | succ n ih =>
    intro u h1 h2 c r h e
    by_cases h3 : u < 10
    · rw [Lib.decDigits_one h3] at h
      simp only [List.cons.injEq] at h
      have := congrArg UInt8.toNat (h.1.trans e)
      rw [dig_u8 h3] at this
      have h48 : (48 : UInt8).toNat = 48 := rfl
      omega
    · unfold Lib.decDigits at h
      rw [dif_neg h3] at h
      cases hd : Lib.decDigits (u / 10) with
      | nil => exact digs_ne _ hd
      | cons c2 r2 =>
        rw [hd] at h
        simp only [List.cons_append, List.cons.injEq] at h
        exact ih (u / 10) (by omega) (by omega) c2 r2 hd (h.1.trans e)
theorem atoi_digits {s : ByteArray} {c : UInt8} {r : List UInt8} (hl : s.data.toList = c :: r) (hd : (c :: r).all isDig = true) : atoiO s = match Lib.signless (Lib.parseUint10 0 (c :: r)) with
    | .ok v => some v
    | _ => none := by
  have hc := hd
  simp only [List.all_cons, isDig, Bool.and_eq_true, decide_eq_true_eq] at hc
  unfold atoiO
  rw [hl, Lib.atoiAll_plain c r (by omega) (by omega)]
  unfold Lib.parseMag
  rw [if_neg (by simp)]
  generalize Lib.signless (Lib.parseUint10 0 (c :: r)) = e
  cases e <;> rfl
/-- What the reference takes for a number. -/
theorem numO_val {s : ByteArray} {c : UInt8} {r : List UInt8} (hl : s.data.toList = c :: r) (hd : (c :: r).all isDig = true) : numO s = if valF 0 (c :: r) ≤ 1099511627776 ∧ (r = [] ∨ c ≠ 48) then some (valF 0 (c :: r) : Int) else none := by
  have ha := atoi_digits hl hd
  by_cases hv : valF 0 (c :: r) ≤ 1099511627776
  · rw [parse_val _ 0 hd (by omega)] at ha
    have h2 : Lib.signless (Lib.NumEnd.ok (valF 0 (c :: r))) = .ok (valF 0 (c :: r) : Int) := if_neg (by omega)
    rw [h2] at ha
    rw [numO_some (v := (valF 0 (c :: r) : Int)) ha]
    have hi := itoa_list (n := (valF 0 (c :: r) : Int)) (by omega)
    rw [Int.toNat_natCast] at hi
    by_cases hz : r = [] ∨ c ≠ 48
    · have hdv := dec_val _ (c :: r) rfl hd (by
        rcases hz with h | h
        · left; rw [h]; rfl
        · exact .inr ⟨c, r, rfl, h⟩)
      rw [if_pos ⟨bytes_ext (by rw [hi, hdv, hl]), by omega, by omega⟩, if_pos ⟨hv, hz⟩]
    · rw [if_neg, if_neg (fun h => hz h.2)]
      rintro ⟨h, _, _⟩
      have h3 := congrArg (fun z : ByteArray => z.data.toList) h
      simp only [hi, hl] at h3
      have hcz : c = 48 := Decidable.of_not_not fun h => hz (.inr h)
      have hrz : r ≠ [] := fun h => hz (.inl h)
      by_cases h0 : valF 0 (c :: r) = 0
      · rw [h0, Lib.decDigits_one (by omega)] at h3
        simp only [List.cons.injEq] at h3
        exact hrz h3.2.symm
      · exact dec_nozero _ _ (Nat.le_refl _) (by omega) c r h3 hcz
  · rw [if_neg (fun h => hv h.1)]
    cases hp : Lib.parseUint10 0 (c :: r) with
    | ok u =>
      have hu := parse_only _ 0 u hp
      rw [hp] at ha
      unfold Lib.signless at ha
      simp only at ha
      by_cases h9 : 9223372036854775808 ≤ u
      · rw [if_pos h9] at ha
        exact numO_none ha
      · rw [if_neg h9] at ha
        rw [numO_some ha, if_neg (fun h => by have := h.2.2; omega)]
    | _ => rw [hp] at ha; exact numO_none ha
end Go.Proofs.YtbbflenaeihmeaaDoor
