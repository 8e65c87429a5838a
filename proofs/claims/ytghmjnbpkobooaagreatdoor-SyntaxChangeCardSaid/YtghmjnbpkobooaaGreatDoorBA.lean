/-
  Bytes of texts, spans; a block that is turned no more, wherever it stands in the list. Plain theorems over whatever program.
-/
import Derived.Test.YtghmjnbpkobooaaGreatDoorB9
import Derived.Test.YtghmjnbpkobooaaGreatDoorP4
set_option linter.unusedVariables false
set_option linter.unusedSimpArgs false
namespace Go.Proofs.YtghmjnbpkobooaaGreatDoor
open Go Go.RowKit

def ixOfI : List Int → Int → Int → Int
  | [], _, _ => -1
  | x :: l, s, i => if x = s then i else ixOfI l s (i + 1)
def idxI (l : List Int) (s : Int) : Int := ixOfI l s 0
def inK (ks : List Int) (c : Int) : Bool := decide (0 ≤ idxI ks c)
def spanL (p : UInt8 → Bool) : List UInt8 → Nat
  | [] => 0
  | u :: l => if p u = true then spanL p l + 1 else 0
def clsK (ks : List Int) (u : UInt8) : Bool := inK ks (classI (u.toNat : Int))
theorem spanL_le (p : UInt8 → Bool) : ∀ l : List UInt8, spanL p l ≤ l.length
  | [] => Nat.le_refl _
  | u :: l => by
    simp only [spanL]
    split
    · have := spanL_le p l
      simp only [List.length_cons]
      omega
    · simp
theorem span_end {ks : List Int} {s : ByteArray} {n : Nat} {u : UInt8} (h : (decide ((n : Int) < (s.size : Int)) && inK ks (classI (u.toNat : Int))) = false) (hu : n < s.size → s[n]? = some u ∧ s.data.toList[n]? = some u) : spanL (clsK ks) (s.data.toList.drop n) = 0 := by
  by_cases hn : n < s.size
  · rw [drop_some (hu hn).2]
    have h1 : decide ((n : Int) < (s.size : Int)) = true := decide_eq_true (by omega)
    rw [h1, Bool.true_and] at h
    simp only [spanL, clsK, h]
    rfl
  · rw [List.drop_of_length_le (by rw [← size_data]; omega)]
    rfl
theorem span_step {ks : List Int} {s : ByteArray} {n : Nat} {u : UInt8} (h : (decide ((n : Int) < (s.size : Int)) && inK ks (classI (u.toNat : Int))) = true) (hu : n < s.size → s[n]? = some u ∧ s.data.toList[n]? = some u) : n < s.size ∧ spanL (clsK ks) (s.data.toList.drop n) = spanL (clsK ks) (s.data.toList.drop (n + 1)) + 1 := by
  simp only [Bool.and_eq_true, decide_eq_true_eq] at h
  have hn : n < s.size := by omega
  refine ⟨hn, ?_⟩
  rw [drop_some (hu hn).2]
  have h1 : clsK ks u = true := h.2
  simp only [spanL, h1, if_true]
theorem byte_of (s : ByteArray) (n : Nat) : ∃ u : UInt8, n < s.size → s[n]? = some u ∧ s.data.toList[n]? = some u := by
  by_cases h : n < s.size
  · obtain ⟨u, h1, h2⟩ := byte_at h
    exact ⟨u, fun _ => ⟨h1, h2⟩⟩
  · exact ⟨0, fun h2 => absurd h2 h⟩
theorem cut_list (s : ByteArray) (a b : Nat) : (s.extract a b).data.toList = (s.data.toList.drop a).take (b - a) := by
  simp [List.extract_eq_take_drop]
/-! ### Tokens -/
def mkTk (k : Int) (s : ByteArray) (n : Int) (a : Int) : Tk := ⟨k, s, n, a⟩
def validB (t : Tk) : Bool :=
  if t.kind = 1 then nameB t.text && decide (t.n = 0) else if t.kind = 2 then (decide (t.text = ⟨#[]⟩) && decide (0 ≤ t.n)) && decide (t.n ≤ 1099511627776) else if t.kind = 3 then (decide ((t.text.size : Int) = 1) && decide (classI (hd t.text.data.toList) = 4)) && decide (t.n = 0) else false
end Go.Proofs.YtghmjnbpkobooaaGreatDoor
