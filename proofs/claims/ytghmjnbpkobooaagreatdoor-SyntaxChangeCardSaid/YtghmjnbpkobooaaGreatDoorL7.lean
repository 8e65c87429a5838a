/-
  What tokens are spelled as, and that they are read back. Plain Lean.
-/
import Derived.Test.YtghmjnbpkobooaaGreatDoorQ5
import Derived.Test.YtghmjnbpkobooaaGreatDoorL6
import Derived.Lib.AtoiAllCases
set_option linter.unusedVariables false
set_option linter.unusedSimpArgs false
namespace Go.Proofs.YtghmjnbpkobooaaGreatDoor
open Go Go.RowKit

/-! ### Digits -/
theorem dig_u8 {k : Nat} (h : k < 10) : (UInt8.ofNat (48 + k)).toNat = 48 + k := by
  rw [UInt8.toNat_ofNat']
  omega
theorem digs_all (n : Nat) : ∀ u, u ≤ n → (Lib.decDigits u).all (fun c => decide (48 ≤ c.toNat) && decide (c.toNat ≤ 57)) = true := by
  induction n with
  | zero =>
    intro u hu
    obtain rfl : u = 0 := by omega
    rw [Lib.decDigits_one (by omega)]
    decide
  | succ n ih =>
    intro u hu
    by_cases h : u < 10
    · rw [Lib.decDigits_one h]
      simp only [List.all_cons, List.all_nil, Bool.and_true, dig_u8 h, Bool.and_eq_true, decide_eq_true_eq]
      omega
    · unfold Lib.decDigits
      rw [dif_neg h, List.all_append, ih (u / 10) (by omega)]
      simp only [List.all_cons, List.all_nil, Bool.and_true, Bool.true_and, dig_u8 (show u % 10 < 10 by omega), Bool.and_eq_true, decide_eq_true_eq]
      omega
theorem digs_ne (u : Nat) : Lib.decDigits u ≠ [] := by
  unfold Lib.decDigits
  split <;> simp
theorem parse_app : ∀ (A : List UInt8) (acc v : Nat) (X : List UInt8), Lib.parseUint10 acc A = .ok v → Lib.parseUint10 acc (A ++ X) = Lib.parseUint10 v X
  | [], acc, v, X, h => by
    simp only [Lib.parseUint10] at h
    injection h with h
    subst h
    rfl
  | c :: A, acc, v, X, h => by
    simp only [List.cons_append, Lib.parseUint10] at h ⊢
    split at h
    · rename_i h1
      split at h
      · cases h
      · rename_i h2
        split at h
        · cases h
        · rename_i h3
          rw [if_pos h1, if_neg h2, if_neg h3]
          exact parse_app A _ v X h
    · cases h
theorem parse_one {acc k : Nat} (hk : k < 10) (ha : acc < 1000000000000000000) : Lib.parseUint10 acc [UInt8.ofNat (48 + k)] = .ok (acc * 10 + k) := by
  simp only [Lib.parseUint10, dig_u8 hk]
  rw [if_pos (by omega), if_neg (by omega), if_neg (by omega), show 48 + k - 48 = k by omega]
theorem parse_digs (n : Nat) : ∀ u, u ≤ n → u < 1000000000000000000 → Lib.parseUint10 0 (Lib.decDigits u) = .ok u := by
  induction n with
  | zero =>
    intro u hu _
    obtain rfl : u = 0 := by omega
    rw [Lib.decDigits_one (by omega), parse_one (by omega) (by omega)]
  | succ n ih =>
    intro u hu hb
    by_cases h : u < 10
    · rw [Lib.decDigits_one h, parse_one h (by omega)]
      simp
    · unfold Lib.decDigits
      rw [dif_neg h, parse_app _ _ _ _ (ih (u / 10) (by omega) (by omega)), parse_one (by omega) (by omega), show u / 10 * 10 + u % 10 = u by omega]
theorem itoa_list {n : Int} (h : 0 ≤ n) : (itoaS n).data.toList = Lib.decDigits n.toNat := by
  show Lib.itoa n = _
  unfold Lib.itoa
  rw [if_neg (by omega)]
theorem atoi_itoa {n : Int} (h0 : 0 ≤ n) (h1 : n ≤ 1099511627776) : atoiO (itoaS n) = some n := by
  have hl := itoa_list h0
  have hp := parse_digs n.toNat n.toNat (Nat.le_refl _) (by omega)
  have ha := digs_all n.toNat n.toNat (Nat.le_refl _)
  unfold atoiO
  rw [hl]
  cases hd : Lib.decDigits n.toNat with
  | nil => exact absurd hd (digs_ne _)
  | cons c r =>
    rw [hd] at hp ha
    simp only [List.all_cons, Bool.and_eq_true, decide_eq_true_eq] at ha
    rw [Lib.atoiAll_plain c r (by omega) (by omega)]
    unfold Lib.parseMag
    rw [if_neg (by simp), hp]
    have h2 : Lib.signless (Lib.NumEnd.ok n.toNat) = .ok (n.toNat : Int) := if_neg (by omega)
    rw [h2]
    show some (n.toNat : Int) = some n
    rw [Int.toNat_of_nonneg h0]
theorem class_dig {c : UInt8} (h : 48 ≤ c.toNat ∧ c.toNat ≤ 57) : classI (c.toNat : Int) = 3 := by
  have h1 : letterB (c.toNat : Int) = false := by
    simp only [letterB, Bool.or_eq_false_iff, Bool.and_eq_false_iff, decide_eq_false_iff_not]
    omega
  have h2 : digitB (c.toNat : Int) = true := by
    simp only [digitB, Bool.and_eq_true, decide_eq_true_eq]
    omega
  unfold classI
  rw [h1, h2]
  rfl

/-! ### A token's word, read -/
theorem numO_itoa {n : Int} (h0 : 0 ≤ n) (h1 : n ≤ 1099511627776) : numO (itoaS n) = some n := by
  rw [numO_some (atoi_itoa h0 h1), if_pos ⟨rfl, h0, h1⟩]
theorem class_nosl {u : UInt8} {A : List UInt8} (h : classI (u.toNat : Int) ≠ 4) : isCom (u :: A) = false := by
  cases e : isCom (u :: A) with
  | false => rfl
  | true =>
    obtain ⟨m, hm⟩ := com_two e
    simp only [List.cons.injEq] at hm
    rw [hm.1] at h
    exact absurd (by decide +kernel : classI ((47 : UInt8).toNat : Int) = 4) h
theorem word_valid {t : Tk} (hv : validB t = true) : ∃ u A, (spellS t).data.toList = u :: A ∧ stepT (u :: A) = some ([mkTk t.kind t.text t.n 0], (u :: A).length) ∧ classI (u.toNat : Int) ≠ 1 ∧ isCom (u :: A) = false ∧ (spellS t).size ≤ 32 := by
  by_cases k1 : t.kind = 1
  · rw [valid1 k1, Bool.and_eq_true, decide_eq_true_eq] at hv
    obtain ⟨u, A, hl, hc, hsp, hz⟩ := name_open hv.1
    have hs : spellS t = t.text := by rw [spellS, if_neg (by omega)]
    have h3 := stepT_name hv.1
    rw [hl, size_data, hl] at h3
    exact ⟨u, A, by rw [hs, hl], by rw [h3, k1, hv.2], by omega, class_nosl (by omega), by rw [hs]; exact hz⟩
  · by_cases k2 : t.kind = 2
    · rw [valid2 k2] at hv
      simp only [Bool.and_eq_true, decide_eq_true_eq] at hv
      have hs : spellS t = itoaS t.n := by rw [spellS, if_pos k2]
      have hl := itoa_list hv.1.2
      have ha := digs_all t.n.toNat t.n.toNat (Nat.le_refl _)
      have hz := itoa_size t.n (by constructor <;> omega)
      cases hd : Lib.decDigits t.n.toNat with
      | nil => exact absurd hd (digs_ne _)
      | cons c r =>
        rw [hd] at hl ha
        have hall : (c :: r).all (clsK [3]) = true := by
          rw [List.all_eq_true] at ha ⊢
          intro x hx
          have := ha x hx
          simp only [Bool.and_eq_true, decide_eq_true_eq] at this
          unfold clsK
          rw [class_dig this]
          rfl
        have hcc : classI (c.toNat : Int) = 3 := by
          have := List.all_eq_true.1 ha c (List.mem_cons_self ..)
          simp only [Bool.and_eq_true, decide_eq_true_eq] at this
          exact class_dig this
        have hw : wordT [3] (c :: r) = itoaS t.n := by
          apply bytes_ext
          unfold wordT
          rw [span_all hall, List.take_length, hl]
        refine ⟨c, r, by rw [hs, hl], ?_, by omega, class_nosl (by omega), by rw [hs]; omega⟩
        simp only [stepT]
        rw [if_neg (by omega), if_neg (by omega), if_pos hcc, hw, numO_itoa hv.1.2 hv.2, span_all hall, k2, hv.1.1]
    · by_cases k3 : t.kind = 3
      · rw [validB, if_neg k1, if_neg k2, if_pos k3] at hv
        simp only [Bool.and_eq_true, decide_eq_true_eq] at hv
        have hs : spellS t = t.text := by rw [spellS, if_neg (by omega)]
        have hlen : t.text.data.toList.length = 1 := by rw [← size_data]; omega
        obtain ⟨u, hu⟩ := List.length_eq_one_iff.1 hlen
        have hc : classI (u.toNat : Int) = 4 := by
          have := hv.1.2
          rw [hu] at this
          exact this
        have ht : t.text = ⟨#[u]⟩ := bytes_ext hu
        refine ⟨u, [], by rw [hs, hu], ?_, by omega, by simp [isCom], by rw [hs]; omega⟩
        simp only [stepT]
        rw [if_neg (by omega), if_neg (by omega), if_neg (by omega), if_pos hc, if_neg (by simp [isCom]), k3, hv.2, ht]
        rfl
      · rw [validB, if_neg k1, if_neg k2, if_neg k3] at hv
        cases hv
def joinL : List (List UInt8) → List UInt8
  | [] => []
  | [x] => x
  | x :: y :: r => x ++ 32 :: joinL (y :: r)
theorem join_L : ∀ xs : List (List UInt8), Lib.join xs [32] = joinL xs
  | [] => rfl
  | [x] => Lib.join_one x [32]
  | x :: y :: r => by
    have ih := join_L (y :: r)
    rw [Lib.join_cons] at ih ⊢
    unfold joinL
    rw [← ih]
    simp [Lib.joinTail]
def wordsL (l : List Tk) : List (List UInt8) := l.map fun t => (spellS t).data.toList
theorem join_words (l : List Tk) : (joinS (l.map spellS) ⟨#[32]⟩).data.toList = joinL (wordsL l) := by
  rw [← join_L]
  unfold joinS wordsL
  rw [List.map_map]
  rfl
def costT : List Tk → Nat
  | [] => 0
  | t :: l => (spellS t).size + 1 + costT l
theorem join_cost : ∀ l : List Tk, (joinL (wordsL l)).length ≤ costT l
  | [] => Nat.le_refl _
  | [t] => by
    have : (spellS t).size = (spellS t).data.toList.length := size_data _
    show ((spellS t).data.toList).length ≤ _
    unfold costT
    omega
  | t :: s :: r => by
    have ih := join_cost (s :: r)
    have : (spellS t).size = (spellS t).data.toList.length := size_data _
    show ((spellS t).data.toList ++ 32 :: joinL (wordsL (s :: r))).length ≤ _
    rw [List.length_append, List.length_cons]
    unfold costT
    omega
theorem join_size (l : List Tk) : (joinS (l.map spellS) ⟨#[32]⟩).size ≤ costT l := by
  rw [size_data, join_words]
  exact join_cost l
theorem cost_app : ∀ l m : List Tk, costT (l ++ m) = costT l + costT m
  | [], m => by simp [costT]
  | t :: l, m => by
    rw [List.cons_append]
    simp only [costT, cost_app l m]
    omega
theorem cost_valid : ∀ {l : List Tk}, l.all validB = true → costT l ≤ 33 * l.length
  | [], _ => Nat.le_refl _
  | t :: l, h => by
    rw [List.all_cons, Bool.and_eq_true] at h
    obtain ⟨u, A, _, _, _, _, hz⟩ := word_valid h.1
    have := cost_valid h.2
    unfold costT
    rw [List.length_cons]
    omega
theorem same_norm (t : Tk) (a : Int) : sameTk t (mkTk t.kind t.text t.n a) = true := by simp [sameTk, mkTk]
/-- Text's words are read back, wherever they stand. -/
theorem text_way {src : ByteArray} : ∀ (l : List Tk) (c : Nat), l.all validB = true → src.data.toList.drop c = joinL (wordsL l) → ∀ toks, ∃ m, lexFrom src c toks = (toks ++ m, 0, 0) ∧ sameTs l m = true
  | [], c, _, hd, toks => by
    refine ⟨[], ?_, rfl⟩
    rw [List.append_nil]
    refine lex_end _ ?_
    have := congrArg List.length hd
    rw [List.length_drop, ← size_data] at this
    simp only [wordsL, List.map_nil, joinL, List.length_nil] at this
    omega
  | [t], c, hv, hd, toks => by
    rw [List.all_cons, Bool.and_eq_true] at hv
    obtain ⟨u, A, hw, hs, _, _, _⟩ := word_valid hv.1
    have hd : src.data.toList.drop c = u :: A := by rw [hd, ← hw]; rfl
    have hlen := congrArg List.length hd
    rw [List.length_drop, ← size_data, List.length_cons] at hlen
    have hst : stepO src c = some (shiftR c ([mkTk t.kind t.text t.n 0], (u :: A).length)) := by rw [step_T (by omega), hd, hs]; rfl
    refine ⟨[mkTk t.kind t.text t.n (0 + (c : Int))], ?_, by simp only [sameTs, pairB, same_norm, Bool.and_self]⟩
    rw [lex_step (by omega) hst, lex_end _ (by show src.size ≤ c + (u :: A).length; rw [List.length_cons]; omega)]
    rfl
  | t :: s :: r, c, hv, hd, toks => by
    rw [List.all_cons, Bool.and_eq_true] at hv
    obtain ⟨u, A, hw, hs, hc1, hcm, _⟩ := word_valid hv.1
    have hd : src.data.toList.drop c = (u :: A) ++ 32 :: joinL (wordsL (s :: r)) := by rw [hd, ← hw]; rfl
    have hlen := congrArg List.length hd
    rw [List.length_drop, ← size_data, List.length_append, List.length_cons, List.length_cons] at hlen
    have hst : stepO src c = some (shiftR c ([mkTk t.kind t.text t.n 0], (u :: A).length)) := by
      rw [step_T (by omega), hd, stepT_white _ white_32 hc1 (fun e => by rw [hcm] at e; cases e), hs]
      rfl
    have hd2 : src.data.toList.drop (c + (u :: A).length) = 32 :: joinL (wordsL (s :: r)) := by rw [← List.drop_drop, hd, List.drop_left]
    have hsp : byteC src (c + (u :: A).length) = 1 := by
      refine cls1_byte (u := 32) ?_ (by unfold clsK; rw [white_32]; rfl)
      have : (src.data.toList.drop (c + (u :: A).length))[0]? = some 32 := by rw [hd2]; rfl
      rwa [List.getElem?_drop, Nat.add_zero] at this
    have hd3 : src.data.toList.drop (c + (u :: A).length + 1) = joinL (wordsL (s :: r)) := by rw [← List.drop_drop, hd2]; rfl
    obtain ⟨m, hm, hsm⟩ := text_way (s :: r) (c + (u :: A).length + 1) hv.2 hd3 (toks ++ [mkTk t.kind t.text t.n (0 + (c : Int))])
    refine ⟨mkTk t.kind t.text t.n (0 + (c : Int)) :: m, ?_, by show (sameTk t _ && sameTs (s :: r) m) = true; rw [same_norm, hsm]; rfl⟩
    rw [lex_step (by omega) hst]
    show lexFrom src (c + (u :: A).length) (toks ++ [mkTk t.kind t.text t.n (0 + (c : Int))]) = _
    rw [lex_space hsp, hm, List.append_assoc]
    rfl
theorem text_lex {l : List Tk} (hv : l.all validB = true) (hz : costT l ≤ 65536) : ∃ m, lexE (joinS (l.map spellS) ⟨#[32]⟩) = (m, 0, 0) ∧ sameTs l m = true := by
  have hj := join_size l
  obtain ⟨m, h1, h2⟩ := text_way (src := joinS (l.map spellS) ⟨#[32]⟩) l 0 hv (by rw [List.drop_zero, join_words]) []
  exact ⟨m, by rw [lexE_small (by omega), h1, List.nil_append], h2⟩

/-! ### The tokens of a source are valid -/
theorem step_valid {src : ByteArray} {a : Nat} {r : List Tk × Nat} (ha : a < src.size) (h : stepO src a = some r) : r.1.all validB = true ∧ costT r.1 ≤ 2 * (r.2 - a) := by
  have hp := step_prog ha h
  unfold stepO at h
  split at h
  · cases h
    exact ⟨rfl, Nat.zero_le _⟩
  · split at h
    · split at h
      · rename_i hn
        cases h
        have hz := word_size src a [2, 3, 5] (by omega)
        refine ⟨by rw [List.all_cons, List.all_nil, Bool.and_true, valid1 rfl]; simp only [mkTk, hn, decide_true, Bool.and_self], ?_⟩
        show (wordS src a [2, 3, 5]).size + 1 + 0 ≤ _
        simp only at hp ⊢
        omega
      · cases h
    · split at h
      · split at h
        · rename_i v hv
          cases h
          have hz := word_size src a [3] (by omega)
          unfold numO at hv
          split at hv
          · split at hv
            · rename_i hc
              injection hv with hv
              rw [hv] at hc
              refine ⟨by rw [List.all_cons, List.all_nil, Bool.and_true, valid2 rfl]; simp only [mkTk, hc.2.1, hc.2.2, decide_true, Bool.and_self], ?_⟩
              show (itoaS v).size + 1 + 0 ≤ _
              rw [hc.1]
              simp only at hp ⊢
              omega
            · cases hv
          · cases hv
        · cases h
      · split at h
        · rename_i h4
          cases h
          unfold signR at hp ⊢
          split
          · split
            · exact ⟨rfl, Nat.zero_le _⟩
            · exact ⟨rfl, Nat.zero_le _⟩
          · have hz : (src.extract a (a + 1)).size = 1 := by
              rw [ByteArray.size_extract]
              omega
            obtain ⟨u, _, hu⟩ := byte_at ha
            have hu2 : (src.extract a (a + 1)).data.toList[0]? = some u := by
              rw [cut_list, drop_some hu, Nat.add_sub_cancel_left]
              rfl
            have hv := one_valid hz hu2 (by rw [← byteC_at hu]; exact h4)
            refine ⟨by rw [List.all_cons, List.all_nil, Bool.and_true]; exact hv, ?_⟩
            show (src.extract a (a + 1)).size + 1 + 0 ≤ 2 * (a + 1 - a)
            omega
        · cases h
theorem Steps.valid {src : ByteArray} {a b : Nat} {ts : List Tk} (h : Steps src a b ts) : ts.all validB = true ∧ costT ts + 2 * a ≤ 2 * b := by
  induction h with
  | nil => exact ⟨rfl, by simp [costT]⟩
  | cons h hs k ih =>
    have hp := step_prog h hs
    have hv := step_valid h hs
    have hl := k.le
    rw [List.all_append, hv.1, ih.1, cost_app]
    exact ⟨rfl, by omega⟩
theorem back_src {src : ByteArray} (hz : src.size ≤ 3000) : (∃ a, lexE src = ([], a, 30)) ∨ (∃ x m, lexE src = (x, 0, 0) ∧ x.length ≤ 3000 ∧ x.all validB = true ∧ costT x ≤ 6000 ∧ lexE (joinS (x.map spellS) ⟨#[32]⟩) = (m, 0, 0) ∧ sameTs x m = true) := by
  rcases lexE_ways (src := src) (by omega) with ⟨ts, h1, h2⟩ | ⟨b, ts, h1, h2, h3, h4⟩
  · have hv := h1.valid
    have hl := h1.len
    obtain ⟨m, h5, h6⟩ := text_lex hv.1 (by omega)
    exact .inr ⟨ts, m, h2, by omega, hv.1, by omega, h5, h6⟩
  · exact .inl ⟨_, h4⟩
end Go.Proofs.YtghmjnbpkobooaaGreatDoor
