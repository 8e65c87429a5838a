/-
  Printing and parsing as wholes: what the statements on syntax say. Plain Lean.
-/
import Derived.Test.YtghmjnbpkobooaaGreatDoorY3
import Derived.Test.YtghmjnbpkobooaaGreatDoorS1
import Derived.Test.YtghmjnbpkobooaaGreatDoorL8
set_option linter.unusedVariables false
set_option linter.unusedSimpArgs false
namespace Go.Proofs.YtghmjnbpkobooaaGreatDoor
open Go Go.RowKit

/-! ### How many tokens -/
theorem pc_toks : ∀ (d : Nat) (x : Ex), x.pc ≤ d → okE x = true → x.pc ≤ (exprP x).length
  | 0, x, hd, _ => by
    have := x.pc_eq
    omega
  | d + 1, ⟨k, n, no, nm, l⟩, hd, h => by
    have hpc := Ex.pc_eq ⟨k, n, no, nm, l⟩
    simp only at hpc
    simp only [okE, Bool.and_eq_true, decide_eq_true_eq] at h
    obtain ⟨_, h⟩ := h
    rw [exprP_eq]
    simp only
    have hu : ∀ (b : Bool) (m : List Ex), okEs m = true → Ex.pcs m ≤ d → Ex.pcs m ≤ (uptoP b m).length ∧ Ex.pcs m ≤ (ofP b m).length := by
      intro b m
      induction m generalizing b with
      | nil => intros; exact ⟨Nat.zero_le _, Nat.zero_le _⟩
      | cons y m ih =>
        intro h1 h2
        simp only [okEs, Bool.and_eq_true] at h1
        simp only [Ex.pcs] at h2 ⊢
        have hy := pc_toks d y (by omega) h1.1
        have hm := ih false h1.2 (by omega)
        simp only [uptoP, ofP, List.length_append, List.length_cons, List.length_nil]
        constructor <;> omega
    split at h
    · rename_i hk
      simp only [Bool.and_eq_true, List.isEmpty_iff] at h
      obtain ⟨_, _, rfl⟩ := h
      rw [if_pos hk, hpc]
      simp [Ex.pcs]
    · rename_i hk1
      rw [if_neg hk1]
      split at h
      · rename_i hk
        simp only [Bool.and_eq_true, List.isEmpty_iff] at h
        obtain ⟨_, _, rfl⟩ := h
        rw [if_pos hk, hpc]
        simp [Ex.pcs]
      · rename_i hk2
        rw [if_neg hk2]
        split at h
        · rename_i hk
          simp only [Bool.and_eq_true] at h
          rw [if_pos hk]
          have := (hu true l h.2.2.2 (by omega)).1
          simp only [List.length_append, List.length_cons, List.length_nil]
          omega
        · rename_i hk4
          rw [if_neg hk4]
          simp only [Bool.and_eq_true] at h
          have := (hu true l h.2.2.2.2 (by omega)).2
          simp only [List.length_append, List.length_cons, List.length_nil]
          omega
theorem flat_len {α : Type} {f : α → List Tk} {c : Nat} : ∀ {l : List α}, (∀ a ∈ l, c ≤ (f a).length) → c * l.length ≤ ((l.map f).flatten).length
  | [], _ => by simp
  | a :: l, h => by
    have h1 := h a (List.mem_cons_self ..)
    have h2 := flat_len fun b hb => h b (List.mem_cons_of_mem _ hb)
    rw [List.map_cons, List.flatten_cons, List.length_append, List.length_cons, Nat.mul_succ]
    omega
theorem flat_mem {α : Type} {f : α → List Tk} {a : α} : ∀ {l : List α}, a ∈ l → (f a).length ≤ ((l.map f).flatten).length
  | b :: l, h => by
    rw [List.map_cons, List.flatten_cons, List.length_append]
    rcases List.mem_cons.1 h with rfl | h
    · omega
    · have := flat_mem (f := f) h
      omega
theorem fits_toks {f : Nat} {p : Po} (h : okPo p = true) (hf : (policyP p).length ≤ f) : fits f p := by
  simp only [okPo, Bool.and_eq_true] at h
  obtain ⟨h1, h2, h3, h4, h5, h6⟩ := h
  have e1 := flat_len (f := declP wOffice) (c := 3) (l := p.offices) fun a _ => Nat.le_refl 3
  have e2 := flat_len (f := declP wKind) (c := 3) (l := p.kinds) fun a _ => Nat.le_refl 3
  have e3 := flat_len (f := ruleP) (c := 1) (l := p.rules) fun a _ => by simp [ruleP]
  have e4 := pc_toks _ p.change (Nat.le_refl _) h6
  simp only [policyP, headP, declsP, rulesP, tailP, List.length_append, List.length_cons, List.length_nil] at hf
  refine ⟨by omega, by omega, by omega, by omega, fun r hr => ?_⟩
  have e5 := flat_mem (f := ruleP) hr
  have hq := List.all_eq_true.1 h5 r hr
  simp only [okRu, Bool.and_eq_true] at hq
  have e6 := pc_toks _ r.expr (Nat.le_refl _) hq.2.2.2
  have e7 : (exprP r.expr).length ≤ (ruleP r).length := by
    simp only [ruleP, List.length_append, List.length_cons, List.length_nil]
    omega
  omega

/-! ### Print -/
def parsesB (p : Po) : Bool := match policyT fuelN (policyP p) with
  | .ok x _ => sameP x p
  | .bad _ => false
def textP (p : Po) : ByteArray := joinS ((policyP p).map spellS) ⟨#[32]⟩
def printE (p : Po) : ByteArray × Int := if (okMode p.mode && ((policyP p).all validB && parsesB p)) = true then (textP p, 0) else (nilS, 190)
theorem nrm_policy (p : Po) : nrm (policyP p) = policyP p := by
  have hx : ∀ (d : Nat) (x : Ex), x.pc ≤ d → nrm (exprP x) = exprP x := by
    intro d
    induction d with
    | zero =>
      intro x hd
      have := x.pc_eq
      omega
    | succ d ih =>
      intro x hd
      have hpc := x.pc_eq
      have hu : ∀ (b : Bool) (m : List Ex), Ex.pcs m ≤ d → nrm (uptoP b m) = uptoP b m ∧ nrm (ofP b m) = ofP b m := by
        intro b m
        induction m generalizing b with
        | nil => intros; exact ⟨rfl, rfl⟩
        | cons y m ih2 =>
          intro h2
          simp only [Ex.pcs] at h2
          have hy := ih y (by omega)
          have hm := ih2 false (by omega)
          simp only [uptoP, ofP, nrm_app, hy, hm.1, hm.2]
          cases b <;> exact ⟨rfl, rfl⟩
      have hl := hu true x.l (by omega)
      rw [exprP_eq]
      split
      · rfl
      · split
        · rfl
        · split
          · rw [nrm_app, hl.1]
            rfl
          · rw [nrm_app, nrm_app, hl.2]
            rfl
  have hf : ∀ {α : Type} (f : α → List Tk) (l : List α), (∀ a, nrm (f a) = f a) → nrm ((l.map f).flatten) = (l.map f).flatten := by
    intro α f l h
    induction l with
    | nil => rfl
    | cons a l ih => rw [List.map_cons, List.flatten_cons, nrm_app, h, ih]
  have hr : ∀ r, nrm (ruleP r) = ruleP r := fun r => by
    unfold ruleP
    rw [nrm_app, nrm_app, hx _ _ (Nat.le_refl _)]
    rfl
  unfold policyP declsP rulesP tailP
  simp only [nrm_app, hf _ _ hr, hf (declP wOffice) p.offices fun a => rfl, hf (declP wKind) p.kinds fun a => rfl, hx _ p.change (Nat.le_refl _)]
  rfl
theorem print_iff {p : Po} (hT : (policyP p).length ≤ 200000) : (okMode p.mode && ((policyP p).all validB && parsesB p)) = okPo p := by
  rw [Bool.eq_iff_iff]
  constructor
  · intro h
    simp only [Bool.and_eq_true] at h
    obtain ⟨_, h1, h2⟩ := h
    unfold parsesB at h2
    split at h2
    · rename_i x r hx
      obtain ⟨hx, _⟩ := policy_ok.1 hx
      rw [sameP_iff] at h2
      subst h2
      exact (eat_policy hx h1).1
    · cases h2
  · intro h
    have hv := val_policy h
    have hr := read_policy h (fits_toks (f := fuelN) h hT) []
    rw [List.append_nil] at hr
    have hp : policyT fuelN (policyP p) = .ok p [] := policy_ok.2 ⟨hr, rfl⟩
    have hm : okMode p.mode = true := by
      simp only [okPo, Bool.and_eq_true] at h
      exact h.2.1
    rw [hm, hv, parsesB, hp]
    exact (sameP_iff p p).2 rfl
theorem print_eq {p : Po} (hT : (policyP p).length ≤ 200000) : printE p = if okPo p = true then (textP p, 0) else (nilS, 190) := by rw [printE, print_iff hT]
theorem print_ok {p : Po} (hT : (policyP p).length ≤ 200000) : (printE p).2 = 0 ↔ okPo p = true := by
  rw [print_eq hT]
  split
  · simp_all
  · simp_all
/-- What was parsed can be printed. -/
theorem parsed_ok {l : List Tk} {x : Po} (h : policyT fuelN l = .ok x []) (hv : l.all validB = true) : okPo x = true ∧ policyP x = nrm l ∧ printE x = (textP x, 0) := by
  obtain ⟨h1, l1, h2, h3⟩ := eat_policy (policy_ok.1 h).1 hv
  rw [List.append_nil] at h2
  subst h2
  refine ⟨h1, h3.symm, ?_⟩
  have hp : policyT fuelN (policyP x) = .ok x [] := by rw [← h3, policy_nrm, h]; rfl
  have hm : okMode x.mode = true := by
    simp only [okPo, Bool.and_eq_true] at h1
    exact h1.2.1
  rw [printE, hm, val_policy h1, parsesB, hp]
  show (if sameP x x = true then _ else _) = _
  rw [if_pos ((sameP_iff x x).2 rfl)]

/-! ### Text is read where it stands -/
def placed : Nat → List Tk → List Tk
  | _, [] => []
  | c, t :: l => mkTk t.kind t.text t.n (c : Int) :: placed (c + (spellS t).size + 1) l
theorem placed_nrm : ∀ (c : Nat) (l : List Tk), nrm (placed c l) = nrm l
  | _, [] => rfl
  | c, t :: l => by
    show nrmT _ :: nrm (placed _ l) = nrmT t :: nrm l
    rw [placed_nrm]
    rfl
theorem placed_len (c : Nat) (l : List Tk) : (placed c l).length = l.length := by
  rw [← nrm_len, placed_nrm, nrm_len]
theorem placed_app : ∀ (c : Nat) (l m : List Tk), placed c (l ++ m) = placed c l ++ placed (c + costT l) m
  | c, [], m => by simp [placed, costT]
  | c, t :: l, m => by
    rw [List.cons_append]
    simp only [placed, placed_app _ l m, costT, List.cons_append]
    rw [show c + (spellS t).size + 1 + costT l = c + ((spellS t).size + 1 + costT l) by omega]
theorem join_cost_eq : ∀ {l : List Tk}, l ≠ [] → (joinL (wordsL l)).length + 1 = costT l
  | [t], _ => by
    have : (spellS t).size = (spellS t).data.toList.length := size_data _
    show ((spellS t).data.toList).length + 1 = _
    unfold costT costT
    omega
  | t :: s :: r, _ => by
    have ih := join_cost_eq (l := s :: r) (by simp)
    have : (spellS t).size = (spellS t).data.toList.length := size_data _
    show ((spellS t).data.toList ++ 32 :: joinL (wordsL (s :: r))).length + 1 = _
    rw [List.length_append, List.length_cons]
    unfold costT
    omega
theorem join_size_eq {l : List Tk} (h : l ≠ []) : (joinS (l.map spellS) ⟨#[32]⟩).size + 1 = costT l := by
  rw [size_data, join_words, join_cost_eq h]
/-- Text's words are read back where they stand. -/
theorem text_at {src : ByteArray} : ∀ (l : List Tk) (c : Nat), l.all validB = true → src.data.toList.drop c = joinL (wordsL l) → ∀ toks, lexFrom src c toks = (toks ++ placed c l, 0, 0)
  | [], c, _, hd, toks => by
    rw [placed, List.append_nil]
    refine lex_end _ ?_
    have := congrArg List.length hd
    rw [List.length_drop, ← size_data] at this
    simp only [wordsL, List.map_nil, joinL, List.length_nil] at this
    omega
  | [t], c, hv, hd, toks => by
    rw [List.all_cons, Bool.and_eq_true] at hv
    obtain ⟨u, A, hw, hs, _, _, _⟩ := word_valid hv.1
    have hd : src.data.toList.drop c = u :: A := by rw [hd, ← hw]; rfl
    have hlen := congrArg List.length hd
    rw [List.length_drop, ← size_data, List.length_cons] at hlen
    have hst : stepO src c = some (shiftR c ([mkTk t.kind t.text t.n 0], (u :: A).length)) := by rw [step_T (by omega), hd, hs]; rfl
    rw [lex_step (by omega) hst, lex_end _ (by show src.size ≤ c + (u :: A).length; rw [List.length_cons]; omega)]
    show (toks ++ [mkTk t.kind t.text t.n (0 + (c : Int))], 0, 0) = (toks ++ [mkTk t.kind t.text t.n (c : Int)], 0, 0)
    rw [Int.zero_add]
  | t :: s :: r, c, hv, hd, toks => by
    rw [List.all_cons, Bool.and_eq_true] at hv
    obtain ⟨u, A, hw, hs, hc1, hcm, _⟩ := word_valid hv.1
    have hd : src.data.toList.drop c = (u :: A) ++ 32 :: joinL (wordsL (s :: r)) := by rw [hd, ← hw]; rfl
    have hlen := congrArg List.length hd
    rw [List.length_drop, ← size_data, List.length_append, List.length_cons, List.length_cons] at hlen
    have hst : stepO src c = some (shiftR c ([mkTk t.kind t.text t.n 0], (u :: A).length)) := by
      rw [step_T (by omega), hd, stepT_white _ white_32 hc1 (fun e => by rw [hcm] at e; cases e), hs]
      rfl
    have hd2 : src.data.toList.drop (c + (u :: A).length) = 32 :: joinL (wordsL (s :: r)) := by rw [← List.drop_drop, hd, List.drop_left]
    have hsp : byteC src (c + (u :: A).length) = 1 := by
      refine cls1_byte (u := 32) ?_ (by unfold clsK; rw [white_32]; rfl)
      have : (src.data.toList.drop (c + (u :: A).length))[0]? = some 32 := by rw [hd2]; rfl
      rwa [List.getElem?_drop, Nat.add_zero] at this
    have hd3 : src.data.toList.drop (c + (u :: A).length + 1) = joinL (wordsL (s :: r)) := by rw [← List.drop_drop, hd2]; rfl
    have hwz : (spellS t).size = (u :: A).length := by rw [size_data, hw]
    have ih := text_at (s :: r) (c + (u :: A).length + 1) hv.2 hd3 (toks ++ [mkTk t.kind t.text t.n (0 + (c : Int))])
    rw [lex_step (by omega) hst]
    show lexFrom src (c + (u :: A).length) (toks ++ [mkTk t.kind t.text t.n (0 + (c : Int))]) = _
    rw [lex_space hsp, ih, List.append_assoc]
    show (toks ++ ([mkTk t.kind t.text t.n (0 + (c : Int))] ++ placed (c + (u :: A).length + 1) (s :: r)), 0, 0) = (toks ++ (mkTk t.kind t.text t.n (c : Int) :: placed (c + (spellS t).size + 1) (s :: r)), 0, 0)
    rw [Int.zero_add, hwz]
    rfl
def joinW (l : List Tk) : ByteArray := joinS (l.map spellS) ⟨#[32]⟩
theorem lex_joined {l : List Tk} (hv : l.all validB = true) (hz : (joinW l).size ≤ 65536) : lexE (joinW l) = (placed 0 l, 0, 0) := by
  have h1 := text_at (src := joinW l) l 0 hv (by rw [List.drop_zero, joinW, join_words]) []
  rw [lexE_small hz, h1, List.nil_append]
theorem lex_good {src : ByteArray} (h : (lexE src).2.2 = 0) : (lexE src).2.1 = 0 ∧ (lexE src).1.all validB = true ∧ (lexE src).1.length ≤ src.size ∧ src.size ≤ 65536 ∧ costT (lexE src).1 ≤ 2 * src.size := by
  by_cases hz : src.size ≤ 65536
  · rcases lexE_ways hz with ⟨ts, h1, h2⟩ | ⟨b, ts, h1, h2, h3, h4⟩
    · rw [h2]
      have := h1.valid
      have := h1.len
      exact ⟨rfl, h1.valid.1, by show ts.length ≤ _; omega, hz, by show costT ts ≤ _; omega⟩
    · rw [h4] at h
      cases h
  · rw [lexE, if_pos (by omega)] at h
    cases h
/-- What Parse accepts. -/
theorem parse_good {src : ByteArray} (h : (parseE src).2.2 = 0) : (lexE src).2.2 = 0 ∧ policyT fuelN (lexE src).1 = .ok (parseE src).1 [] ∧ (parseE src).2.1 = 0 := by
  unfold parseE at h ⊢
  split at h
  · rename_i h1
    rw [if_pos h1]
    refine ⟨h1, ?_⟩
    unfold readE at h ⊢
    cases hp : policyT fuelN (lexE src).1 with
    | ok p r =>
      obtain ⟨_, rfl⟩ := policy_ok.1 hp
      exact ⟨rfl, rfl⟩
    | bad r =>
      rw [hp] at h
      cases h
  · rename_i h1
    rw [if_neg h1] 
    exact absurd h h1
theorem parse_err (src : ByteArray) : (parseE src).2.2 = 0 ∨ (parseE src).1 = zeroP := by
  unfold parseE readE
  split
  · cases policyT fuelN (lexE src).1 with
    | ok p r => exact .inl rfl
    | bad r => exact .inr rfl
  · exact .inr rfl
theorem parse_lexed {src : ByteArray} {l : List Tk} {a : Int} (h : lexE src = (l, a, 0)) : parseE src = readE l (src.size : Int) := by
  unfold parseE
  rw [h, if_pos rfl]
/-- Sources of the same tokens. -/
theorem parse_same {s t : ByteArray} {l m : List Tk} {a b : Int} (h1 : lexE s = (l, a, 0)) (h2 : lexE t = (m, b, 0)) (h : sameTs l m = true) : (parseE s).1 = (parseE t).1 ∧ (parseE s).2.2 = (parseE t).2.2 := by
  rw [parse_lexed h1, parse_lexed h2]
  have e : (policyT fuelN l).nm = (policyT fuelN m).nm := by rw [← policy_nrm, ← policy_nrm, nrm_iff.1 h]
  unfold readE
  cases hl : policyT fuelN l with
  | ok p r =>
    rw [hl] at e
    cases hm : policyT fuelN m with
    | ok q r2 =>
      rw [hm] at e
      injection e with e1 e2
      subst e1
      exact ⟨rfl, rfl⟩
    | bad r2 => rw [hm] at e; cases e
  | bad r =>
    rw [hl] at e
    cases hm : policyT fuelN m with
    | ok q r2 => rw [hm] at e; cases e
    | bad r2 => exact ⟨rfl, rfl⟩
theorem parse_joined {l : List Tk} {x : Po} (hv : l.all validB = true) (hz : (joinW l).size ≤ 65536) (h : policyT fuelN (nrm l) = .ok x []) : parseE (joinW l) = (x, 0, 0) := by
  rw [parse_lexed (lex_joined hv hz)]
  have e := policy_nrm fuelN (placed 0 l)
  rw [placed_nrm, h] at e
  unfold readE
  cases hm : policyT fuelN (placed 0 l) with
  | ok q r2 =>
    rw [hm] at e
    injection e with e1 e2
    subst e1
    rfl
  | bad r2 => rw [hm] at e; cases e
/-- What was printed is parsed. -/
theorem back_print {p : Po} (hT : (policyP p).length ≤ 200000) (h : okPo p = true) (hz : (textP p).size ≤ 65536) : parseE (textP p) = (p, 0, 0) := by
  have hv := val_policy h
  have hr := read_policy h (fits_toks (f := fuelN) h hT) []
  rw [List.append_nil] at hr
  exact parse_joined hv hz (by rw [nrm_policy]; exact policy_ok.2 ⟨hr, rfl⟩)
theorem policy_cut {f : Nat} {l m : List Tk} {x : Po} (hv : l.all validB = true) (hf : l.length ≤ f) (h : policyT f (l ++ m) = .ok x []) (hm : m ≠ []) : policyT f l = .bad [] := by
  have hl := (gp_pol0 f).loc l m []
  rw [(policy_ok.1 h).1, List.append_nil] at hl
  generalize hb : pol0 f l = b at hl
  generalize ha : PR.ok x ([] : List Tk) = a at hl
  have hr : b.rest = [] := by
    cases hl with
    | ok y q hq =>
      injection ha with h1 h2
      exact absurd (List.append_eq_nil_iff.1 h2.symm).2 hm
    | bad q hq => cases ha
    | off _ _ h1 h2 => exact List.length_eq_zero_iff.1 (Nat.le_zero.1 h2)
  cases b with
  | bad r =>
    obtain rfl : r = [] := hr
    exact policy_bad.2 (.inl hb)
  | ok y r =>
    obtain rfl : r = [] := hr
    obtain ⟨h1, l1, h2, h3⟩ := eat_policy hb hv
    rw [List.append_nil] at h2
    subst h2
    have h4 := read_policy h1 (fits_toks (f := f) h1 (by rw [← h3, nrm_len]; exact hf)) (nrm m)
    rw [← h3, ← nrm_app, (gp_pol0 f).sam, (policy_ok.1 h).1] at h4
    injection h4 with h5 h6
    exact absurd (nrm_nil.1 h6.symm) hm
/-- The place of a token of a text. -/
theorem placed_rest {c : Nat} {l r : List Tk} (h : r <:+ placed c l) : ∃ a b, l = a ++ b ∧ r = placed (c + costT a) b := by
  obtain ⟨q, hq⟩ := h
  refine ⟨l.take q.length, l.drop q.length, (List.take_append_drop ..).symm, ?_⟩
  have e := placed_app c (l.take q.length) (l.drop q.length)
  rw [List.take_append_drop, ← hq] at e
  have hlen := congrArg List.length hq
  rw [List.length_append, placed_len] at hlen
  refine (List.append_inj e ?_).2
  rw [placed_len, List.length_take]
  omega
theorem joinW_size {l : List Tk} (h : l ≠ []) : (joinW l).size + 1 = costT l := join_size_eq h
theorem joinW_le (l : List Tk) : (joinW l).size ≤ costT l := join_size l
theorem joinW_nil : (joinW []).size = 0 := rfl
/-- A wrong token of a text stands at its place. -/
theorem wrong_place {l r : List Tk} {i : Nat} (hr : r <:+ placed 0 l) (hi : i ≤ l.length) (hl : r.length ≤ l.length - i) : ((joinW (l.take i)).size : Int) ≤ placeT r ((joinW l).size : Int) ∧ placeT r ((joinW l).size : Int) ≤ ((joinW l).size : Int) := by
  obtain ⟨a, b, hab, rfl⟩ := placed_rest hr
  rw [placed_len] at hl
  have hlen := congrArg List.length hab
  rw [List.length_append] at hlen
  have ht : l.take i = a.take i := by rw [hab, List.take_append_of_le_length (by omega)]
  have ha : costT (l.take i) + costT (a.drop i) = costT a := by rw [ht, ← cost_app, List.take_append_drop]
  have h1 := joinW_le (l.take i)
  cases b with
  | nil =>
    refine ⟨?_, Int.le_refl _⟩
    show ((joinW (l.take i)).size : Int) ≤ ((joinW l).size : Int)
    rw [List.append_nil] at hab
    subst hab
    by_cases he : l.take i = []
    · rw [he, joinW_nil]
      omega
    · have h2 := joinW_size he
      by_cases hn : l = []
      · subst hn
        simp at he
      · have h3 := joinW_size hn
        omega
  | cons t b =>
    have hne : l ≠ [] := by rw [hab]; simp
    have h3 := joinW_size hne
    have h4 : costT l = costT a + costT (t :: b) := by rw [hab, cost_app]
    have h5 : costT (t :: b) = (spellS t).size + 1 + costT b := rfl
    have e : placeT (placed (0 + costT a) (t :: b)) ((joinW l).size : Int) = ((0 + costT a : Nat) : Int) := rfl
    rw [e]
    constructor <;> omega
theorem cut_parse {l : List Tk} {x : Po} {k : Nat} (hv : l.all validB = true) (hf : l.length ≤ 200000) (h : policyT fuelN l = .ok x []) (hk : k < l.length) (hz : (joinW (l.take k)).size ≤ 65536) : parseE (joinW (l.take k)) = (zeroP, ((joinW (l.take k)).size : Int), 190) := by
  have hv1 : (l.take k).all validB = true := by
    rw [← List.take_append_drop k l, List.all_append, Bool.and_eq_true] at hv
    exact hv.1
  have hc := policy_cut (f := fuelN) (m := l.drop k) hv1 (by rw [List.length_take]; unfold fuelN; omega) (by rw [List.take_append_drop]; exact h) (fun e => by
    have := congrArg List.length e
    rw [List.length_drop, List.length_nil] at this
    omega)
  rw [parse_lexed (lex_joined hv1 hz)]
  have e := policy_nrm fuelN (placed 0 (l.take k))
  rw [placed_nrm, policy_nrm, hc] at e
  unfold readE
  cases hm : policyT fuelN (placed 0 (l.take k)) with
  | ok q r2 => rw [hm] at e; cases e
  | bad r2 =>
    rw [hm] at e
    injection e with e
    have : r2 = [] := nrm_nil.1 e.symm
    subst this
    rfl
theorem change_parse {l m : List Tk} {x : Po} {i : Nat} (hm : m.all validB = true) (h : policyT fuelN l = .ok x []) (hi : i < l.length) (hlm : m.length = l.length) (ht : m.take i = l.take i) (hz : (joinW m).size ≤ 65536) : ((parseE (joinW m)).2.2 = 0 ∧ (parseE (joinW m)).2.1 = 0) ∨ ((parseE (joinW m)).2.2 = 190 ∧ ((joinW (m.take i)).size : Int) ≤ (parseE (joinW m)).2.1 ∧ (parseE (joinW m)).2.1 ≤ ((joinW m).size : Int)) := by
  rw [parse_lexed (lex_joined hm hz)]
  unfold readE
  cases hp : policyT fuelN (placed 0 m) with
  | ok q r => exact .inl ⟨rfl, rfl⟩
  | bad r =>
    refine .inr ⟨rfl, ?_⟩
    have hs := policy_suf fuelN (placed 0 m)
    rw [hp] at hs
    refine wrong_place (l := m) (i := i) hs (by omega) ?_
    have e := policy_nrm fuelN (placed 0 m)
    rw [placed_nrm, policy_nrm, hp] at e
    cases hq : policyT fuelN m with
    | ok q r2 => rw [hq] at e; cases e
    | bad r2 =>
      rw [hq] at e
      injection e with e
      have e2 := congrArg List.length e
      rw [nrm_len, nrm_len] at e2
      rw [← List.take_append_drop i l] at h
      rw [← List.take_append_drop i m, ht] at hq
      have h3 := policy_change h (fun e => by
        have := congrArg List.length e
        rw [List.length_drop, List.length_nil] at this
        omega) hq
      rw [List.length_drop] at h3
      show r.length ≤ _
      omega
end Go.Proofs.YtghmjnbpkobooaaGreatDoor
