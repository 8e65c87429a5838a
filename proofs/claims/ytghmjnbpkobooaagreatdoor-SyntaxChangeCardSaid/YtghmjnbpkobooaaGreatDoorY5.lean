/-
  The parser's block, how it fails; what the parser takes away of its tokens. Plain Lean, and memory.
-/
import Derived.Test.YtghmjnbpkobooaaGreatDoorY4
import Derived.Test.YtghmjnbpkobooaaGreatDoorT0
import Derived.Test.YtghmjnbpkobooaaGreatDoorBD
set_option linter.unusedVariables false
set_option linter.unusedSimpArgs false
namespace Go.Proofs.YtghmjnbpkobooaaGreatDoor
open Go Go.RowKit

theorem Hp.front {B : World} {I : Im} {w : World} {L : List (Nat × Obj)} {p : Nat × Obj} (k : Nat) (hk : L[k]? = some p) (h : Hp B I w L) : Hp B I w (p :: L.eraseIdx k) := by
  have hp : ∀ (l : List (Nat × Obj)) (k : Nat) (p : Nat × Obj), l[k]? = some p → (p :: l.eraseIdx k).Perm l := by
    intro l
    induction l with
    | nil => intro k p h; simp at h
    | cons a l ih =>
      intro k p h
      cases k with
      | zero =>
        simp only [List.getElem?_cons_zero, Option.some.injEq] at h
        subst h
        exact List.Perm.refl _
      | succ k => exact (List.Perm.swap _ _ _).trans ((ih k p (by simpa using h)).cons a)
  exact h.perm (hp L k p hk)
/-- A literal slice of one element, before it is appended to. -/
theorem acc_lit1 {I : Im} {sz : Nat} {D : List Dat} {us : List Value} {g : Nat} (hr : RepL I D us) (hl : D.length = sz) : Acc I sz (.slice (some ⟨g, 0, none⟩) 1 1) us [D] := by
  have hu := hr.length
  refine .inr ⟨g, 1, rfl, Nat.le_refl _, by decide, by omega, fun j x hx => ?_⟩
  cases j with
  | zero =>
    simp only [List.getElem?_cons_zero, Option.some.injEq] at hx
    subst hx
    have e : (us.drop (0 * sz)).take sz = us := by rw [Nat.zero_mul, List.drop_zero, List.take_of_length_le (by omega)]
    rw [e]
    exact hr
  | succ j => simp at hx
def wrongV (a : Int) : List PanicEntry := [{ v := .iface 178 (.agg #[.int .i64 a]), recovered := false }]
abbrev paB (gP : Nat) (v : Value) (e : Int) (q0 q1 q2 q3 q4 q5 q6 q7 q8 q9 : Value) : Nat × Obj := (gP, Ob [v, .int .i64 e, q0, q1, q2, q3, q4, q5, q6, q7, q8, q9] 182)
/-- The parser has stopped. -/
def badP (B : World) (I : Im) (gP : Nat) (e : Int) (L : List (Nat × Obj)) {α : Type} (p : PR α) (ch : List PanicEntry) (w : World) : Prop :=
  ∃ l' cs, p = .bad l' ∧ ch = wrongV (placeT l' e) ∧ Hp B I w ((gP, Ob cs 182) :: L)
section
variable {B : World} {I I' : Im} {gP : Nat} {e : Int} {L L' : List (Nat × Obj)} {ch : List PanicEntry} {w : World}
theorem badP.fin {α β : Type} {p : PR α} {T : PR β} {g : α → List Tk → PR β} (h : badP B I' gP e L' p ch w) (hT : T = p.go g) (hle : Le I I') (hs : L.Sublist L') : badP B I gP e L T ch w := by
  obtain ⟨l', cs, rfl, hc, H⟩ := h
  exact ⟨l', cs, hT, hc, (H.sub (hs.cons_cons _)).back hle⟩
theorem badP.fin0 {α : Type} {p T : PR α} (h : badP B I' gP e L' p ch w) (hT : T = p) (hle : Le I I') (hs : L.Sublist L') : badP B I gP e L T ch w := by
  obtain ⟨l', cs, rfl, hc, H⟩ := h
  exact ⟨l', cs, hT, hc, (H.sub (hs.cons_cons _)).back hle⟩
end
theorem idx_res (s : ByteArray) : decide (0 ≤ idx resW s) = resB s := by
  have h : ∀ (l : List ByteArray) (i : Int), 0 ≤ i → (0 ≤ ixOf l s i ↔ (l.any fun u => decide (u = s)) = true) := by
    intro l
    induction l with
    | nil => intro i hi; simp [ixOf]
    | cons x l ih =>
      intro i hi
      simp only [ixOf, List.any_cons, Bool.or_eq_true, decide_eq_true_eq]
      by_cases hx : x = s
      · simp [hx, hi]
      · rw [if_neg hx, ih (i + 1) (by omega)]
        simp [hx]
  rw [Bool.eq_iff_iff, decide_eq_true_eq]
  exact h resW 0 (by decide)
def takeT (x : ByteArray) (l : List Tk) : List Tk := if isT x l = true then l.tail else l

/-! ### How much is taken away -/
theorem isT_len {x : ByteArray} {l : List Tk} (h : isT x l = true) : l.tail.length + 1 = l.length := by
  cases l with
  | nil => cases h
  | cons t r => rfl
theorem Gp.lok {α : Type} {f : List Tk → PR α} (h : Gp f) {l r : List Tk} {x : α} (he : f l = .ok x r) : r.length ≤ l.length := by
  have := h.less l
  rw [he] at this
  exact this
theorem want_less {x : ByteArray} {xs : List ByteArray} {l r : List Tk} {u : Unit} (h : wantsT (x :: xs) l = .ok u r) : r.length < l.length := by
  obtain ⟨_, s, h1, h2⟩ := go_ok h
  obtain ⟨h3, rfl⟩ := want_ok h1
  have h4 := isT_len h3
  have h5 := (gp_wants xs).lok h2
  omega
theorem num_less {l r : List Tk} {n : Int} (h : numT l = .ok n r) : r.length < l.length := by
  cases l with
  | nil => cases h
  | cons t l =>
    rw [numT_cons] at h
    split at h
    · injection h with _ h
      subst h
      exact Nat.lt_succ_self _
    · cases h
theorem name_less {l r : List Tk} {s : ByteArray} (h : nameT l = .ok s r) : r.length < l.length := by
  cases l with
  | nil => cases h
  | cons t l =>
    rw [nameT_cons] at h
    split at h
    · injection h with _ h
      subst h
      exact Nat.lt_succ_self _
    · cases h
theorem next_less {pe : List Tk → PR Ex} (hp : Gp pe) {l r : List Tk} {x : Ex} (h : nextT pe l = .ok x r) : r.length < l.length := by
  obtain ⟨_, s, h1, h2⟩ := go_ok h
  have := want_less h1
  have := hp.lok h2
  omega
theorem decl_less {x s : ByteArray} {l r : List Tk} (h : declT x l = .ok s r) : r.length < l.length := by
  obtain ⟨_, s1, h1, h2⟩ := go_ok h
  have h3 := want_less h1
  have h4 := (gp_name.go fun s => (gp_wants _).go fun _ => Gp.ok s).lok h2
  omega
theorem rule_less {f : Nat} {l r : List Tk} {x : Ru} (h : ruleT f l = .ok x r) : r.length < l.length := by
  obtain ⟨_, s1, h1, h2⟩ := go_ok h
  have h3 := want_less h1
  obtain ⟨_, s2, h4, h5⟩ := go_ok h2
  have h6 := name_less h4
  have h7 := ((gp_wants _).go fun _ => gp_num.go fun n => (gp_wants _).go fun _ => (gp_expr f).go fun x => (gp_wants _).go fun _ => Gp.ok _).lok h5
  omega
/-! ### The steps of a loop over items -/
def preT {α : Type} (acc : List α) (p : PR (List α)) : PR (List α) := p.go fun az r => .ok (acc ++ az) r
theorem pre_nil {α : Type} (p : PR (List α)) : p = preT [] p := by cases p <;> rfl
theorem many_step {α : Type} {x : ByteArray} {item : List Tk → PR α} {f : Nat} {l l1 : List Tk} {a : α} {acc : List α} (h : isT x l = true) (hi : item l = .ok a l1) : preT acc (manyT x item (f + 1) l) = preT (acc ++ [a]) (manyT x item f l1) := by
  rw [manyT_succ, if_pos h, hi, go_ok_]
  cases manyT x item f l1 with
  | ok az r => simp [preT, PR.go]
  | bad r => rfl
theorem many_stop {α : Type} {x : ByteArray} {item : List Tk → PR α} {f : Nat} {l : List Tk} {acc : List α} (h : isT x l = false) : preT acc (manyT x item (f + 1) l) = .ok acc l := by
  rw [manyT_succ, if_neg (by rw [h]; decide)]
  simp [preT, PR.go]
theorem many_bad {α : Type} {x : ByteArray} {item : List Tk → PR α} {f : Nat} {l : List Tk} {acc : List α} (h : isT x l = true) : preT acc (manyT x item (f + 1) l) = (item l).go fun a l => preT (acc ++ [a]) (manyT x item f l) := by
  rw [manyT_succ, if_pos h]
  cases item l with
  | bad r => rfl
  | ok a r =>
    rw [go_ok_, go_ok_]
    cases manyT x item f r with
    | ok az r => simp [preT, PR.go]
    | bad r => rfl
theorem declT_eq (x : ByteArray) (l : List Tk) : declT x l = (wantsT [x] l).go fun _ l => (nameT l).go fun s l => (wantsT [sSemi] l).go fun _ l => .ok s l := rfl
theorem wants_cons (x : ByteArray) (xs : List ByteArray) (l : List Tk) : wantsT (x :: xs) l = (wantT x l).go fun _ l => wantsT xs l := rfl
end Go.Proofs.YtghmjnbpkobooaaGreatDoor
