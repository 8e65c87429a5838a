/-
  The parser of policies: what it reads is a beginning of its tokens; where it looks; places do not count. Plain Lean.
-/
import Derived.Test.YtghmjnbpkobooaaGreatDoorY1
set_option linter.unusedVariables false
set_option linter.unusedSimpArgs false
namespace Go.Proofs.YtghmjnbpkobooaaGreatDoor
open Go Go.RowKit

/-! ### Tokens without their places -/
def nrmT (t : Tk) : Tk := mkTk t.kind t.text t.n 0
def nrm (l : List Tk) : List Tk := l.map nrmT
theorem nrm_app (l m : List Tk) : nrm (l ++ m) = nrm l ++ nrm m := List.map_append
theorem nrm_len (l : List Tk) : (nrm l).length = l.length := List.length_map ..
theorem nrmT_iff (t u : Tk) : sameTk t u = true ↔ nrmT t = nrmT u := by
  simp only [sameTk, nrmT, mkTk, Bool.and_eq_true, decide_eq_true_eq, Tk.mk.injEq, and_true, and_assoc]
theorem nrm_iff : ∀ {l m : List Tk}, sameTs l m = true ↔ nrm l = nrm m
  | [], [] => by simp [sameTs, pairB, nrm]
  | [], t :: m => by simp [sameTs, pairB, nrm]
  | t :: l, [] => by simp [sameTs, pairB, nrm]
  | t :: l, u :: m => by
    have ih := nrm_iff (l := l) (m := m)
    simp only [sameTs, nrm] at ih
    simp only [sameTs, pairB, Bool.and_eq_true, nrm, List.map_cons, List.cons.injEq, nrmT_iff, ih]
theorem nrm_nrm (l : List Tk) : nrm (nrm l) = nrm l := by
  unfold nrm
  rw [List.map_map]
  rfl
theorem nrm_valid (l : List Tk) : (nrm l).all validB = l.all validB := by
  unfold nrm
  rw [List.all_map]
  rfl
theorem nrm_spell (l : List Tk) : (nrm l).map spellS = l.map spellS := by
  unfold nrm
  rw [List.map_map]
  rfl
theorem nrm_nil {l : List Tk} : nrm l = [] ↔ l = [] := List.map_eq_nil_iff

/-! ### Parsers that go on from a beginning -/
def PR.rest {α : Type} : PR α → List Tk
  | .ok _ r => r
  | .bad r => r
def PR.nm {α : Type} : PR α → PR α
  | .ok x r => .ok x (nrm r)
  | .bad r => .bad (nrm r)
inductive Loc {α : Type} (s s' : List Tk) : PR α → PR α → Prop
  | ok (x : α) (q : List Tk) (hq : q ≠ []) : Loc s s' (.ok x (q ++ s)) (.ok x (q ++ s'))
  | bad (q : List Tk) (hq : q ≠ []) : Loc s s' (.bad (q ++ s)) (.bad (q ++ s'))
  | off (a b : PR α) (h : a.rest.length ≤ s.length) (h' : b.rest.length ≤ s'.length) : Loc s s' a b
structure Gp {α : Type} (f : List Tk → PR α) : Prop where
  suf : ∀ l, (f l).rest <:+ l
  loc : ∀ p s s', Loc s s' (f (p ++ s)) (f (p ++ s'))
  sam : ∀ l, f (nrm l) = (f l).nm
theorem Gp.less {α : Type} {f : List Tk → PR α} (h : Gp f) (l : List Tk) : (f l).rest.length ≤ l.length := (h.suf l).length_le
theorem Gp.ok {α : Type} (x : α) : Gp fun l => .ok x l where
  suf := fun l => List.suffix_refl l
  loc := fun p s s' => by
    by_cases hp : p = []
    · subst hp
      exact .off _ _ (Nat.le_refl _) (Nat.le_refl _)
    · exact .ok x p hp
  sam := fun l => rfl
theorem Gp.bad {α : Type} : Gp (α := α) fun l => .bad l where
  suf := fun l => List.suffix_refl l
  loc := fun p s s' => by
    by_cases hp : p = []
    · subst hp
      exact .off _ _ (Nat.le_refl _) (Nat.le_refl _)
    · exact .bad p hp
  sam := fun l => rfl
theorem go_suf {α β : Type} {g : α → List Tk → PR β} (hg : ∀ x, Gp (g x)) (a : PR α) : (a.go g).rest <:+ a.rest := by
  cases a with
  | ok x r => exact (hg x).suf r
  | bad r => exact List.suffix_refl r
theorem Gp.go {α β : Type} {f : List Tk → PR α} {g : α → List Tk → PR β} (hf : Gp f) (hg : ∀ x, Gp (g x)) : Gp fun l => (f l).go g where
  suf := fun l => (go_suf hg _).trans (hf.suf l)
  loc := fun p s s' => by
    have h := hf.loc p s s'
    show Loc s s' ((f (p ++ s)).go g) ((f (p ++ s')).go g)
    generalize f (p ++ s) = a at h ⊢
    generalize f (p ++ s') = b at h ⊢
    cases h with
    | ok x q hq => exact (hg x).loc q s s'
    | bad q hq => exact .bad q hq
    | off _ _ h h' => exact .off _ _ (Nat.le_trans (go_suf hg _).length_le h) (Nat.le_trans (go_suf hg _).length_le h')
  sam := fun l => by
    show (f (nrm l)).go g = ((f l).go g).nm
    rw [hf.sam]
    cases f l with
    | ok x r => exact (hg x).sam r
    | bad r => rfl
/-- A parser that takes one token, or none. -/
def oneT {α : Type} (g : Tk → Option α) : List Tk → PR α
  | [] => .bad []
  | t :: r => match g t with
    | some x => .ok x r
    | none => .bad (t :: r)
theorem one_some {α : Type} {g : Tk → Option α} {t : Tk} {x : α} (h : g t = some x) (r : List Tk) : oneT g (t :: r) = .ok x r := by
  show (match g t with
    | some x => PR.ok x r
    | none => .bad (t :: r)) = _
  rw [h]
theorem one_none {α : Type} {g : Tk → Option α} {t : Tk} (h : g t = none) (r : List Tk) : oneT g (t :: r) = .bad (t :: r) := by
  show (match g t with
    | some x => PR.ok x r
    | none => .bad (t :: r)) = _
  rw [h]
theorem one_suf {α : Type} (g : Tk → Option α) (l : List Tk) : (oneT g l).rest <:+ l := by
  cases l with
  | nil => exact List.suffix_refl _
  | cons t r =>
    cases h : g t with
    | some x =>
      rw [one_some h]
      exact List.suffix_cons t r
    | none =>
      rw [one_none h]
      exact List.suffix_refl _
theorem Gp.one {α : Type} {g : Tk → Option α} (hg : ∀ t, g (nrmT t) = g t) : Gp (oneT g) where
  suf := one_suf g
  loc := fun p s s' => by
    cases p with
    | nil => exact .off _ _ (one_suf g s).length_le (one_suf g s').length_le
    | cons t p =>
      show Loc s s' (oneT g (t :: (p ++ s))) (oneT g (t :: (p ++ s')))
      cases h : g t with
      | some x =>
        rw [one_some h, one_some h]
        exact (Gp.ok x).loc p s s'
      | none =>
        rw [one_none h, one_none h]
        exact .bad (t :: p) (by simp)
  sam := fun l => by
    cases l with
    | nil => rfl
    | cons t r =>
      show oneT g (nrmT t :: nrm r) = _
      cases h : g t with
      | some x =>
        rw [one_some h, one_some (by rw [hg, h])]
        rfl
      | none =>
        rw [one_none h, one_none (by rw [hg, h])]
        rfl
theorem Gp.of {α : Type} {f g : List Tk → PR α} (h : ∀ l, f l = g l) (hg : Gp g) : Gp f := by
  obtain rfl : f = g := funext h
  exact hg
theorem isT_nrm (x : ByteArray) (l : List Tk) : isT x (nrm l) = isT x l := by cases l <;> rfl
theorem wantT_one (x : ByteArray) (l : List Tk) : wantT x l = oneT (fun t => if (!decide (t.kind = 2) && decide (t.text = x)) = true then some () else none) l := by
  cases l with
  | nil => rfl
  | cons t r =>
    unfold wantT oneT isT
    simp only
    split <;> rfl
theorem gp_want (x : ByteArray) : Gp (wantT x) := Gp.of (wantT_one x) (Gp.one fun t => rfl)
theorem gp_wants : ∀ xs : List ByteArray, Gp (wantsT xs)
  | [] => Gp.ok ()
  | x :: xs => (gp_want x).go fun _ => gp_wants xs
theorem gp_name : Gp nameT := Gp.of (g := oneT fun t => if (decide (t.kind = 1) && !resB t.text) = true then some t.text else none) (fun l => by
  cases l with
  | nil => rfl
  | cons t r =>
    unfold nameT oneT
    simp only
    split <;> rfl) (Gp.one fun t => rfl)
theorem gp_num : Gp numT := Gp.of (g := oneT fun t => if t.kind = 2 then some t.n else none) (fun l => by
  cases l with
  | nil => rfl
  | cons t r =>
    unfold numT oneT
    simp only
    split <;> rfl) (Gp.one fun t => rfl)
theorem Gp.ite {α : Type} {x : ByteArray} {f g : List Tk → PR α} (hf : Gp f) (hg : Gp g) : Gp fun l => if isT x l = true then f l.tail else g l where
  suf := fun l => by
    show (if isT x l = true then f l.tail else g l).rest <:+ l
    split
    · exact (hf.suf _).trans (List.tail_suffix l)
    · exact hg.suf l
  loc := fun p s s' => by
    cases p with
    | nil =>
      have h : ∀ l : List Tk, (if isT x l = true then f l.tail else g l).rest.length ≤ l.length := by
        intro l
        split
        · exact ((hf.suf _).trans (List.tail_suffix l)).length_le
        · exact hg.less l
      exact .off _ _ (h s) (h s')
    | cons t p =>
      show Loc s s' (if isT x (t :: (p ++ s)) = true then f (p ++ s) else g (t :: p ++ s)) (if isT x (t :: (p ++ s)) = true then f (p ++ s') else g (t :: p ++ s'))
      split
      · exact hf.loc p s s'
      · exact hg.loc (t :: p) s s'
  sam := fun l => by
    show (if isT x (nrm l) = true then f (nrm l).tail else g (nrm l)) = (if isT x l = true then f l.tail else g l).nm
    rw [isT_nrm]
    split
    · have : (nrm l).tail = nrm l.tail := by cases l <;> rfl
      rw [this, hf.sam]
    · exact hg.sam l
theorem Gp.ite' {α : Type} {x : ByteArray} {f g : List Tk → PR α} (hf : Gp f) (hg : Gp g) : Gp fun l => if isT x l = true then f l else g l where
  suf := fun l => by
    show (if isT x l = true then f l else g l).rest <:+ l
    split
    · exact hf.suf l
    · exact hg.suf l
  loc := fun p s s' => by
    cases p with
    | nil =>
      have h : ∀ l : List Tk, (if isT x l = true then f l else g l).rest.length ≤ l.length := by
        intro l
        split
        · exact hf.less l
        · exact hg.less l
      exact .off _ _ (h s) (h s')
    | cons t p =>
      show Loc s s' (if isT x (t :: (p ++ s)) = true then f (t :: p ++ s) else g (t :: p ++ s)) (if isT x (t :: (p ++ s)) = true then f (t :: p ++ s') else g (t :: p ++ s'))
      split
      · exact hf.loc (t :: p) s s'
      · exact hg.loc (t :: p) s s'
  sam := fun l => by
    show (if isT x (nrm l) = true then f (nrm l) else g (nrm l)) = (if isT x l = true then f l else g l).nm
    rw [isT_nrm]
    split
    · exact hf.sam l
    · exact hg.sam l
theorem gp_many {α : Type} (x : ByteArray) {item : List Tk → PR α} (hi : Gp item) : ∀ f, Gp (manyT x item f)
  | 0 => Gp.bad
  | f + 1 => Gp.ite' (hi.go fun a => (gp_many x hi f).go fun az => Gp.ok (a :: az)) (Gp.ok [])
theorem gp_inside {pe : List Tk → PR Ex} (h : Gp pe) : Gp (insideT pe) := (gp_wants _).go fun _ => h.go fun x => (gp_wants _).go fun _ => Gp.ok x
theorem gp_next {pe : List Tk → PR Ex} (h : Gp pe) : Gp (nextT pe) := (gp_wants _).go fun _ => h
theorem gp_someX : Gp someX := gp_name.go fun s => Gp.ok _
theorem gp_weightX : Gp weightX := gp_num.go fun n => (gp_wants _).go fun _ => gp_name.go fun s => Gp.ok _
theorem gp_uptoX {pe : List Tk → PR Ex} (h : Gp pe) : Gp (uptoX pe) := gp_num.go fun n => (gp_inside h).go fun a => (gp_wants _).go fun _ => (gp_inside h).go fun b => Gp.ok _
theorem gp_ofX {pe : List Tk → PR Ex} (h : Gp pe) (f : Nat) : Gp (ofX pe f) := gp_num.go fun n => (gp_wants _).go fun _ => h.go fun a => (gp_many _ (gp_next h) f).go fun az => (gp_wants _).go fun _ => Gp.ok _
theorem gp_expr : ∀ f, Gp (exprT f)
  | 0 => Gp.bad
  | f + 1 => Gp.ite gp_someX (Gp.ite gp_weightX (Gp.ite (gp_uptoX (gp_expr f)) (gp_ofX (gp_expr f) f)))
theorem gp_mode : Gp modeT := Gp.ite (Gp.ok 1) (Gp.ite (Gp.ok 2) (Gp.ite (Gp.ok 3) (Gp.ite (Gp.ok 4) Gp.bad)))
theorem gp_head : Gp headT := (gp_wants _).go fun _ => gp_name.go fun s => (gp_wants _).go fun _ => gp_mode.go fun m => (gp_wants _).go fun _ => Gp.ok _
theorem gp_decl (x : ByteArray) : Gp (declT x) := (gp_wants _).go fun _ => gp_name.go fun s => (gp_wants _).go fun _ => Gp.ok _
theorem gp_rule (f : Nat) : Gp (ruleT f) := (gp_wants _).go fun _ => gp_name.go fun k => (gp_wants _).go fun _ => gp_num.go fun n => (gp_wants _).go fun _ => (gp_expr f).go fun x => (gp_wants _).go fun _ => Gp.ok _
theorem gp_names (f : Nat) : Gp (namesT f) := (gp_many _ (gp_decl _) f).go fun o => (gp_many _ (gp_decl _) f).go fun k => Gp.ok _
theorem gp_rules (f : Nat) : Gp (rulesT f) := (gp_many _ (gp_rule f) f).go fun rs => (gp_wants _).go fun _ => (gp_expr f).go fun c => (gp_wants _).go fun _ => Gp.ok _
/-- A policy, whatever stands behind it. -/
def pol0 (f : Nat) (l : List Tk) : PR Po := (headT l).go fun h l => (namesT f l).go fun n l => (rulesT f l).go fun r l => .ok ⟨h.1, n.2, n.1, r.1, r.2, h.2⟩ l
theorem gp_pol0 (f : Nat) : Gp (pol0 f) := gp_head.go fun h => (gp_names f).go fun n => (gp_rules f).go fun r => Gp.ok _
theorem go_go {α β γ : Type} (p : PR α) (f : α → List Tk → PR β) (g : β → List Tk → PR γ) : (p.go f).go g = p.go fun x l => (f x l).go g := by cases p <;> rfl
theorem policy_0 (f : Nat) (l : List Tk) : policyT f l = (pol0 f l).go fun p l => (endT l).go fun _ l => .ok p l := by
  unfold policyT pol0
  simp only [go_go]
  rfl
theorem policy_ok {f : Nat} {l r : List Tk} {p : Po} : policyT f l = .ok p r ↔ pol0 f l = .ok p [] ∧ r = [] := by
  rw [policy_0]
  cases h : pol0 f l with
  | bad r => simp [PR.go]
  | ok q s =>
    by_cases hs : s = []
    · subst hs
      simp only [PR.go, endT, if_true, PR.ok.injEq, and_true]
      exact ⟨fun ⟨a, b⟩ => ⟨a, b.symm⟩, fun ⟨a, b⟩ => ⟨a, b.symm⟩⟩
    · simp only [PR.go, endT, if_neg hs, reduceCtorEq, false_iff, PR.ok.injEq]
      rintro ⟨⟨_, h⟩, _⟩
      exact hs h
theorem policy_bad {f : Nat} {l r : List Tk} : policyT f l = .bad r ↔ pol0 f l = .bad r ∨ (∃ p, pol0 f l = .ok p r) ∧ r ≠ [] := by
  rw [policy_0]
  cases h : pol0 f l with
  | bad s => simp [PR.go]
  | ok q s =>
    by_cases hs : s = []
    · subst hs
      simp only [PR.go, endT, if_true, reduceCtorEq, false_or, false_iff, PR.ok.injEq]
      rintro ⟨⟨p, _, rfl⟩, h⟩
      exact h rfl
    · simp only [PR.go, endT, if_neg hs, PR.bad.injEq, reduceCtorEq, false_or, PR.ok.injEq]
      constructor
      · rintro rfl
        exact ⟨⟨q, rfl, rfl⟩, hs⟩
      · rintro ⟨⟨p, _, rfl⟩, _⟩
        rfl
theorem policy_nrm (f : Nat) (l : List Tk) : policyT f (nrm l) = (policyT f l).nm := by
  rw [policy_0, policy_0, (gp_pol0 f).sam]
  cases pol0 f l with
  | bad r => rfl
  | ok p r => cases r <;> rfl
theorem policy_suf (f : Nat) (l : List Tk) : (policyT f l).rest <:+ l := by
  have h := (gp_pol0 f).suf l
  rw [policy_0]
  cases hp : pol0 f l with
  | bad r =>
    rw [hp] at h
    exact h
  | ok p r =>
    rw [hp] at h
    cases r with
    | nil => exact h
    | cons t r => exact h
/-- One token is replaced: nothing ahead of it is refused. -/
theorem policy_change {f : Nat} {p s s' r : List Tk} {x : Po} (h : policyT f (p ++ s) = .ok x []) (hs : s ≠ []) (h' : policyT f (p ++ s') = .bad r) : r.length ≤ s'.length := by
  have hl := (gp_pol0 f).loc p s s'
  rw [(policy_ok.1 h).1] at hl
  generalize hb : pol0 f (p ++ s') = b at hl
  generalize ha : PR.ok x ([] : List Tk) = a at hl
  cases hl with
  | ok y q hq =>
    injection ha with h1 h2
    exact absurd (List.append_eq_nil_iff.1 h2.symm).2 hs
  | bad q hq => cases ha
  | off _ _ h1 h2 =>
    rcases policy_bad.1 h' with h3 | ⟨⟨y, h3⟩, _⟩
    · rw [hb] at h3
      rw [h3] at h2
      exact h2
    · rw [hb] at h3
      rw [h3] at h2
      exact h2
end Go.Proofs.YtghmjnbpkobooaaGreatDoor
