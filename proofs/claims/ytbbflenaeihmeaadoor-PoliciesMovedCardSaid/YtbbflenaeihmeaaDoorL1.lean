/-
  Plain laws on policies: what a tree's numbers do not matter for; resolving again; offices in another order; which version is in force. No program in sight.
-/
import Derived.Test.YtbbflenaeihmeaaDoorP18
set_option linter.unusedVariables false
set_option linter.unusedSimpArgs false
namespace Go.Proofs.YtbbflenaeihmeaaDoor
open Go Go.RowKit

/-! ### All numbers the same -/
mutual
def bareX (n : Int) : Ex → Ex
  | ⟨k, c, _, nm, l⟩ => ⟨k, c, n, nm, bareXs n l⟩
def bareXs (n : Int) : List Ex → List Ex
  | [] => []
  | x :: l => bareX n x :: bareXs n l
end
def bareR (n : Int) (r : Ru) : Ru := ⟨r.kind, n, r.think, bareX n r.expr⟩
def bareP (n : Int) (p : Po) : Po := ⟨p.name, p.kinds, p.offices, p.rules.map (bareR n), bareX n p.change, p.mode⟩
theorem bareXs_eq (n : Int) : ∀ l, bareXs n l = l.map (bareX n)
  | [] => rfl
  | x :: l => by simp [bareXs, bareXs_eq n l]
theorem bareX_kind (n : Int) (x : Ex) : (bareX n x).kind = x.kind := by cases x; simp [bareX]
theorem bareX_n (n : Int) (x : Ex) : (bareX n x).n = x.n := by cases x; simp [bareX]
theorem bareX_no (n : Int) (x : Ex) : (bareX n x).no = n := by cases x; simp [bareX]
theorem bareX_name (n : Int) (x : Ex) : (bareX n x).name = x.name := by cases x; simp [bareX]
theorem bareX_l (n : Int) (x : Ex) : (bareX n x).l = x.l.map (bareX n) := by cases x; simp [bareX, bareXs_eq]
mutual
theorem bare_partsN (n : Int) : ∀ (x : Ex) (lim : Int), partsN (bareX n x) lim = partsN x lim
  | ⟨k, c, no, nm, l⟩, lim => by simp only [bareX, partsN, bare_partsNs n l]
theorem bare_partsNs (n : Int) : ∀ (l : List Ex) (lim c : Int), partsNs (bareXs n l) lim c = partsNs l lim c
  | [], _, _ => rfl
  | x :: l, lim, c => by simp only [bareXs, partsNs, bare_partsN n x, bare_partsNs n l]
end
mutual
theorem bare_depth (n : Int) : ∀ (x : Ex), depthX (bareX n x) = depthX x
  | ⟨k, c, no, nm, l⟩ => by simp only [bareX, depthX, bare_depths n l]
theorem bare_depths (n : Int) : ∀ (l : List Ex) (c : Int), depthXs (bareXs n l) c = depthXs l c
  | [], _ => rfl
  | x :: l, c => by simp only [bareXs, depthXs, bare_depth n x, bare_depths n l]
end
theorem bare_few (n : Int) (x : Ex) : fewX (bareX n x) = fewX x := by simp only [fewX, bare_partsN]
theorem bare_size (n : Int) (x : Ex) : sizeB (bareX n x) = sizeB x := by
  have h1 := large_eq x
  have h2 := large_eq (bareX n x)
  have h3 : largeB (bareX n x) = largeB x := by simp only [largeB, bare_partsN, bare_depth]
  rw [h1, h2] at h3
  simpa using h3
mutual
theorem bare_all (n : Int) (g : Ex → Bool) (hg : ∀ x, g (bareX n x) = g x) : ∀ x : Ex, allX g (bareX n x) = allX g x
  | ⟨k, c, no, nm, l⟩ => by
    have h := hg ⟨k, c, no, nm, l⟩
    simp only [bareX] at h
    simp only [bareX, allX, h, bare_alls n g hg l]
theorem bare_alls (n : Int) (g : Ex → Bool) (hg : ∀ x, g (bareX n x) = g x) : ∀ l : List Ex, allXs g (bareXs n l) = allXs g l
  | [] => rfl
  | x :: l => by simp only [bareXs, allXs, bare_all n g hg x, bare_alls n g hg l]
end
theorem bare_offG (n : Int) (off : List ByteArray) (x : Ex) : offG off (bareX n x) = offG off x := by simp only [offG, bareX_kind, bareX_name]
theorem bare_partG (n : Int) (up : Bool) (x : Ex) : partG up (bareX n x) = partG up x := by
  simp only [partG, kindOk, bareX_kind, bareX_n, bareX_name, bareX_l, List.length_map]
mutual
theorem bare_resolve (n : Int) (off : List ByteArray) : ∀ x : Ex, resolveX off (bareX n x) = resolveX off x
  | ⟨k, c, no, nm, l⟩ => by simp only [bareX, resolveX, bare_resolves n off l]
theorem bare_resolves (n : Int) (off : List ByteArray) : ∀ l : List Ex, resolveXs off (bareXs n l) = resolveXs off l
  | [] => rfl
  | x :: l => by simp only [bareXs, resolveXs, bare_resolve n off x, bare_resolves n off l]
end
mutual
theorem resolve_bare (n : Int) (off : List ByteArray) : ∀ x : Ex, bareX n (resolveX off x) = bareX n x
  | ⟨k, c, no, nm, l⟩ => by simp only [bareX, resolveX, resolve_bares n off l]
theorem resolve_bares (n : Int) (off : List ByteArray) : ∀ l : List Ex, bareXs n (resolveXs off l) = bareXs n l
  | [] => rfl
  | x :: l => by simp only [bareXs, resolveXs, resolve_bare n off x, resolve_bares n off l]
end
theorem sizesP_eq (p : Po) : sizesB p = (((decide ((p.offices.length : Int) ≤ 32) && decide ((p.kinds.length : Int) ≤ 16)) && decide ((p.rules.length : Int) ≤ 16)) && (p.rules.all (fun r => sizeB r.expr) && sizeB p.change)) := by
  rw [sizesB, exprs_all]
theorem namesP_eq (p : Po) : namesB p = (((freeB p.name && distB p.offices) && distB p.kinds) && (p.rules.all (fun r => allX (offG p.offices) r.expr) && allX (offG p.offices) p.change)) := by
  rw [namesB, exprs_all]
  simp only [namedX_all]
theorem all_map' {α : Type} {f g : α → Bool} {h : α → α} (H : ∀ x, f (h x) = g x) : ∀ l : List α, (l.map h).all f = l.all g
  | [] => rfl
  | x :: l => by simp only [List.map_cons, List.all_cons, H x, all_map' H l]
theorem bare_len (n : Int) (p : Po) : (bareP n p).rules.length = p.rules.length := List.length_map ..
theorem bare_sizes (n : Int) (p : Po) : sizesB (bareP n p) = sizesB p := by
  have h2 : (bareP n p).rules.all (fun r => sizeB r.expr) = p.rules.all (fun r => sizeB r.expr) := all_map' (h := bareR n) (fun r => bare_size n r.expr) p.rules
  have h3 : sizeB (bareP n p).change = sizeB p.change := bare_size n p.change
  rw [sizesP_eq, sizesP_eq, bare_len, h2, h3]
  rfl
theorem bare_names (n : Int) (p : Po) : namesB (bareP n p) = namesB p := by
  rw [namesP_eq, namesP_eq]
  simp only [bareP]
  rw [all_map' (g := fun r => allX (offG p.offices) r.expr) (fun r => by simp only [bareR]; exact bare_all n _ (bare_offG n _) _), bare_all n _ (bare_offG n _)]
theorem bare_rulesF (n : Int) (ks : List ByteArray) : ∀ (l : List Ru) (i : Nat), rulesG ks (l.map (bareR n)) i = rulesG ks l i
  | [], _ => rfl
  | r :: l, i => by
    simp only [List.map_cons, rulesG, bare_rulesF n ks l (i + 1)]
    have h1 : ∀ k, ruleOk k (bareR n r) = ruleOk k r := fun k => rfl
    have h2 : allX (partG true) (bareR n r).expr = allX (partG true) r.expr := bare_all n _ (bare_partG n true) _
    simp only [h1, h2]
theorem bare_form (n : Int) (p : Po) : formB (bareP n p) = formB p := by
  have h2 : rulesG (bareP n p).kinds (bareP n p).rules 0 = rulesG p.kinds p.rules 0 := bare_rulesF n p.kinds p.rules 0
  have h3 : allX (partG false) (bareP n p).change = allX (partG false) p.change := bare_all n _ (bare_partG n false) _
  rw [form_eq, form_eq, bare_len, h2, h3]
  rfl
theorem bare_err (n : Int) (p : Po) : errOf (bareP n p) = errOf p := by simp only [errOf, bare_sizes, bare_names, bare_form]
theorem bare_fewP (n : Int) (p : Po) : fewB (bareP n p) = fewB p := by
  have h2 : (bareP n p).rules.all (fun r => fewX r.expr) = p.rules.all (fun r => fewX r.expr) := all_map' (h := bareR n) (fun r => bare_few n r.expr) p.rules
  have h3 : fewX (bareP n p).change = fewX p.change := bare_few n p.change
  rw [fewB, fewB, bare_len, h2, h3]
  rfl
theorem bare_rulesR (n : Int) (off : List ByteArray) : ∀ (l : List Ru) (i : Nat), rulesR off (l.map (bareR n)) i = rulesR off l i
  | [], _ => rfl
  | r :: l, i => by simp only [List.map_cons, rulesR, bare_rulesR n off l (i + 1), ruR, bareR, bare_resolve]
theorem rulesR_bare (n : Int) (off : List ByteArray) : ∀ (l : List Ru) (i : Nat), (rulesR off l i).map (bareR n) = l.map (bareR n)
  | [], _ => rfl
  | r :: l, i => by simp only [rulesR, List.map_cons, rulesR_bare n off l (i + 1), ruR, bareR, resolve_bare]
theorem bare_resolveP (n : Int) (p : Po) : resolveP (bareP n p) = resolveP p := by simp only [resolveP, bareP, bare_rulesR, bare_resolve]
theorem resolveP_bare (n : Int) (p : Po) : bareP n (resolveP p) = bareP n p := by simp only [resolveP, bareP, rulesR_bare, resolve_bare]

/-! ### What was resolved -/
theorem err_resolve (p : Po) : errOf (resolveP p) = errOf p := by rw [← bare_err 0 (resolveP p), resolveP_bare, bare_err]
theorem resolve_twice (p : Po) : resolveP (resolveP p) = resolveP p := by rw [← bare_resolveP 0 (resolveP p), resolveP_bare, bare_resolveP]
theorem few_resolve (p : Po) : fewB (resolveP p) = fewB p := by rw [← bare_fewP 0 (resolveP p), resolveP_bare, bare_fewP]
theorem err_cases (p : Po) : errOf p = 0 ∨ errOf p = 2 ∨ errOf p = 201 ∨ errOf p = 200 := by
  unfold errOf
  split
  · split
    · split
      · exact .inl rfl
      · exact .inr (.inr (.inr rfl))
    · exact .inr (.inr (.inl rfl))
  · exact .inr (.inl rfl)
theorem sameP_refl (p : Po) : sameP p p = true := (sameP_iff p p).2 rfl
theorem sameP_comm (p q : Po) : sameP p q = sameP q p := by
  rw [Bool.eq_iff_iff, sameP_iff, sameP_iff]
  exact eq_comm
theorem check_eq {p : Po} (h : errOf p = 0) : checkE p = if sameP (resolveP p) p = true then 0 else 200 := by
  rw [checkE, if_pos h, check_same]
theorem check_err {p : Po} (h : ¬ errOf p = 0) : checkE p = errOf p := by rw [checkE, if_neg h]
theorem check_ok {p : Po} (h : checkE p = 0) : errOf p = 0 ∧ resolveP p = p := by
  by_cases h0 : errOf p = 0
  · refine ⟨h0, ?_⟩
    rw [check_eq h0] at h
    split at h
    · exact (sameP_iff _ _).1 (by assumption)
    · cases h
  · rw [check_err h0] at h
    exact absurd h h0
theorem check_resolved {p : Po} (h : errOf p = 0) : checkE (resolveP p) = 0 := by
  rw [check_eq (by rw [err_resolve, h]), resolve_twice, if_pos (sameP_refl _)]
theorem resP_ok {p : Po} (h : errOf p = 0) : resP p = resolveP p := if_pos h
theorem resP_err {p : Po} (h : ¬ errOf p = 0) : resP p = zeroPo := if_neg h
theorem check_other {p : Po} (n : Int) (h : errOf p = 0) : decide (checkE (bareP n p) = 0) = sameP (bareP n p) (resolveP p) := by
  rw [check_eq (by rw [bare_err, h]), bare_resolveP, sameP_comm]
  cases sameP (bareP n p) (resolveP p) <;> rfl

/-! ### Where indices lead -/
def leadG (off : List ByteArray) (x : Ex) : Bool := if isNamed x.kind = true then (decide (0 ≤ x.no) && decide (x.no < (off.length : Int))) && decide (off[x.no.toNat]? = some x.name) else decide (x.no = 0)
theorem ixOf_at : ∀ (l : List ByteArray) (s : ByteArray) (i : Int), 0 ≤ i → 0 ≤ ixOf l s i → ∃ k : Nat, ixOf l s i = i + k ∧ l[k]? = some s
  | [], s, i, h, h2 => by simp [ixOf] at h2
  | x :: l, s, i, h, h2 => by
    simp only [ixOf] at h2 ⊢
    by_cases e : x = s
    · rw [if_pos e]
      exact ⟨0, by simp, by simp [e]⟩
    · rw [if_neg e] at h2 ⊢
      obtain ⟨k, h3, h4⟩ := ixOf_at l s (i + 1) (by omega) h2
      exact ⟨k + 1, by omega, by simpa using h4⟩
theorem idx_at {l : List ByteArray} {s : ByteArray} (h : 0 ≤ idx l s) : ∃ k : Nat, idx l s = (k : Int) ∧ l[k]? = some s := by
  obtain ⟨k, h1, h2⟩ := ixOf_at l s 0 (by omega) h
  exact ⟨k, by rw [idx, h1]; omega, h2⟩
mutual
theorem lead_resolve (off : List ByteArray) : ∀ x : Ex, allX (offG off) x = true → allX (leadG off) (resolveX off x) = true
  | ⟨k, c, no, nm, l⟩, h => by
    simp only [allX, Bool.and_eq_true] at h
    simp only [resolveX, allX, Bool.and_eq_true]
    refine ⟨?_, lead_resolves off l h.2⟩
    have h1 := h.1
    simp only [offG] at h1
    simp only [leadG]
    by_cases hk : isNamed k = true
    · rw [if_pos hk, if_pos hk]
      rw [hk] at h1
      simp only [Bool.not_true, Bool.false_or, decide_eq_true_eq] at h1
      obtain ⟨q, h2, h3⟩ := idx_at h1
      have := (List.getElem?_eq_some_iff.1 h3).1
      rw [h2]
      simp only [Int.toNat_natCast, h3, decide_true, Bool.and_true, Bool.and_eq_true, decide_eq_true_eq]
      omega
    · rw [if_neg hk, if_neg hk]
      rfl
theorem lead_resolves (off : List ByteArray) : ∀ l : List Ex, allXs (offG off) l = true → allXs (leadG off) (resolveXs off l) = true
  | [], _ => rfl
  | x :: l, h => by
    simp only [allXs, Bool.and_eq_true] at h
    simp only [resolveXs, allXs, Bool.and_eq_true]
    exact ⟨lead_resolve off x h.1, lead_resolves off l h.2⟩
end
theorem names_at {p : Po} (h : namesB p = true) {r : Ru} {i : Nat} (hr : p.rules[i]? = some r) : allX (offG p.offices) r.expr = true := by
  simp only [namesP_eq, Bool.and_eq_true] at h
  exact List.all_eq_true.1 h.2.1 r (List.mem_of_getElem? hr)
theorem names_change {p : Po} (h : namesB p = true) : allX (offG p.offices) p.change = true := by
  simp only [namesP_eq, Bool.and_eq_true] at h
  exact h.2.2
theorem rulesF_at (ks : List ByteArray) : ∀ (l : List Ru) (i : Nat), rulesF ks l i = true → ∀ {j : Nat} {r : Ru}, l[j]? = some r → ∃ k, ks[i + j]? = some k ∧ ruleOk k r = true
  | [], _, _, j, r, hr => by simp at hr
  | x :: l, i, h, j, r, hr => by
    simp only [rulesF, Bool.and_eq_true] at h
    cases j with
    | zero =>
      simp only [List.getElem?_cons_zero, Option.some.injEq] at hr
      subst hr
      cases hk : ks[i]? with
      | none => rw [hk] at h; simp at h
      | some k => rw [hk] at h; exact ⟨k, by simp [hk], h.1⟩
    | succ j =>
      obtain ⟨k, h1, h2⟩ := rulesF_at ks l (i + 1) h.2 (j := j) (by simpa using hr)
      exact ⟨k, by rw [show i + (j + 1) = i + 1 + j by omega]; exact h1, h2⟩
theorem form_rules {p : Po} (h : formB p = true) {r : Ru} {i : Nat} (hr : p.rules[i]? = some r) : p.kinds[i]? = some r.kind := by
  simp only [formB, Bool.and_eq_true] at h
  obtain ⟨k, h1, h2⟩ := rulesF_at p.kinds p.rules 0 h.1.2 hr
  simp only [ruleOk, Bool.and_eq_true, decide_eq_true_eq] at h2
  rw [h2.1]
  simpa using h1
theorem rulesR_at (off : List ByteArray) : ∀ (l : List Ru) (i : Nat) {j : Nat} {r : Ru}, l[j]? = some r → (rulesR off l i)[j]? = some (ruR off (i + j) r)
  | [], _, j, r, hr => by simp at hr
  | x :: l, i, j, r, hr => by
    cases j with
    | zero =>
      simp only [List.getElem?_cons_zero, Option.some.injEq] at hr
      subst hr
      simp [rulesR]
    | succ j =>
      have := rulesR_at off l (i + 1) (j := j) (by simpa using hr)
      simp only [rulesR, List.getElem?_cons_succ, this]
      rw [show i + 1 + j = i + (j + 1) by omega]
theorem rulesR_from (off : List ByteArray) {l : List Ru} {j : Nat} {r : Ru} (hr : (rulesR off l 0)[j]? = some r) : ∃ r0, l[j]? = some r0 ∧ r = ruR off j r0 := by
  have h1 := (List.getElem?_eq_some_iff.1 hr).1
  rw [rulesR_length] at h1
  have h2 := rulesR_at off l 0 (j := j) (List.getElem?_eq_getElem h1)
  rw [h2] at hr
  exact ⟨_, List.getElem?_eq_getElem h1, by simpa using hr.symm⟩
end Go.Proofs.YtbbflenaeihmeaaDoor
