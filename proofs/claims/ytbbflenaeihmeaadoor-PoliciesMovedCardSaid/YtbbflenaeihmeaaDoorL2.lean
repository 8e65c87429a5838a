/-
  Plain laws on policies, part 2: offices in another order; which version is in force. No program in sight.
-/
import Derived.Test.YtbbflenaeihmeaaDoorL1
set_option linter.unusedVariables false
set_option linter.unusedSimpArgs false
namespace Go.Proofs.YtbbflenaeihmeaaDoor
open Go Go.RowKit

/-! ### Places in a list of names -/
theorem ixOf_first : ∀ (l : List ByteArray) (s : ByteArray) (i : Int) (j : Nat), l[j]? = some s → (∀ q, q < j → l[q]? ≠ some s) → ixOf l s i = i + j
  | [], s, i, j, h, _ => by simp at h
  | x :: l, s, i, j, h, h2 => by
    simp only [ixOf]
    cases j with
    | zero =>
      simp only [List.getElem?_cons_zero, Option.some.injEq] at h
      rw [if_pos h]
      simp
    | succ j =>
      have hx : ¬ x = s := by
        rintro rfl
        exact h2 0 (by omega) (by simp)
      rw [if_neg hx, ixOf_first l s (i + 1) j (by simpa using h) (fun q hq e => h2 (q + 1) (by omega) (by simpa using e))]
      omega
theorem idx_nodup {l : List ByteArray} (hn : l.Nodup) {s : ByteArray} {j : Nat} (h : l[j]? = some s) : idx l s = j := by
  have h1 : j < l.length := (List.getElem?_eq_some_iff.1 h).1
  rw [idx, ixOf_first l s 0 j h (fun q hq e => by
    have h2 : q < l.length := by omega
    have := (List.getElem?_inj h2 hn).1 (e.trans h.symm)
    omega)]
  omega
theorem distF_at (l : List ByteArray) : ∀ (r : List ByteArray) (i : Int), distF l r i = true → ∀ {j : Nat} {x : ByteArray}, r[j]? = some x → freeB x = true ∧ idx l x = i + j
  | [], _, _, j, x, hx => by simp at hx
  | y :: r, i, h, j, x, hx => by
    simp only [distF, Bool.and_eq_true, decide_eq_true_eq] at h
    cases j with
    | zero =>
      simp only [List.getElem?_cons_zero, Option.some.injEq] at hx
      subst hx
      exact ⟨h.1.1, by rw [h.1.2]; simp⟩
    | succ j =>
      have := distF_at l r (i + 1) h.2 (j := j) (x := x) (by simpa using hx)
      exact ⟨this.1, by rw [this.2]; omega⟩
theorem distF_of (l : List ByteArray) : ∀ (r : List ByteArray) (i : Int), (∀ (j : Nat) x, r[j]? = some x → freeB x = true ∧ idx l x = i + j) → distF l r i = true
  | [], _, _ => rfl
  | y :: r, i, h => by
    simp only [distF, Bool.and_eq_true, decide_eq_true_eq]
    have h0 := h 0 y (by simp)
    refine ⟨⟨h0.1, by rw [h0.2]; simp⟩, distF_of l r (i + 1) fun j x hx => ?_⟩
    have := h (j + 1) x (by simpa using hx)
    exact ⟨this.1, by rw [this.2]; omega⟩
theorem dist_nodup {l : List ByteArray} (h : distB l = true) : l.Nodup := by
  rw [List.Nodup, List.pairwise_iff_getElem]
  intro i j hi hj hij e
  have h1 := distF_at l l 0 h (j := i) (List.getElem?_eq_getElem hi)
  have h2 := distF_at l l 0 h (j := j) (List.getElem?_eq_getElem hj)
  rw [e] at h1
  have := h1.2.symm.trans h2.2
  omega
theorem dist_free {l : List ByteArray} (h : distB l = true) {x : ByteArray} (hx : x ∈ l) : freeB x = true := by
  obtain ⟨j, hj, rfl⟩ := List.getElem_of_mem hx
  exact (distF_at l l 0 h (j := j) (List.getElem?_eq_getElem hj)).1
theorem dist_of {l : List ByteArray} (hn : l.Nodup) (hf : ∀ x ∈ l, freeB x = true) : distB l = true :=
  distF_of l l 0 fun j x hx => ⟨hf x (List.mem_of_getElem? hx), by rw [idx_nodup hn hx]; omega⟩

/-! ### Offices in another order -/
def rot (k : Nat) (l : List ByteArray) : List ByteArray := l.drop k ++ l.take k
theorem rot_perm (k : Nat) (l : List ByteArray) : (rot k l).Perm l := by
  have := List.perm_append_comm (l₁ := l.drop k) (l₂ := l.take k)
  rwa [List.take_append_drop] at this
theorem rot_at {k j : Nat} {l : List ByteArray} {s : ByteArray} (hk : k < l.length) (h : l[j]? = some s) : ∃ q : Nat, (rot k l)[q]? = some s ∧ (q : Int) = Int.tmod ((j : Int) - k + l.length) l.length := by
  have hj : j < l.length := (List.getElem?_eq_some_iff.1 h).1
  by_cases hjk : k ≤ j
  · refine ⟨j - k, ?_, ?_⟩
    · rw [rot, List.getElem?_append_left (by rw [List.length_drop]; omega), List.getElem?_drop, show k + (j - k) = j by omega]
      exact h
    · rw [Int.tmod_eq_emod_of_nonneg (by omega), show ((j : Int) - k + l.length) = ((j - k : Nat) : Int) + l.length by omega, Int.add_emod_right, Int.emod_eq_of_lt (by omega) (by omega)]
  · refine ⟨l.length - k + j, ?_, ?_⟩
    · rw [rot, List.getElem?_append_right (by rw [List.length_drop]; omega), List.length_drop, show l.length - k + j - (l.length - k) = j by omega, List.getElem?_take, if_pos (by omega)]
      exact h
    · rw [Int.tmod_eq_emod_of_nonneg (by omega), Int.emod_eq_of_lt (by omega) (by omega)]
      omega
theorem idx_rot {k : Nat} {l : List ByteArray} {s : ByteArray} (hn : l.Nodup) (hk : k < l.length) (h : 0 ≤ idx l s) : idx (rot k l) s = Int.tmod (idx l s - k + l.length) l.length := by
  obtain ⟨j, h1, h2⟩ := idx_at h
  obtain ⟨q, h3, h4⟩ := rot_at hk h2
  rw [idx_nodup ((rot_perm k l).nodup_iff.2 hn) h3, h4, h1]
mutual
def movedX (k n : Int) : Ex → Ex → Bool
  | ⟨ka, _, noa, _, la⟩, ⟨_, _, nob, _, lb⟩ => decide (nob = (if isNamed ka = true then Int.tmod (noa - k + n) n else noa)) && movedXs k n la lb
def movedXs (k n : Int) : List Ex → List Ex → Bool
  | [], [] => true
  | x :: l, y :: m => movedX k n x y && movedXs k n l m
  | _, _ => false
end
theorem movedX_eq (k n : Int) (x y : Ex) : movedX k n x y = (decide (y.no = (if isNamed x.kind = true then Int.tmod (x.no - k + n) n else x.no)) && movedXs k n x.l y.l) := by
  cases x
  cases y
  simp only [movedX]
theorem movedXs_len {k n : Int} : ∀ {l m : List Ex}, ¬ l.length = m.length → movedXs k n l m = false
  | [], [], h => by simp at h
  | x :: l, y :: m, h => by
    simp only [movedXs, movedXs_len (l := l) (m := m) (by simpa using h), Bool.and_false]
  | [], y :: m, _ => by simp [movedXs]
  | x :: l, [], _ => by simp [movedXs]
mutual
theorem moved_resolve {k : Nat} {off : List ByteArray} (hn : off.Nodup) (hk : k < off.length) : ∀ x : Ex, allX (offG off) x = true → allX (resG off) x = true → movedX k off.length x (resolveX (rot k off) x) = true
  | ⟨kd, c, no, nm, l⟩, h1, h2 => by
    simp only [allX, Bool.and_eq_true] at h1 h2
    simp only [resolveX, movedX, Bool.and_eq_true, decide_eq_true_eq]
    refine ⟨?_, moveds_resolve hn hk l h1.2 h2.2⟩
    have h3 := h1.1
    have h4 := h2.1
    simp only [offG] at h3
    simp only [resG, decide_eq_true_eq] at h4
    by_cases e : isNamed kd = true
    · rw [if_pos e] at h4 ⊢
      rw [if_pos e, h4]
      rw [e] at h3
      exact idx_rot hn hk (by simpa using h3)
    · rw [if_neg e] at h4 ⊢
      rw [if_neg e, h4]
theorem moveds_resolve {k : Nat} {off : List ByteArray} (hn : off.Nodup) (hk : k < off.length) : ∀ l : List Ex, allXs (offG off) l = true → allXs (resG off) l = true → movedXs k off.length l (resolveXs (rot k off) l) = true
  | [], _, _ => rfl
  | x :: l, h1, h2 => by
    simp only [allXs, Bool.and_eq_true] at h1 h2
    simp only [resolveXs, movedXs, Bool.and_eq_true]
    exact ⟨moved_resolve hn hk x h1.1 h2.1, moveds_resolve hn hk l h1.2 h2.2⟩
end
/-- The numbers of a tree are small: no sum overflows. -/
def lowG (x : Ex) : Bool := decide (-1 ≤ x.no) && decide (x.no ≤ 1000)
mutual
theorem low_of {off : List ByteArray} (hl : off.length ≤ 1000) : ∀ x : Ex, allX (resG off) x = true → allX lowG x = true
  | ⟨kd, c, no, nm, l⟩, h => by
    simp only [allX, Bool.and_eq_true] at h
    simp only [allX, Bool.and_eq_true]
    refine ⟨?_, lows_of hl l h.2⟩
    have h1 := h.1
    simp only [resG, decide_eq_true_eq] at h1
    simp only [lowG, Bool.and_eq_true, decide_eq_true_eq]
    have h2 := ixOf_range off nm 0 (by omega)
    rw [h1]
    split
    · unfold idx
      omega
    · omega
theorem lows_of {off : List ByteArray} (hl : off.length ≤ 1000) : ∀ l : List Ex, allXs (resG off) l = true → allXs lowG l = true
  | [], _ => rfl
  | x :: l, h => by
    simp only [allXs, Bool.and_eq_true] at h
    simp only [allXs, Bool.and_eq_true]
    exact ⟨low_of hl x h.1, lows_of hl l h.2⟩
end
def rotP (k : Nat) (p : Po) : Po := ⟨p.name, p.kinds, rot k p.offices, p.rules, p.change, p.mode⟩
theorem rot_len (k : Nat) (l : List ByteArray) : (rot k l).length = l.length := (rot_perm k l).length_eq
theorem ixOf_mem : ∀ (l : List ByteArray) (s : ByteArray) (i : Int), 0 ≤ i → s ∈ l → 0 ≤ ixOf l s i
  | [], _, _, _, h => by cases h
  | x :: l, s, i, hi, h => by
    simp only [ixOf]
    split
    · exact hi
    · exact ixOf_mem l s (i + 1) (by omega) ((List.mem_cons.1 h).resolve_left (fun e => by simp_all))
theorem offG_rot {k : Nat} {off : List ByteArray} (x : Ex) (h : offG off x = true) : offG (rot k off) x = true := by
  simp only [offG] at h ⊢
  cases hk : isNamed x.kind with
  | false => rfl
  | true =>
    rw [hk] at h
    simp only [Bool.not_true, Bool.false_or, decide_eq_true_eq] at h ⊢
    obtain ⟨j, _, h2⟩ := idx_at h
    exact ixOf_mem _ _ 0 (by omega) ((rot_perm k off).mem_iff.2 (List.mem_of_getElem? h2))
mutual
theorem allX_imp {g g' : Ex → Bool} (H : ∀ x, g x = true → g' x = true) : ∀ x : Ex, allX g x = true → allX g' x = true
  | ⟨kd, c, no, nm, l⟩, h => by
    simp only [allX, Bool.and_eq_true] at h ⊢
    exact ⟨H _ h.1, allXs_imp H l h.2⟩
theorem allXs_imp {g g' : Ex → Bool} (H : ∀ x, g x = true → g' x = true) : ∀ l : List Ex, allXs g l = true → allXs g' l = true
  | [], _ => rfl
  | x :: l, h => by
    simp only [allXs, Bool.and_eq_true] at h ⊢
    exact ⟨allX_imp H x h.1, allXs_imp H l h.2⟩
end
theorem rot_err {k : Nat} {p : Po} (h : errOf p = 0) : errOf (rotP k p) = 0 := by
  obtain ⟨h1, h2, h3⟩ := err_ok h
  have e1 : sizesB (rotP k p) = true := by
    rw [sizesP_eq] at h1 ⊢
    simp only [rotP, rot_len]
    exact h1
  have e2 : namesB (rotP k p) = true := by
    rw [namesP_eq] at h2 ⊢
    simp only [Bool.and_eq_true] at h2
    simp only [rotP, Bool.and_eq_true]
    refine ⟨⟨⟨h2.1.1.1, ?_⟩, h2.1.2⟩, ?_, allX_imp (fun x => offG_rot x) _ h2.2.2⟩
    · exact dist_of ((rot_perm k _).nodup_iff.2 (dist_nodup h2.1.1.2)) fun x hx => dist_free h2.1.1.2 ((rot_perm k _).mem_iff.1 hx)
    · exact List.all_eq_true.2 fun r hr => allX_imp (fun x => offG_rot x) _ (List.all_eq_true.1 h2.2.1 r hr)
  have e3 : formB (rotP k p) = true := h3
  rw [errOf, if_pos e1, if_pos e2, if_pos e3]
theorem rot_few (k : Nat) (p : Po) : fewB (rotP k p) = fewB p := by
  have : fewN (rot k p.offices) 32 = fewN p.offices 32 := by
    simp only [fewN, rot_len]
    rw [show (rot k p.offices).all shortB = p.offices.all shortB by
      rw [rot, List.all_append, Bool.and_comm, ← List.all_append, List.take_append_drop]]
  have h2 : fewN (rotP k p).offices 32 = fewN p.offices 32 := this
  rw [fewB, fewB, h2]
  rfl
/-- What the check says of each expression. -/
theorem check_parts {p : Po} (h : checkE p = 0) : p.offices.Nodup ∧ p.offices.length ≤ 32 ∧ p.rules.length ≤ 16 ∧ (∀ (i : Nat) r, p.rules[i]? = some r → allX (offG p.offices) r.expr = true ∧ allX (resG p.offices) r.expr = true) ∧ allX (offG p.offices) p.change = true ∧ allX (resG p.offices) p.change = true := by
  obtain ⟨h0, h1⟩ := check_ok h
  obtain ⟨e1, e2, e3⟩ := err_ok h0
  have e4 := h
  rw [checkE, if_pos h0] at e4
  split at e4
  · rename_i e5
    rw [Bool.and_eq_true] at e5
    obtain ⟨l1, _, l3⟩ := sizes_len e1
    refine ⟨?_, l1, l3, fun i r hr => ⟨names_at e2 hr, ?_⟩, names_change e2, by rw [← resolved_all]; exact e5.2⟩
    · rw [namesP_eq] at e2
      simp only [Bool.and_eq_true] at e2
      exact dist_nodup e2.1.1.2
    · have := e5.1
      have key : ∀ (l : List Ru) (j i : Nat), chF p.offices l j = true → l[i]? = some r → resolvedB p.offices r.expr = true := by
        intro l
        induction l with
        | nil => intro j i _ hi; simp at hi
        | cons x l ih =>
          intro j i hc hi
          simp only [chF, Bool.and_eq_true] at hc
          cases i with
          | zero =>
            simp only [List.getElem?_cons_zero, Option.some.injEq] at hi
            subst hi
            exact hc.1.2
          | succ i => exact ih (j + 1) i hc.2 (by simpa using hi)
      rw [← resolved_all]
      exact key _ 0 i this hr
  · cases e4

/-! ### Which version is in force -/
def countB (at_ kn : Int) (x : Ve) : Bool := decide (x.at_ ≤ at_) && decide (x.known ≤ kn)
theorem fold_count (at_ kn : Int) : ∀ (l : List Ve) (s : Int × Int × Bool), (l.filter (countB at_ kn)).foldl (stStep at_ kn) s = l.foldl (stStep at_ kn) s
  | [], _ => rfl
  | x :: l, s => by
    rw [List.filter_cons]
    split
    · rename_i h
      simp only [List.foldl_cons]
      exact fold_count at_ kn l _
    · rename_i h
      simp only [List.foldl_cons]
      rw [fold_count at_ kn l s]
      congr 1
      unfold stStep countB at *
      rw [Bool.eq_false_iff.2 h]
      rfl
/-- The numbers of the versions rise. -/
def Rise : List Ve → Int → Prop
  | [], _ => True
  | x :: l, la => la < x.no ∧ Rise l x.no
theorem Rise.mono : ∀ {l : List Ve} {a b : Int}, a ≤ b → Rise l b → Rise l a
  | [], _, _, _, _ => trivial
  | x :: l, a, b, h, hr => ⟨by have := hr.1; omega, hr.2⟩
theorem Rise.mem : ∀ {l : List Ve} {a : Int}, Rise l a → ∀ x ∈ l, a < x.no
  | [], _, _, x, hx => by cases hx
  | y :: l, a, h, x, hx => by
    rcases List.mem_cons.1 hx with rfl | hx
    · exact h.1
    · have := Rise.mem h.2 x hx
      have := h.1
      omega
theorem allF_filter (q : Ve → Bool) : ∀ (l : List Ve) (la lb : Int), lb ≤ la → -1 ≤ lb → allF l la = true → allF (l.filter q) lb = true ∧ Rise (l.filter q) lb
  | [], _, _, _, _, _ => ⟨rfl, trivial⟩
  | x :: l, la, lb, h, h0, ha => by
    simp only [allF, Bool.and_eq_true] at ha
    have hx := ha.1
    simp only [okV, withinB, Bool.and_eq_true, decide_eq_true_eq] at hx
    rw [List.filter_cons]
    split
    · obtain ⟨h1, h2⟩ := allF_filter q l x.no x.no (by omega) (by omega) ha.2
      refine ⟨?_, by omega, h2⟩
      simp only [allF, Bool.and_eq_true]
      refine ⟨?_, h1⟩
      simp only [okV, withinB, Bool.and_eq_true, decide_eq_true_eq]
      omega
    · exact allF_filter q l x.no lb (by omega) h0 ha.2
/-- What is told of the version in force, out of versions that all count. -/
def Best (l : List Ve) (s : Int × Int × Bool) : Prop :=
  (l = [] ∧ s = (0, 0, false)) ∨ ∃ x ∈ l, s = (x.no, x.at_, true) ∧ ∀ y ∈ l, y.at_ ≤ x.at_ ∧ (y.at_ = x.at_ → y.no ≤ x.no)
theorem best_fold (at_ kn : Int) : ∀ (l done : List Ve) (s : Int × Int × Bool) (la : Int), (∀ y ∈ done, y.no ≤ la) → Rise l la → (∀ x ∈ l, countB at_ kn x = true) → Best done s → Best (done ++ l) (l.foldl (stStep at_ kn) s)
  | [], done, s, la, _, _, _, h => by simpa using h
  | x :: l, done, s, la, hd, hr, hc, h => by
    have hx := hc x (List.mem_cons_self ..)
    have hnext : Best (done ++ [x]) (stStep at_ kn s x) := by
      unfold stStep
      unfold countB at hx
      rw [hx, Bool.true_and]
      rcases h with ⟨rfl, rfl⟩ | ⟨z, hz, rfl, hb⟩
      · rw [if_pos (by rfl)]
        exact .inr ⟨x, by simp, rfl, fun y hy => by simp at hy; subst hy; omega⟩
      · by_cases e : z.at_ ≤ x.at_
        · rw [if_pos (by simp [e])]
          refine .inr ⟨x, by simp, rfl, fun y hy => ?_⟩
          rcases List.mem_append.1 hy with hy | hy
          · have h1 := hb y hy
            have h2 := hd y hy
            have h3 := hr.1
            omega
          · simp at hy
            subst hy
            omega
        · rw [if_neg (by simp [e])]
          refine .inr ⟨z, by simp [hz], rfl, fun y hy => ?_⟩
          rcases List.mem_append.1 hy with hy | hy
          · exact hb y hy
          · simp at hy
            subst hy
            omega
    have := best_fold at_ kn l (done ++ [x]) (stStep at_ kn s x) x.no (fun y hy => by
      rcases List.mem_append.1 hy with hy | hy
      · have := hd y hy
        have := hr.1
        omega
      · simp at hy
        subst hy
        omega) hr.2 (fun y hy => hc y (List.mem_cons_of_mem _ hy)) hnext
    simpa using this
theorem len_filter_le {α : Type} (q : α → Bool) (l : List α) : (l.filter q).length ≤ l.length := List.length_filter_le q l
/-- What the statement on versions says, of lists alone. -/
theorem force_law {l : List Ve} {at_ kn : Int} (h : allE l = 0) (ha : withinB at_ 0 1099511627775 = true) (hk : withinB kn 0 1099511627775 = true) :
    let c := l.filter (countB at_ kn)
    allE c = 0 ∧ standE l at_ kn = standE c at_ kn ∧ (standE l at_ kn).2.2 = 0 ∧ Rise c (-1) ∧ Best c ((standE l at_ kn).1, (c.foldl (stStep at_ kn) (0, 0, false)).2.1, (standE l at_ kn).2.1) := by
  intro c
  unfold allE at h
  by_cases hl : 256 < (l.length : Int)
  · rw [if_pos hl] at h
    cases h
  rw [if_neg hl] at h
  by_cases hf : allF l (-1) = true
  case neg =>
    rw [if_neg hf] at h
    cases h
  obtain ⟨h1, h2⟩ := allF_filter (countB at_ kn) l (-1) (-1) (by omega) (by omega) hf
  have hcl : c.length ≤ l.length := len_filter_le _ _
  have hc : allE c = 0 := by
    rw [allE, if_neg (by omega), if_pos h1]
  have hA : allE l = 0 := by rw [allE, if_neg hl, if_pos hf]
  have e1 : standE l at_ kn = ((l.foldl (stStep at_ kn) (0, 0, false)).1, (l.foldl (stStep at_ kn) (0, 0, false)).2.2, 0) := by
    rw [standE, if_pos hA, if_pos (by rw [ha, hk]; rfl)]
  have e2 : standE c at_ kn = ((c.foldl (stStep at_ kn) (0, 0, false)).1, (c.foldl (stStep at_ kn) (0, 0, false)).2.2, 0) := by
    rw [standE, if_pos hc, if_pos (by rw [ha, hk]; rfl)]
  have e3 : c.foldl (stStep at_ kn) (0, 0, false) = l.foldl (stStep at_ kn) (0, 0, false) := fold_count at_ kn l _
  refine ⟨hc, by rw [e1, e2, e3], by rw [e1], h2, ?_⟩
  have := best_fold at_ kn c [] (0, 0, false) (-1) (fun _ h => by cases h) h2 (fun x hx => (List.mem_filter.1 hx).2) (.inl ⟨rfl, rfl⟩)
  rw [List.nil_append] at this
  rw [e1, ← e3]
  exact this
end Go.Proofs.YtbbflenaeihmeaaDoor
