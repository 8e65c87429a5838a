/-
  Policies that can be written: what is printed is read back, what is read is printed back. Plain Lean.
-/
import Derived.Test.YtghmjnbpkobooaaGreatDoorY2
set_option linter.unusedVariables false
set_option linter.unusedSimpArgs false
namespace Go.Proofs.YtghmjnbpkobooaaGreatDoor
open Go Go.RowKit

def okN (s : ByteArray) : Bool := nameB s && !resB s
def okNum (n : Int) : Bool := decide (0 ≤ n) && decide (n ≤ 1099511627776)
mutual
def okE : Ex → Bool
  | ⟨k, n, no, nm, l⟩ => decide (no = 0) && (if k = 1 then decide (n = 0) && (okN nm && l.isEmpty) else if k = 2 then okNum n && (okN nm && l.isEmpty) else if k = 4 then okNum n && (decide (nm = nilS) && (decide (l.length = 2) && okEs l)) else decide (k = 3) && (okNum n && (decide (nm = nilS) && (!l.isEmpty && okEs l))))
def okEs : List Ex → Bool
  | [] => true
  | x :: l => okE x && okEs l
end
theorem okEs_all : ∀ l : List Ex, okEs l = l.all okE
  | [] => rfl
  | x :: l => by simp only [okEs, List.all_cons, okEs_all l]
def okRu (r : Ru) : Bool := okN r.kind && (decide (r.kindNo = 0) && (okNum r.think && okE r.expr))
def okMode (m : Int) : Bool := decide (1 ≤ m) && decide (m ≤ 4)
def okPo (p : Po) : Bool := okN p.name && (okMode p.mode && (p.offices.all okN && (p.kinds.all okN && (p.rules.all okRu && okE p.change))))
theorem isT_wrd (x y : ByteArray) (r : List Tk) : isT x (wrd y :: r) = decide (y = x) := by
  simp only [isT, wrd, mkTk]
  rfl
theorem isT_sgn (x y : ByteArray) (r : List Tk) : isT x (sgn y :: r) = decide (y = x) := by
  simp only [isT, sgn, mkTk]
  rfl
theorem isT_num (x : ByteArray) (n : Int) (r : List Tk) : isT x (num n :: r) = false := by
  simp only [isT, num, mkTk]
  rfl
theorem val_wrd (s : ByteArray) : validB (wrd s) = nameB s := valid_name s
theorem val_num (n : Int) : validB (num n) = okNum n := valid_num n
theorem nrm_wrd (s : ByteArray) : nrmT (wrd s) = wrd s := rfl

theorem nameT_cons (t : Tk) (r : List Tk) : nameT (t :: r) = if (decide (t.kind = 1) && !resB t.text) = true then .ok t.text r else .bad (t :: r) := rfl
theorem numT_cons (t : Tk) (r : List Tk) : numT (t :: r) = if t.kind = 2 then .ok t.n r else .bad (t :: r) := rfl
theorem manyT_succ {α : Type} (x : ByteArray) (item : List Tk → PR α) (f : Nat) (l : List Tk) : manyT x item (f + 1) l = if isT x l = true then (item l).go fun a l => (manyT x item f l).go fun az l => .ok (a :: az) l else .ok [] l := rfl
theorem exprT_succ (f : Nat) (l : List Tk) : exprT (f + 1) l = if isT wSome l = true then someX l.tail else if isT wWeight l = true then weightX l.tail else if isT wUpto l = true then uptoX (exprT f) l.tail else ofX (exprT f) f l := rfl
/-! ### What is read, printed -/
def Eats (P l r : List Tk) : Prop := ∃ l1, l = l1 ++ r ∧ nrm l1 = P
theorem Eats.nil (l : List Tk) : Eats [] l l := ⟨[], rfl, rfl⟩
theorem Eats.trans {P Q l m r : List Tk} (h : Eats P l m) (h' : Eats Q m r) : Eats (P ++ Q) l r := by
  obtain ⟨a, rfl, ha⟩ := h
  obtain ⟨b, rfl, hb⟩ := h'
  exact ⟨a ++ b, by rw [List.append_assoc], by rw [nrm_app, ha, hb]⟩
theorem Eats.val {P l r : List Tk} (h : Eats P l r) (hv : l.all validB = true) : r.all validB = true := by
  obtain ⟨a, rfl, _⟩ := h
  rw [List.all_append, Bool.and_eq_true] at hv
  exact hv.2
def tokW (x : ByteArray) : Tk := if validB (wrd x) = true then wrd x else sgn x
def goodW (x : ByteArray) : Bool := validB (wrd x) != validB (sgn x)
theorem tw_of : tokW wOf = wrd wOf := by rw [tokW, if_pos (by decide +kernel)]
theorem tw_upto : tokW wUpto = wrd wUpto := by rw [tokW, if_pos (by decide +kernel)]
theorem tw_else : tokW wElse = wrd wElse := by rw [tokW, if_pos (by decide +kernel)]
theorem tw_lp : tokW sLp = sgn sLp := by rw [tokW, if_neg (by decide +kernel)]
theorem tw_rp : tokW sRp = sgn sRp := by rw [tokW, if_neg (by decide +kernel)]
theorem valid_else {t : Tk} (h1 : ¬ t.kind = 1) (h2 : ¬ t.kind = 2) (h3 : ¬ t.kind = 3) : validB t = false := by
  unfold validB
  rw [if_neg h1, if_neg h2, if_neg h3]
theorem valid_n {t : Tk} (h : validB t = true) (h2 : ¬ t.kind = 2) : t.n = 0 := by
  unfold validB at h
  rw [if_neg h2] at h
  split at h
  · simp only [Bool.and_eq_true, decide_eq_true_eq] at h
    exact h.2
  · split at h
    · simp only [Bool.and_eq_true, decide_eq_true_eq] at h
      exact h.2
    · cases h
theorem eat_is {x : ByteArray} (hx : goodW x = true) {l : List Tk} (h : isT x l = true) (hv : l.all validB = true) : Eats [tokW x] l l.tail := by
  cases l with
  | nil => cases h
  | cons t r =>
    simp only [isT, Bool.and_eq_true, Bool.not_eq_true', decide_eq_false_iff_not, decide_eq_true_eq] at h
    obtain ⟨h2, rfl⟩ := h
    rw [List.all_cons, Bool.and_eq_true] at hv
    have hn := valid_n hv.1 h2
    refine ⟨[t], rfl, ?_⟩
    show [nrmT t] = [tokW t.text]
    congr 1
    by_cases h1 : t.kind = 1
    · have e : nrmT t = wrd t.text := by simp only [nrmT, wrd, h1, hn]
      have hw : validB (wrd t.text) = true := by rw [← e]; exact hv.1
      rw [tokW, if_pos hw, e]
    · by_cases h3 : t.kind = 3
      · have e : nrmT t = sgn t.text := by simp only [nrmT, sgn, h3, hn]
        have hw : validB (sgn t.text) = true := by rw [← e]; exact hv.1
        have hw2 : validB (wrd t.text) = false := by
          unfold goodW at hx
          rw [hw] at hx
          cases hq : validB (wrd t.text) with
          | false => rfl
          | true => rw [hq] at hx; cases hx
        rw [tokW, hw2, if_neg (by decide), e]
      · rw [valid_else h1 h2 h3] at hv
        cases hv.1
theorem go_ok {α β : Type} {p : PR α} {g : α → List Tk → PR β} {y : β} {r : List Tk} (h : p.go g = .ok y r) : ∃ x s, p = .ok x s ∧ g x s = .ok y r := by
  cases p with
  | ok x s => exact ⟨x, s, rfl, h⟩
  | bad s => cases h
theorem want_ok {x : ByteArray} {l r : List Tk} {u : Unit} (h : wantT x l = .ok u r) : isT x l = true ∧ r = l.tail := by
  unfold wantT at h
  split at h
  · injection h with _ h
    exact ⟨by assumption, h.symm⟩
  · cases h
theorem eat_wants : ∀ {xs : List ByteArray}, xs.all goodW = true → ∀ {l r : List Tk} {u : Unit}, wantsT xs l = .ok u r → l.all validB = true → Eats (xs.map tokW) l r
  | [], _, l, r, u, h, hv => by
    injection h with _ h
    subst h
    exact Eats.nil l
  | x :: xs, hx, l, r, u, h, hv => by
    rw [List.all_cons, Bool.and_eq_true] at hx
    obtain ⟨_, s, h1, h2⟩ := go_ok h
    obtain ⟨h3, rfl⟩ := want_ok h1
    have e := eat_is hx.1 h3 hv
    exact e.trans (eat_wants hx.2 h2 (e.val hv))
theorem eat_name {l r : List Tk} {s : ByteArray} (h : nameT l = .ok s r) (hv : l.all validB = true) : okN s = true ∧ Eats [wrd s] l r := by
  cases l with
  | nil => cases h
  | cons t l =>
    rw [nameT_cons] at h
    split at h
    · rename_i hc
      injection h with h1 h2
      subst h1
      subst h2
      rw [Bool.and_eq_true, decide_eq_true_eq] at hc
      rw [List.all_cons, Bool.and_eq_true] at hv
      have hn := valid_n hv.1 (by omega)
      have e : nrmT t = wrd t.text := by simp only [nrmT, wrd, hc.1, hn]
      refine ⟨?_, [t], rfl, by show [nrmT t] = _; rw [e]⟩
      have hw : validB (wrd t.text) = true := by rw [← e]; exact hv.1
      rw [val_wrd] at hw
      rw [okN, hw, hc.2]
      rfl
    · cases h
theorem eat_num {l r : List Tk} {n : Int} (h : numT l = .ok n r) (hv : l.all validB = true) : okNum n = true ∧ Eats [num n] l r := by
  cases l with
  | nil => cases h
  | cons t l =>
    rw [numT_cons] at h
    split at h
    · rename_i hc
      injection h with h1 h2
      subst h1
      subst h2
      rw [List.all_cons, Bool.and_eq_true] at hv
      have ht : t.text = nilS := by
        have := hv.1
        rw [valid2 hc] at this
        simp only [Bool.and_eq_true, decide_eq_true_eq] at this
        exact this.1.1
      have e : nrmT t = num t.n := by simp only [nrmT, num, hc, ht]
      refine ⟨?_, [t], rfl, by show [nrmT t] = _; rw [e]⟩
      rw [← val_num, ← e]
      exact hv.1
    · cases h
theorem eat_many {α : Type} {x : ByteArray} {item : List Tk → PR α} {Q : α → Bool} {pr : α → List Tk} (hi : ∀ l a r, item l = .ok a r → l.all validB = true → Q a = true ∧ Eats (pr a) l r) :
    ∀ (f : Nat) {l r : List Tk} {az : List α}, manyT x item f l = .ok az r → l.all validB = true → az.all Q = true ∧ Eats (az.map pr).flatten l r
  | 0, l, r, az, h, hv => by cases h
  | f + 1, l, r, az, h, hv => by
    rw [manyT_succ] at h
    split at h
    · obtain ⟨a, s, h1, h2⟩ := go_ok h
      obtain ⟨az', s', h3, h4⟩ := go_ok h2
      injection h4 with h4 h5
      subst h4
      subst h5
      obtain ⟨q1, e1⟩ := hi _ _ _ h1 hv
      obtain ⟨q2, e2⟩ := eat_many hi f h3 (e1.val hv)
      exact ⟨by rw [List.all_cons, q1, q2]; rfl, e1.trans e2⟩
    · injection h with h1 h2
      subst h1
      subst h2
      exact ⟨rfl, Eats.nil l⟩
theorem ofP_flat : ∀ l : List Ex, ofP false l = (l.map fun x => sgn sComma :: exprP x).flatten
  | [] => rfl
  | x :: l => by
    simp only [ofP, ofP_flat l, List.map_cons, List.flatten_cons]
    rfl
theorem eat_inside {pe : List Tk → PR Ex} (hi : ∀ l a r, pe l = .ok a r → l.all validB = true → okE a = true ∧ Eats (exprP a) l r) {l r : List Tk} {x : Ex} (h : insideT pe l = .ok x r) (hv : l.all validB = true) : okE x = true ∧ Eats ([sgn sLp] ++ exprP x ++ [sgn sRp]) l r := by
  obtain ⟨_, s1, h1, h⟩ := go_ok h
  have e1 := eat_wants (by decide +kernel) h1 hv
  obtain ⟨y, s2, h2, h⟩ := go_ok h
  obtain ⟨q, e2⟩ := hi _ _ _ h2 (e1.val hv)
  obtain ⟨_, s3, h3, h⟩ := go_ok h
  injection h with h4 h5
  subst h4
  subst h5
  have e3 := eat_wants (by decide +kernel) h3 (e2.val (e1.val hv))
  exact ⟨q, (e1.trans e2).trans e3⟩
theorem eat_expr : ∀ (f : Nat) (l : List Tk) (x : Ex) (r : List Tk), exprT f l = .ok x r → l.all validB = true → okE x = true ∧ Eats (exprP x) l r
  | 0, l, x, r, h, hv => by cases h
  | f + 1, l, x, r, h, hv => by
    rw [exprT_succ] at h
    split at h
    · rename_i h1
      have e0 := eat_is (x := wSome) (by decide +kernel) h1 hv
      obtain ⟨s, _, h2, h⟩ := go_ok h
      obtain ⟨q, e1⟩ := eat_name h2 (e0.val hv)
      injection h with h3 h4
      subst h3
      subst h4
      exact ⟨by simp [okE, q], e0.trans e1⟩
    · split at h
      · rename_i h1
        have e0 := eat_is (x := wWeight) (by decide +kernel) h1 hv
        obtain ⟨n, _, h2, h⟩ := go_ok h
        obtain ⟨q1, e1⟩ := eat_num h2 (e0.val hv)
        have v1 := e1.val (e0.val hv)
        obtain ⟨_, _, h3, h⟩ := go_ok h
        have e2 := eat_wants (by decide +kernel) h3 v1
        obtain ⟨s, _, h4, h⟩ := go_ok h
        obtain ⟨q2, e3⟩ := eat_name h4 (e2.val v1)
        injection h with h5 h6
        subst h5
        subst h6
        exact ⟨by simp [okE, q1, q2], ((e0.trans e1).trans e2).trans e3⟩
      · split at h
        · rename_i h1
          have e0 := eat_is (x := wUpto) (by decide +kernel) h1 hv
          obtain ⟨n, _, h2, h⟩ := go_ok h
          obtain ⟨q1, e1⟩ := eat_num h2 (e0.val hv)
          have v1 := e1.val (e0.val hv)
          obtain ⟨a, _, h3, h⟩ := go_ok h
          obtain ⟨q2, e2⟩ := eat_inside (eat_expr f) h3 v1
          have v2 := e2.val v1
          obtain ⟨_, _, h4, h⟩ := go_ok h
          have e3 := eat_wants (by decide +kernel) h4 v2
          obtain ⟨b, _, h5, h⟩ := go_ok h
          obtain ⟨q3, e4⟩ := eat_inside (eat_expr f) h5 (e3.val v2)
          injection h with h6 h7
          subst h6
          subst h7
          refine ⟨by simp [okE, okEs, q1, q2, q3], ?_⟩
          have e := (((e0.trans e1).trans e2).trans e3).trans e4
          simpa [exprP, uptoP, tw_upto, tw_else] using e
        · obtain ⟨n, _, h2, h⟩ := go_ok h
          obtain ⟨q1, e1⟩ := eat_num h2 hv
          have v1 := e1.val hv
          obtain ⟨_, _, h3, h⟩ := go_ok h
          have e2 := eat_wants (by decide +kernel) h3 v1
          have v2 := e2.val v1
          obtain ⟨a, _, h4, h⟩ := go_ok h
          obtain ⟨q2, e3⟩ := eat_expr f _ _ _ h4 v2
          have v3 := e3.val v2
          obtain ⟨az, _, h5, h⟩ := go_ok h
          obtain ⟨q3, e4⟩ := eat_many (Q := okE) (pr := fun x => sgn sComma :: exprP x) (fun l a r h hv => by
            obtain ⟨_, _, h1, h⟩ := go_ok h
            have e1 := eat_wants (by decide +kernel) h1 hv
            obtain ⟨q, e2⟩ := eat_expr f _ _ _ h (e1.val hv)
            exact ⟨q, e1.trans e2⟩) f h5 v3
          have v4 := e4.val v3
          obtain ⟨_, _, h6, h⟩ := go_ok h
          have e5 := eat_wants (by decide +kernel) h6 v4
          injection h with h7 h8
          subst h7
          subst h8
          refine ⟨by simp [okE, okEs, okEs_all, q1, q2, q3], ?_⟩
          have e := (((e1.trans e2).trans e3).trans e4).trans e5
          rw [← ofP_flat] at e
          simpa [exprP, ofP, tw_of, tw_lp, tw_rp] using e
theorem eat_mode {l r : List Tk} {m : Int} (h : modeT l = .ok m r) (hv : l.all validB = true) : okMode m = true ∧ Eats [wrd (modeW m)] l r := by
  unfold modeT at h
  split at h
  · rename_i h1
    injection h with h2 h3
    subst h2
    subst h3
    exact ⟨rfl, eat_is (x := wOld) (by decide +kernel) h1 hv⟩
  · split at h
    · rename_i h1
      injection h with h2 h3
      subst h2
      subst h3
      exact ⟨rfl, eat_is (x := wNew) (by decide +kernel) h1 hv⟩
    · split at h
      · rename_i h1
        injection h with h2 h3
        subst h2
        subst h3
        exact ⟨rfl, eat_is (x := wBoth) (by decide +kernel) h1 hv⟩
      · split at h
        · rename_i h1
          injection h with h2 h3
          subst h2
          subst h3
          exact ⟨rfl, eat_is (x := wEither) (by decide +kernel) h1 hv⟩
        · cases h
theorem eat_decl {x : ByteArray} (hx : goodW x = true) (hw : tokW x = wrd x) {l r : List Tk} {s : ByteArray} (h : declT x l = .ok s r) (hv : l.all validB = true) : okN s = true ∧ Eats (declP x s) l r := by
  obtain ⟨_, _, h1, h⟩ := go_ok h
  have e1 := eat_wants (xs := [x]) (by rw [List.all_cons, hx]; rfl) h1 hv
  obtain ⟨_, _, h2, h⟩ := go_ok h
  obtain ⟨q, e2⟩ := eat_name h2 (e1.val hv)
  obtain ⟨_, _, h3, h⟩ := go_ok h
  have e3 := eat_wants (by decide +kernel) h3 (e2.val (e1.val hv))
  injection h with h4 h5
  subst h4
  subst h5
  refine ⟨q, ?_⟩
  have e := (e1.trans e2).trans e3
  simp only [List.map_cons, List.map_nil, hw] at e
  exact e
theorem eat_rule (f : Nat) {l r : List Tk} {x : Ru} (h : ruleT f l = .ok x r) (hv : l.all validB = true) : okRu x = true ∧ Eats (ruleP x) l r := by
  obtain ⟨_, _, h1, h⟩ := go_ok h
  have e1 := eat_wants (by decide +kernel) h1 hv
  have v1 := e1.val hv
  obtain ⟨k, _, h2, h⟩ := go_ok h
  obtain ⟨q2, e2⟩ := eat_name h2 v1
  have v2 := e2.val v1
  obtain ⟨_, _, h3, h⟩ := go_ok h
  have e3 := eat_wants (by decide +kernel) h3 v2
  have v3 := e3.val v2
  obtain ⟨n, _, h4, h⟩ := go_ok h
  obtain ⟨q4, e4⟩ := eat_num h4 v3
  have v4 := e4.val v3
  obtain ⟨_, _, h5, h⟩ := go_ok h
  have e5 := eat_wants (by decide +kernel) h5 v4
  have v5 := e5.val v4
  obtain ⟨y, _, h6, h⟩ := go_ok h
  obtain ⟨q6, e6⟩ := eat_expr f _ _ _ h6 v5
  have v6 := e6.val v5
  obtain ⟨_, _, h7, h⟩ := go_ok h
  have e7 := eat_wants (by decide +kernel) h7 v6
  injection h with h8 h9
  subst h8
  subst h9
  exact ⟨by simp [okRu, q2, q4, q6], (((((e1.trans e2).trans e3).trans e4).trans e5).trans e6).trans e7⟩
/-- A policy that was read can be written, and is written as it stands. -/
theorem eat_policy {f : Nat} {l r : List Tk} {p : Po} (h : pol0 f l = .ok p r) (hv : l.all validB = true) : okPo p = true ∧ Eats (policyP p) l r := by
  obtain ⟨⟨nm, m⟩, _, h1, h⟩ := go_ok h
  obtain ⟨⟨os, ks⟩, _, h2, h⟩ := go_ok h
  obtain ⟨⟨rs, c⟩, _, h3, h⟩ := go_ok h
  injection h with h4 h5
  subst h4
  subst h5
  -- the head
  obtain ⟨_, _, a1, h1⟩ := go_ok h1
  have e1 := eat_wants (by decide +kernel) a1 hv
  have v1 := e1.val hv
  obtain ⟨_, _, a2, h1⟩ := go_ok h1
  obtain ⟨q2, e2⟩ := eat_name a2 v1
  have v2 := e2.val v1
  obtain ⟨_, _, a3, h1⟩ := go_ok h1
  have e3 := eat_wants (by decide +kernel) a3 v2
  have v3 := e3.val v2
  obtain ⟨_, _, a4, h1⟩ := go_ok h1
  obtain ⟨q4, e4⟩ := eat_mode a4 v3
  have v4 := e4.val v3
  obtain ⟨_, _, a5, h1⟩ := go_ok h1
  have e5 := eat_wants (by decide +kernel) a5 v4
  have v5 := e5.val v4
  injection h1 with h1 h6
  injection h1 with h7 h8
  subst h6
  subst h7
  subst h8
  -- the declarations
  obtain ⟨_, _, a6, h2⟩ := go_ok h2
  obtain ⟨q6, e6⟩ := eat_many (Q := okN) (pr := declP wOffice) (fun l a r h hv => eat_decl (by decide +kernel) (by rfl) h hv) f a6 v5
  have v6 := e6.val v5
  obtain ⟨_, _, a7, h2⟩ := go_ok h2
  obtain ⟨q7, e7⟩ := eat_many (Q := okN) (pr := declP wKind) (fun l a r h hv => eat_decl (by decide +kernel) (by rfl) h hv) f a7 v6
  have v7 := e7.val v6
  injection h2 with h2 h9
  injection h2 with h10 h11
  subst h9
  subst h10
  subst h11
  -- the rules
  obtain ⟨_, _, a8, h3⟩ := go_ok h3
  obtain ⟨q8, e8⟩ := eat_many (Q := okRu) (pr := ruleP) (fun l a r h hv => eat_rule f h hv) f a8 v7
  have v8 := e8.val v7
  obtain ⟨_, _, a9, h3⟩ := go_ok h3
  have e9 := eat_wants (by decide +kernel) a9 v8
  have v9 := e9.val v8
  obtain ⟨_, _, a10, h3⟩ := go_ok h3
  obtain ⟨q10, e10⟩ := eat_expr f _ _ _ a10 v9
  have v10 := e10.val v9
  obtain ⟨_, _, a11, h3⟩ := go_ok h3
  have e11 := eat_wants (by decide +kernel) a11 v10
  injection h3 with h3 h12
  injection h3 with h13 h14
  subst h12
  subst h13
  subst h14
  refine ⟨by simp [okPo, q2, q4, q6, q7, q8, q10], ?_⟩
  exact ((((((((e1.trans e2).trans e3).trans e4).trans e5)).trans e6).trans e7).trans e8).trans ((e9.trans e10).trans e11)

/-! ### What is printed, read -/
theorem want_wrd (x : ByteArray) (r : List Tk) : wantT x (wrd x :: r) = .ok () r := by
  unfold wantT
  rw [isT_wrd, decide_eq_true rfl]
  rfl
theorem want_sgn (x : ByteArray) (r : List Tk) : wantT x (sgn x :: r) = .ok () r := by
  unfold wantT
  rw [isT_sgn, decide_eq_true rfl]
  rfl
theorem name_wrd {s : ByteArray} (h : okN s = true) (r : List Tk) : nameT (wrd s :: r) = .ok s r := by
  unfold okN at h
  rw [Bool.and_eq_true] at h
  rw [nameT_cons, if_pos]
  · rfl
  · show (decide ((1 : Int) = 1) && !resB s) = true
    rw [h.2]
    rfl
theorem num_num (n : Int) (r : List Tk) : numT (num n :: r) = .ok n r := by
  rw [numT_cons, if_pos (by rfl)]
  rfl
theorem go_ok_ {α β : Type} (x : α) (r : List Tk) (g : α → List Tk → PR β) : (PR.ok x r).go g = g x r := rfl
theorem read_many {α : Type} {x : ByteArray} {item : List Tk → PR α} {pr : α → List Tk} :
    ∀ (az : List α) (f : Nat) (r : List Tk), (∀ a ∈ az, ∀ s, item (pr a ++ s) = .ok a s ∧ isT x (pr a ++ s) = true) → az.length < f → isT x r = false → manyT x item f ((az.map pr).flatten ++ r) = .ok az r
  | az, 0, r, _, hf, _ => by omega
  | [], f + 1, r, _, hf, hr => by
    show manyT x item (f + 1) r = _
    rw [manyT_succ, if_neg (by rw [hr]; decide)]
  | a :: az, f + 1, r, h, hf, hr => by
    have h0 := h a (List.mem_cons_self ..) ((az.map pr).flatten ++ r)
    rw [List.map_cons, List.flatten_cons, List.append_assoc]
    rw [manyT_succ, if_pos h0.2, h0.1, go_ok_, read_many az f r (fun b hb => h b (List.mem_cons_of_mem _ hb)) (by simpa using hf) hr, go_ok_]
theorem read_inside {pe : List Tk → PR Ex} {x : Ex} (h : ∀ s, pe (exprP x ++ s) = .ok x s) (r : List Tk) : insideT pe ([sgn sLp] ++ exprP x ++ [sgn sRp] ++ r) = .ok x r := by
  have e : [sgn sLp] ++ exprP x ++ [sgn sRp] ++ r = sgn sLp :: (exprP x ++ (sgn sRp :: r)) := by simp
  rw [e]
  unfold insideT
  simp only [wantsT, want_sgn, go_ok_, h]
theorem read_expr : ∀ (f : Nat) (x : Ex), okE x = true → x.pc ≤ f → ∀ r, exprT f (exprP x ++ r) = .ok x r
  | 0, x, _, hf, r => by
    have := x.pc_eq
    omega
  | f + 1, ⟨k, n, no, nm, l⟩, h, hf, r => by
    have hpc := Ex.pc_eq ⟨k, n, no, nm, l⟩
    have hpl := Ex.pcs_len l
    simp only at hpc
    simp only [okE, Bool.and_eq_true, decide_eq_true_eq] at h
    obtain ⟨rfl, h⟩ := h
    rw [exprP_eq]
    simp only
    split at h
    · rename_i hk
      subst hk
      simp only [Bool.and_eq_true, decide_eq_true_eq, List.isEmpty_iff] at h
      obtain ⟨rfl, h1, rfl⟩ := h
      rw [if_pos rfl]
      show exprT (f + 1) (wrd wSome :: (wrd nm :: r)) = _
      rw [exprT_succ, if_pos (by rw [isT_wrd]; exact decide_eq_true rfl)]
      show someX (wrd nm :: r) = _
      rw [someX, name_wrd h1, go_ok_]
    · rename_i hk1
      rw [if_neg hk1]
      split at h
      · rename_i hk
        subst hk
        simp only [Bool.and_eq_true, List.isEmpty_iff] at h
        obtain ⟨h0, h1, rfl⟩ := h
        rw [if_pos rfl]
        show exprT (f + 1) (wrd wWeight :: (num n :: wrd wOf :: wrd nm :: r)) = _
        rw [exprT_succ, if_neg (by rw [isT_wrd]; decide +kernel), if_pos (by rw [isT_wrd]; exact decide_eq_true rfl)]
        show weightX (num n :: wrd wOf :: wrd nm :: r) = _
        simp only [weightX, num_num, go_ok_, wantsT, want_wrd, name_wrd h1]
      · rename_i hk2
        rw [if_neg hk2]
        split at h
        · rename_i hk
          subst hk
          simp only [Bool.and_eq_true, decide_eq_true_eq] at h
          obtain ⟨h0, rfl, h2, h3⟩ := h
          obtain ⟨a, b, rfl⟩ : ∃ a b, l = [a, b] := by
            match l, h2 with
            | [a, b], _ => exact ⟨a, b, rfl⟩
          simp only [okEs, Bool.and_true, Bool.and_eq_true] at h3
          simp only [Ex.pcs] at hpc
          rw [if_pos rfl]
          have e : [wrd wUpto, num n] ++ uptoP true [a, b] ++ r = wrd wUpto :: num n :: ([sgn sLp] ++ exprP a ++ [sgn sRp] ++ (wrd wElse :: ([sgn sLp] ++ exprP b ++ [sgn sRp] ++ r))) := by simp [uptoP]
          rw [e]
          rw [exprT_succ, if_neg (by rw [isT_wrd]; decide +kernel), if_neg (by rw [isT_wrd]; decide +kernel), if_pos (by rw [isT_wrd]; exact decide_eq_true rfl)]
          show uptoX (exprT f) (num n :: _) = _
          simp only [uptoX, num_num, go_ok_, read_inside (read_expr f a h3.1 (by omega)), wantsT, want_wrd, read_inside (read_expr f b h3.2 (by omega))]
        · rename_i hk4
          rw [if_neg hk4]
          simp only [Bool.and_eq_true, decide_eq_true_eq, Bool.not_eq_true'] at h
          obtain ⟨rfl, h0, rfl, h2, h3⟩ := h
          cases l with
          | nil => cases h2
          | cons a az =>
            simp only [okEs, Bool.and_eq_true] at h3
            simp only [Ex.pcs] at hpc
            have hal := Ex.pcs_len az
            have e : [num n, wrd wOf, sgn sLp] ++ ofP true (a :: az) ++ [sgn sRp] ++ r = num n :: wrd wOf :: sgn sLp :: (exprP a ++ ((az.map fun x => sgn sComma :: exprP x).flatten ++ (sgn sRp :: r))) := by simp [ofP, ofP_flat]
            rw [e]
            rw [exprT_succ, if_neg (by rw [isT_num]; decide), if_neg (by rw [isT_num]; decide), if_neg (by rw [isT_num]; decide)]
            have hm := read_many (x := sComma) (item := nextT (exprT f)) (pr := fun x => sgn sComma :: exprP x) az f (sgn sRp :: r) (fun y hy s => by
              have hy1 := Ex.pc_mem hy
              have hy2 : okE y = true := by
                rw [okEs_all] at h3
                exact List.all_eq_true.1 h3.2 y hy
              refine ⟨?_, by show isT sComma (sgn sComma :: _) = true; rw [isT_sgn]; exact decide_eq_true rfl⟩
              show nextT (exprT f) (sgn sComma :: (exprP y ++ s)) = _
              simp only [nextT, wantsT, want_sgn, go_ok_, read_expr f y hy2 (by omega) s]) (by have := a.pc_eq; omega) (by rw [isT_sgn]; decide +kernel)
            simp only [ofX, num_num, go_ok_, wantsT, want_wrd, want_sgn, read_expr f a h3.1 (by omega), hm]
theorem read_decl {x s : ByteArray} (h : okN s = true) (r : List Tk) : declT x (declP x s ++ r) = .ok s r := by
  show declT x (wrd x :: wrd s :: sgn sSemi :: r) = _
  simp only [declT, wantsT, want_wrd, want_sgn, go_ok_, name_wrd h]
theorem read_rule {f : Nat} {x : Ru} (h : okRu x = true) (hf : x.expr.pc ≤ f) (r : List Tk) : ruleT f (ruleP x ++ r) = .ok x r := by
  obtain ⟨k, kn, n, y⟩ := x
  simp only [okRu, Bool.and_eq_true, decide_eq_true_eq] at h
  obtain ⟨h1, rfl, h2, h3⟩ := h
  have e : ruleP ⟨k, 0, n, y⟩ ++ r = wrd wRule :: wrd k :: wrd wThink :: num n :: sgn sEq :: (exprP y ++ (sgn sSemi :: r)) := by simp [ruleP]
  rw [e]
  simp only [ruleT, wantsT, want_wrd, want_sgn, go_ok_, name_wrd h1, num_num, read_expr f y h3 hf]
theorem read_mode {m : Int} (h : okMode m = true) (r : List Tk) : modeT (wrd (modeW m) :: r) = .ok m r := by
  simp only [okMode, Bool.and_eq_true, decide_eq_true_eq] at h
  have hm : m = 1 ∨ m = 2 ∨ m = 3 ∨ m = 4 := by omega
  rcases hm with rfl | rfl | rfl | rfl
  · rfl
  · rfl
  · rfl
  · rfl
def fits (f : Nat) (p : Po) : Prop := p.offices.length < f ∧ p.kinds.length < f ∧ p.rules.length < f ∧ p.change.pc ≤ f ∧ ∀ r ∈ p.rules, r.expr.pc ≤ f
theorem read_policy {f : Nat} {p : Po} (h : okPo p = true) (hf : fits f p) (r : List Tk) : pol0 f (policyP p ++ r) = .ok p r := by
  obtain ⟨nm, ks, os, rs, c, m⟩ := p
  obtain ⟨f1, f2, f3, f4, f5⟩ := hf
  simp only at f1 f2 f3 f4 f5
  simp only [okPo, Bool.and_eq_true] at h
  obtain ⟨h1, h2, h3, h4, h5, h6⟩ := h
  have e : policyP ⟨nm, ks, os, rs, c, m⟩ ++ r = wrd wPolicy :: wrd nm :: sgn sSemi :: wrd wMode :: wrd (modeW m) :: sgn sSemi :: ((os.map (declP wOffice)).flatten ++ ((ks.map (declP wKind)).flatten ++ ((rs.map ruleP).flatten ++ (wrd wChange :: sgn sEq :: (exprP c ++ (sgn sSemi :: r)))))) := by
    simp [policyP, headP, declsP, rulesP, tailP]
  rw [e]
  have e3 : ∀ s, isT wRule (wrd wChange :: s) = false := fun s => by rw [isT_wrd]; decide +kernel
  have e2 : ∀ s, isT wKind s = false → isT wOffice s = isT wOffice s := fun s _ => rfl
  have r3 := read_many (x := wRule) (item := ruleT f) (pr := ruleP) rs f (wrd wChange :: sgn sEq :: (exprP c ++ (sgn sSemi :: r))) (fun y hy s => ⟨read_rule (List.all_eq_true.1 h5 y hy) (f5 y hy) s, by
    show isT wRule (wrd wRule :: _) = true
    rw [isT_wrd]
    exact decide_eq_true rfl⟩) f3 (e3 _)
  have hk : ∀ (rs : List Ru) (x : ByteArray), x ≠ wRule → x ≠ wChange → ∀ s, isT x ((rs.map ruleP).flatten ++ (wrd wChange :: s)) = false := by
    intro rs x hx1 hx2 s
    cases rs with
    | nil =>
      show isT x (wrd wChange :: s) = false
      rw [isT_wrd]
      exact decide_eq_false fun e => hx2 e.symm
    | cons y rs =>
      show isT x (wrd wRule :: _) = false
      rw [isT_wrd]
      exact decide_eq_false fun e => hx1 e.symm
  have ho : ∀ (ks : List ByteArray) (rs : List Ru) (s : List Tk), isT wOffice ((ks.map (declP wKind)).flatten ++ ((rs.map ruleP).flatten ++ (wrd wChange :: s))) = false := by
    intro ks rs s
    cases ks with
    | nil => exact hk rs wOffice (by decide +kernel) (by decide +kernel) s
    | cons k ks =>
      show isT wOffice (wrd wKind :: _) = false
      rw [isT_wrd]
      decide +kernel
  have r2 := read_many (x := wKind) (item := declT wKind) (pr := declP wKind) ks f ((rs.map ruleP).flatten ++ (wrd wChange :: sgn sEq :: (exprP c ++ (sgn sSemi :: r)))) (fun y hy s => ⟨read_decl (List.all_eq_true.1 h4 y hy) s, by
    show isT wKind (wrd wKind :: _) = true
    rw [isT_wrd]
    exact decide_eq_true rfl⟩) f2 (hk rs wKind (by decide +kernel) (by decide +kernel) _)
  have r1 := read_many (x := wOffice) (item := declT wOffice) (pr := declP wOffice) os f ((ks.map (declP wKind)).flatten ++ ((rs.map ruleP).flatten ++ (wrd wChange :: sgn sEq :: (exprP c ++ (sgn sSemi :: r))))) (fun y hy s => ⟨read_decl (List.all_eq_true.1 h3 y hy) s, by
    show isT wOffice (wrd wOffice :: _) = true
    rw [isT_wrd]
    exact decide_eq_true rfl⟩) f1 (ho ks rs _)
  simp only [pol0, headT, namesT, rulesT, wantsT, want_wrd, want_sgn, go_ok_, name_wrd h1, read_mode h2, r1, r2, r3, read_expr f c h6 f4]

/-! ### What is printed is valid -/
theorem val_expr : ∀ (d : Nat) (x : Ex), x.pc ≤ d → okE x = true → (exprP x).all validB = true
  | 0, x, hd, _ => by
    have := x.pc_eq
    omega
  | d + 1, ⟨k, n, no, nm, l⟩, hd, h => by
    have hpc := Ex.pc_eq ⟨k, n, no, nm, l⟩
    simp only at hpc
    simp only [okE, Bool.and_eq_true, decide_eq_true_eq] at h
    obtain ⟨rfl, h⟩ := h
    have w1 : validB (wrd wSome) = true := by decide +kernel
    have w2 : validB (wrd wWeight) = true := by decide +kernel
    have w3 : validB (wrd wOf) = true := by decide +kernel
    have w4 : validB (wrd wUpto) = true := by decide +kernel
    have w5 : validB (wrd wElse) = true := by decide +kernel
    have s1 : validB (sgn sLp) = true := by decide +kernel
    have s2 : validB (sgn sRp) = true := by decide +kernel
    have s3 : validB (sgn sComma) = true := by decide +kernel
    have hN : ∀ {s}, okN s = true → validB (wrd s) = true := fun h => by
      rw [val_wrd]
      unfold okN at h
      rw [Bool.and_eq_true] at h
      exact h.1
    rw [exprP_eq]
    simp only
    split at h
    · rename_i hk
      simp only [Bool.and_eq_true] at h
      rw [if_pos hk]
      simp [w1, hN h.2.1]
    · rename_i hk1
      rw [if_neg hk1]
      split at h
      · rename_i hk
        simp only [Bool.and_eq_true] at h
        rw [if_pos hk]
        simp [w2, w3, val_num, h.1, hN h.2.1]
      · rename_i hk2
        rw [if_neg hk2]
        split at h
        · rename_i hk
          simp only [Bool.and_eq_true] at h
          rw [if_pos hk]
          have hu : ∀ (b : Bool) (m : List Ex), okEs m = true → Ex.pcs m ≤ d → (uptoP b m).all validB = true := by
            intro b m
            induction m generalizing b with
            | nil => intros; rfl
            | cons y m ih =>
              intro h1 h2
              simp only [okEs, Bool.and_eq_true] at h1
              simp only [Ex.pcs] at h2
              have hy := val_expr d y (by omega) h1.1
              have hm := ih false h1.2 (by omega)
              simp only [uptoP, List.all_append, hy, hm, List.all_cons, s1, s2]
              cases b <;> simp [w5]
          simp [w4, val_num, h.1, hu true l h.2.2.2 (by omega)]
        · rename_i hk4
          rw [if_neg hk4]
          simp only [Bool.and_eq_true] at h
          have hu : ∀ (b : Bool) (m : List Ex), okEs m = true → Ex.pcs m ≤ d → (ofP b m).all validB = true := by
            intro b m
            induction m generalizing b with
            | nil => intros; rfl
            | cons y m ih =>
              intro h1 h2
              simp only [okEs, Bool.and_eq_true] at h1
              simp only [Ex.pcs] at h2
              have hy := val_expr d y (by omega) h1.1
              have hm := ih false h1.2 (by omega)
              simp only [ofP, List.all_append, hy, hm]
              cases b <;> simp [s3]
          simp [w3, s1, s2, val_num, h.2.1, hu true l h.2.2.2.2 (by omega)]
theorem all_flat {α : Type} {f : α → List Tk} : ∀ {l : List α}, (∀ a ∈ l, (f a).all validB = true) → ((l.map f).flatten).all validB = true
  | [], _ => rfl
  | a :: l, h => by
    rw [List.map_cons, List.flatten_cons, List.all_append, h a (List.mem_cons_self ..), all_flat fun b hb => h b (List.mem_cons_of_mem _ hb)]
    rfl
theorem val_policy {p : Po} (h : okPo p = true) : (policyP p).all validB = true := by
  simp only [okPo, Bool.and_eq_true] at h
  obtain ⟨h1, h2, h3, h4, h5, h6⟩ := h
  have hN : ∀ {s}, okN s = true → validB (wrd s) = true := fun h => by
    rw [val_wrd]
    unfold okN at h
    rw [Bool.and_eq_true] at h
    exact h.1
  have s1 : validB (sgn sSemi) = true := by decide +kernel
  have s2 : validB (sgn sEq) = true := by decide +kernel
  have hd : ∀ x, validB (wrd x) = true → ∀ {s}, okN s = true → (declP x s).all validB = true := fun x hx s hs => by simp [declP, hx, hN hs, s1]
  have hm : validB (wrd (modeW p.mode)) = true := by
    simp only [okMode, Bool.and_eq_true, decide_eq_true_eq] at h2
    have hm : p.mode = 1 ∨ p.mode = 2 ∨ p.mode = 3 ∨ p.mode = 4 := by omega
    rcases hm with e | e | e | e <;> rw [e] <;> decide +kernel
  have hr : ∀ r ∈ p.rules, (ruleP r).all validB = true := fun r hr => by
    have h := List.all_eq_true.1 h5 r hr
    simp only [okRu, Bool.and_eq_true] at h
    have w1 : validB (wrd wRule) = true := by decide +kernel
    have w2 : validB (wrd wThink) = true := by decide +kernel
    simp [ruleP, w1, w2, hN h.1, val_num, h.2.2.1, s1, s2, val_expr _ _ (Nat.le_refl _) h.2.2.2]
  have w1 : validB (wrd wPolicy) = true := by decide +kernel
  have w2 : validB (wrd wMode) = true := by decide +kernel
  have w3 : validB (wrd wChange) = true := by decide +kernel
  have c1 : (headP p).all validB = true := by simp [headP, w1, w2, hN h1, s1, hm]
  have c2 : (declsP wOffice p.offices).all validB = true := all_flat fun s hs => hd _ (by decide +kernel) (List.all_eq_true.1 h3 s hs)
  have c3 : (declsP wKind p.kinds).all validB = true := all_flat fun s hs => hd _ (by decide +kernel) (List.all_eq_true.1 h4 s hs)
  have c4 : (rulesP p.rules).all validB = true := all_flat hr
  have c5 : (tailP p.change).all validB = true := by simp [tailP, w3, s1, s2, val_expr _ _ (Nat.le_refl _) h6]
  simp only [policyP, List.all_append, c1, c2, c3, c4, c5]
  rfl
end Go.Proofs.YtghmjnbpkobooaaGreatDoor
