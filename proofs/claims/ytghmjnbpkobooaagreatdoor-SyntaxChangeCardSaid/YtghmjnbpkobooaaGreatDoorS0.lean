/-
  The data of the program as plain Lean types, and how they stand in cells.
-/
import Derived.Test.YtghmjnbpkobooaaGreatDoorB7
set_option linter.unusedVariables false
set_option linter.unusedSimpArgs false
namespace Go.Proofs.YtghmjnbpkobooaaGreatDoor
open Go Go.RowKit

structure Ex where
  kind : Int
  n : Int
  no : Int
  name : ByteArray
  l : List Ex
structure Ru where
  kind : ByteArray
  kindNo : Int
  think : Int
  expr : Ex
structure Po where
  name : ByteArray
  kinds : List ByteArray
  offices : List ByteArray
  rules : List Ru
  change : Ex
  mode : Int
structure Ve where
  no : Int
  at_ : Int
  known : Int
  policy : Po
structure Tk where
  kind : Int
  text : ByteArray
  n : Int
  at_ : Int

mutual
def encEx : Ex → List Dat
  | ⟨k, n, no, nm, l⟩ => [.int k, .int n, .int no, .str nm, .row 5 (encExs l)]
def encExs : List Ex → List (List Dat)
  | [] => []
  | x :: l => encEx x :: encExs l
end
theorem encExs_eq : ∀ l : List Ex, encExs l = l.map encEx
  | [] => rfl
  | x :: l => by simp [encExs, encExs_eq l]
def encS (s : ByteArray) : List Dat := [.str s]
def encI (n : Int) : List Dat := [.int n]
def encU (n : Int) : List Dat := [.u8 n]
def encRu (r : Ru) : List Dat := .str r.kind :: .int r.kindNo :: .int r.think :: encEx r.expr
def encPo (p : Po) : List Dat := .str p.name :: .row 1 (p.kinds.map encS) :: .row 1 (p.offices.map encS) :: .row 8 (p.rules.map encRu) :: (encEx p.change ++ [.int p.mode])
def encVe (v : Ve) : List Dat := .int v.no :: .int v.at_ :: .int v.known :: encPo v.policy
def encTk (t : Tk) : List Dat := [.int t.kind, .str t.text, .int t.n, .int t.at_]

def S63 (s : ByteArray) : Prop := s.size ≤ 9223372036854775807
section
variable {I : Im} {us : List Value}
theorem ex_iff {x : Ex} : RepL I (encEx x) us ↔ ∃ v, us = [.int .i64 x.kind, .int .i64 x.n, .int .i64 x.no, .string x.name, v] ∧ I64 x.kind ∧ I64 x.n ∧ I64 x.no ∧ S63 x.name ∧ RepS encEx I 5 x.l v := by
  cases x with
  | mk k n no nm l =>
    simp only [encEx, RepL, Rep.eq_1, Rep.eq_2, Rep.eq_3, Rep.eq_4, RepS, encExs_eq, S63]
    constructor
    · rintro ⟨u1, _, rfl, ⟨rfl, h1⟩, u2, _, rfl, ⟨rfl, h2⟩, u3, _, rfl, ⟨rfl, h3⟩, u4, _, rfl, ⟨rfl, h4⟩, u5, _, rfl, h5, rfl⟩
      exact ⟨u5, rfl, h1, h2, h3, h4, h5⟩
    · rintro ⟨v, rfl, h1, h2, h3, h4, h5⟩
      exact ⟨_, _, rfl, ⟨rfl, h1⟩, _, _, rfl, ⟨rfl, h2⟩, _, _, rfl, ⟨rfl, h3⟩, _, _, rfl, ⟨rfl, h4⟩, _, _, rfl, h5, rfl⟩
theorem s_iff {s : ByteArray} : RepL I (encS s) us ↔ us = [.string s] ∧ S63 s := by
  simp only [encS, RepL, Rep.eq_4, S63]
  constructor
  · rintro ⟨u, _, rfl, ⟨rfl, h⟩, rfl⟩
    exact ⟨rfl, h⟩
  · rintro ⟨rfl, h⟩
    exact ⟨_, _, rfl, ⟨rfl, h⟩, rfl⟩
theorem i_iff {n : Int} : RepL I (encI n) us ↔ us = [.int .i64 n] ∧ I64 n := by
  simp only [encI, RepL, Rep.eq_1]
  constructor
  · rintro ⟨u, _, rfl, ⟨rfl, h⟩, rfl⟩
    exact ⟨rfl, h⟩
  · rintro ⟨rfl, h⟩
    exact ⟨_, _, rfl, ⟨rfl, h⟩, rfl⟩
theorem u_iff {n : Int} : RepL I (encU n) us ↔ us = [.int .u8 n] ∧ 0 ≤ n ∧ n ≤ 255 := by
  simp only [encU, RepL, Rep.eq_2]
  constructor
  · rintro ⟨u, _, rfl, ⟨rfl, h⟩, rfl⟩
    exact ⟨rfl, h⟩
  · rintro ⟨rfl, h⟩
    exact ⟨_, _, rfl, ⟨rfl, h⟩, rfl⟩
theorem ru_iff {r : Ru} : RepL I (encRu r) us ↔ ∃ v, us = [.string r.kind, .int .i64 r.kindNo, .int .i64 r.think, .int .i64 r.expr.kind, .int .i64 r.expr.n, .int .i64 r.expr.no, .string r.expr.name, v] ∧ S63 r.kind ∧ I64 r.kindNo ∧ I64 r.think ∧ I64 r.expr.kind ∧ I64 r.expr.n ∧ I64 r.expr.no ∧ S63 r.expr.name ∧ RepS encEx I 5 r.expr.l v := by
  simp only [encRu, RepL, Rep.eq_1, Rep.eq_4, ex_iff, S63]
  constructor
  · rintro ⟨u1, _, rfl, ⟨rfl, h1⟩, u2, _, rfl, ⟨rfl, h2⟩, u3, _, rfl, ⟨rfl, h3⟩, v, rfl, h4⟩
    exact ⟨v, rfl, h1, h2, h3, h4⟩
  · rintro ⟨v, rfl, h1, h2, h3, h4⟩
    exact ⟨_, _, rfl, ⟨rfl, h1⟩, _, _, rfl, ⟨rfl, h2⟩, _, _, rfl, ⟨rfl, h3⟩, v, rfl, h4⟩
theorem po_iff {p : Po} : RepL I (encPo p) us ↔ ∃ v1 v2 v3 v4, us = [.string p.name, v1, v2, v3, .int .i64 p.change.kind, .int .i64 p.change.n, .int .i64 p.change.no, .string p.change.name, v4, .int .i64 p.mode] ∧
    S63 p.name ∧ RepS encS I 1 p.kinds v1 ∧ RepS encS I 1 p.offices v2 ∧ RepS encRu I 8 p.rules v3 ∧ I64 p.change.kind ∧ I64 p.change.n ∧ I64 p.change.no ∧ S63 p.change.name ∧ RepS encEx I 5 p.change.l v4 ∧ I64 p.mode := by
  simp only [encPo, RepL, Rep.eq_4, S63]
  constructor
  · rintro ⟨u1, _, rfl, ⟨rfl, h1⟩, v1, _, rfl, h2, v2, _, rfl, h3, v3, _, rfl, h4, h5⟩
    obtain ⟨vs, ws, rfl, h6, h7⟩ := RepL.split h5
    obtain ⟨v4, rfl, k1, k2, k3, k4, k5⟩ := ex_iff.1 h6
    simp only [RepL, Rep.eq_1] at h7
    obtain ⟨_, _, rfl, ⟨rfl, h8⟩, rfl⟩ := h7
    exact ⟨v1, v2, v3, v4, rfl, h1, h2, h3, h4, k1, k2, k3, k4, k5, h8⟩
  · rintro ⟨v1, v2, v3, v4, rfl, h1, h2, h3, h4, k1, k2, k3, k4, k5, h8⟩
    exact ⟨_, _, rfl, ⟨rfl, h1⟩, _, _, rfl, h2, _, _, rfl, h3, _, _, rfl, h4, RepL.append (ex_iff.2 ⟨v4, rfl, k1, k2, k3, k4, k5⟩) (by simp only [RepL, Rep.eq_1]; exact ⟨_, _, rfl, ⟨rfl, h8⟩, rfl⟩)⟩
theorem ve_iff {v : Ve} : RepL I (encVe v) us ↔ ∃ vs, us = .int .i64 v.no :: .int .i64 v.at_ :: .int .i64 v.known :: vs ∧ I64 v.no ∧ I64 v.at_ ∧ I64 v.known ∧ RepL I (encPo v.policy) vs := by
  simp only [encVe, RepL, Rep.eq_1]
  constructor
  · rintro ⟨u1, _, rfl, ⟨rfl, h1⟩, u2, _, rfl, ⟨rfl, h2⟩, u3, _, rfl, ⟨rfl, h3⟩, h4⟩
    exact ⟨_, rfl, h1, h2, h3, h4⟩
  · rintro ⟨vs, rfl, h1, h2, h3, h4⟩
    exact ⟨_, _, rfl, ⟨rfl, h1⟩, _, _, rfl, ⟨rfl, h2⟩, _, _, rfl, ⟨rfl, h3⟩, h4⟩
theorem tk_iff {t : Tk} : RepL I (encTk t) us ↔ us = [.int .i64 t.kind, .string t.text, .int .i64 t.n, .int .i64 t.at_] ∧ I64 t.kind ∧ S63 t.text ∧ I64 t.n ∧ I64 t.at_ := by
  simp only [encTk, RepL, Rep.eq_1, Rep.eq_4, S63]
  constructor
  · rintro ⟨u1, _, rfl, ⟨rfl, h1⟩, u2, _, rfl, ⟨rfl, h2⟩, u3, _, rfl, ⟨rfl, h3⟩, u4, _, rfl, ⟨rfl, h4⟩, rfl⟩
    exact ⟨rfl, h1, h2, h3, h4⟩
  · rintro ⟨rfl, h1, h2, h3, h4⟩
    exact ⟨_, _, rfl, ⟨rfl, h1⟩, _, _, rfl, ⟨rfl, h2⟩, _, _, rfl, ⟨rfl, h3⟩, _, _, rfl, ⟨rfl, h4⟩, rfl⟩
end
/-! ### Parts of a tree -/
abbrev Pt := Ex × Nat
def encPt (q : Pt) : List Dat := encEx q.1 ++ [.int q.2]
mutual
def partsX : Ex → Nat → List Pt
  | ⟨k, n, no, nm, l⟩, d => (⟨k, n, no, nm, l⟩, d) :: partsXs l (d + 1)
def partsXs : List Ex → Nat → List Pt
  | [], _ => []
  | x :: l, d => partsX x d ++ partsXs l d
end
theorem partsX_eq (x : Ex) (d : Nat) : partsX x d = (x, d) :: partsXs x.l (d + 1) := by
  cases x
  simp only [partsX]
theorem partsXs_append : ∀ (l l' : List Ex) (d : Nat), partsXs (l ++ l') d = partsXs l d ++ partsXs l' d
  | [], _, _ => rfl
  | x :: l, l', d => by simp only [List.cons_append, partsXs, partsXs_append l l' d, List.append_assoc]
theorem pt_iff {I : Im} {us : List Value} {q : Pt} : RepL I (encPt q) us ↔ ∃ v, us = [.int .i64 q.1.kind, .int .i64 q.1.n, .int .i64 q.1.no, .string q.1.name, v, .int .i64 (q.2 : Int)] ∧ I64 q.1.kind ∧ I64 q.1.n ∧ I64 q.1.no ∧ S63 q.1.name ∧ RepS encEx I 5 q.1.l v ∧ I64 (q.2 : Int) := by
  unfold encPt
  constructor
  · intro h
    obtain ⟨vs, ws, rfl, h1, h2⟩ := RepL.split h
    obtain ⟨v, rfl, k1, k2, k3, k4, k5⟩ := ex_iff.1 h1
    simp only [RepL, Rep.eq_1] at h2
    obtain ⟨_, _, rfl, ⟨rfl, h3⟩, rfl⟩ := h2
    exact ⟨v, rfl, k1, k2, k3, k4, k5, h3⟩
  · rintro ⟨v, rfl, k1, k2, k3, k4, k5, h3⟩
    exact RepL.append (ex_iff.2 ⟨v, rfl, k1, k2, k3, k4, k5⟩) (by simp only [RepL, Rep.eq_1]; exact ⟨_, _, rfl, ⟨rfl, h3⟩, rfl⟩)
/-! ### Trees: how many parts -/
mutual
def Ex.pc : Ex → Nat
  | ⟨_, _, _, _, l⟩ => 1 + Ex.pcs l
def Ex.pcs : List Ex → Nat
  | [] => 0
  | x :: l => x.pc + Ex.pcs l
end
theorem Ex.pc_eq (x : Ex) : x.pc = 1 + Ex.pcs x.l := by
  cases x
  simp only [Ex.pc]
theorem Ex.pc_mem : ∀ {l : List Ex} {y : Ex}, y ∈ l → y.pc ≤ Ex.pcs l
  | x :: l, y, h => by
    simp only [Ex.pcs]
    rcases List.mem_cons.1 h with rfl | h
    · omega
    · have := Ex.pc_mem h
      omega
theorem Ex.pcs_len : ∀ (l : List Ex), l.length ≤ Ex.pcs l
  | [] => by simp
  | x :: l => by
    have h1 := Ex.pcs_len l
    have h2 := x.pc_eq
    simp only [Ex.pcs, List.length_cons]
    omega
theorem Ex.pc_at {x y : Ex} {i : Nat} (h : x.l[i]? = some y) : y.pc < x.pc := by
  have h1 := Ex.pc_mem (List.mem_of_getElem? h)
  have h2 := x.pc_eq
  omega
theorem Ex.len_pc (x : Ex) : x.l.length < x.pc := by
  have h1 := Ex.pcs_len x.l
  have h2 := x.pc_eq
  omega
theorem len_ex (x : Ex) : Nat.beq (encEx x).length 5 = true := by
  cases x
  rfl
theorem plain_ex (x : Ex) : (encEx x).all plD = true := by
  cases x
  rfl
theorem len_ru (x : Ru) : Nat.beq (encRu x).length 8 = true := by
  have h := Nat.eq_of_beq_eq_true (len_ex x.expr)
  simp only [encRu, List.length_cons, h]
  rfl
theorem plain_ru (x : Ru) : (encRu x).all plD = true := by
  simp only [encRu, List.all_cons, plain_ex]
  rfl

theorem At.sub {I : Im} {b off : Nat} {us vs : List Value} (h : At I b off us) (j : Nat) (hv : (us.drop j).take vs.length = vs) : At I b (off + j) vs := by
  obtain ⟨cs, e, fz, hb, hc⟩ := h
  refine ⟨cs, e, fz, hb, fun q u hu => ?_⟩
  have : us[j + q]? = some u := by
    rw [← hv, List.getElem?_take] at hu
    split at hu
    · rwa [List.getElem?_drop] at hu
    · cases hu
  rw [Nat.add_assoc]
  exact hc _ _ this
theorem wrap_i64 {a : Int} (h1 : -9223372036854775808 ≤ a) (h2 : a ≤ 9223372036854775807) : IntKind.i64.wrap a = a := by
  exact IntWalk.i64_in a ⟨h1, h2⟩
theorem inc_i64 {i : Nat} (h : i < 9223372036854775807) : IntKind.i64.wrap ((i : Int) + 1) = ((i + 1 : Nat) : Int) := by
  rw [wrap_i64 (by omega) (by omega)]
  rfl
end Go.Proofs.YtghmjnbpkobooaaGreatDoor
