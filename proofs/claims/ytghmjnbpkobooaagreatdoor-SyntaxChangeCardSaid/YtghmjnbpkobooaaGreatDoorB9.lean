/-
  Slices of slices of data; append of a whole slice. Plain theorems over whatever program.
-/
import Derived.Test.YtghmjnbpkobooaaGreatDoorB8
import Derived.Test.YtghmjnbpkobooaaGreatDoorS0
set_option linter.unusedVariables false
set_option linter.unusedSimpArgs false
namespace Go.Proofs.YtghmjnbpkobooaaGreatDoor
open Go Go.RowKit

theorem RepS.cut {α : Type} {enc : α → List Dat} {I : Im} {sz : Nat} {l : List α} {A : Option Addr} {cp : Nat} (h : RepS enc I sz l (.slice A l.length cp)) (a c : Nat) (h1 : a ≤ c) (h2 : c ≤ l.length) :
    RepS enc I sz ((l.take c).drop a) (.slice (if cp = a then A else A.map (·.add (a * sz))) (c - a) (cp - a)) := by
  unfold RepS at h ⊢
  have hl : (l.map enc).length = l.length := List.length_map ..
  have := rep_cut (xs := l.map enc) (A := A) (cp := cp) (by rw [hl]; exact h) a c h1 (by rw [hl]; exact h2)
  rwa [List.map_drop, List.map_take]
theorem RepS.some_ {α : Type} {enc : α → List Dat} {I : Im} {sz : Nat} {l : List α} {A : Option Addr} {c : Nat} (hr : RepS enc I sz l (.slice A l.length c)) (h : 0 < l.length) : ∃ b o, A = some ⟨b, o, none⟩ := by
  obtain ⟨b, o, us, hA, _⟩ := RepS.get hr (List.getElem?_eq_getElem h)
  exact ⟨b, o, hA⟩
theorem reps_cells {α : Type} {enc : α → List Dat} {I : Im} {sz : Nat} {l : List α} {b off c : Nat} (hpl : ∀ y ∈ l, (enc y).all plD = true) (hr : RepS enc I sz l (.slice (some ⟨b, off, none⟩) l.length c)) :
    ∀ k, k ≤ l.length → ∃ news : List Value, news.length = k * sz ∧ news.all one = true ∧ (∀ j u, news[j]? = some u → At I b (off + j) [u]) ∧ ∀ j y, j < k → l[j]? = some y → RepL I (enc y) ((news.drop (j * sz)).take sz)
  | 0, _ => ⟨[], by simp, rfl, fun j u hu => by simp at hu, fun j y hj => by omega⟩
  | k + 1, hk => by
    obtain ⟨news, h1, h2, h3, h4⟩ := reps_cells hpl hr k (by omega)
    obtain ⟨x, hx⟩ : ∃ x, l[k]? = some x := ⟨_, List.getElem?_eq_getElem (by omega)⟩
    obtain ⟨b', off', us, hA, hat, hl, hrx⟩ := RepS.get hr hx
    cases hA
    refine ⟨news ++ us, by rw [List.length_append, h1, hl, Nat.succ_mul], ?_, fun j u hu => ?_, fun j y hj hy => ?_⟩
    · rw [List.all_append, h2, hrx.ones (hpl x (List.mem_of_getElem? hx))]
      rfl
    · by_cases hj : j < news.length
      · rw [List.getElem?_append_left hj] at hu
        exact h3 j u hu
      · rw [List.getElem?_append_right (by omega)] at hu
        have hq : j - news.length < us.length := (List.getElem?_eq_some_iff.1 hu).1
        have := At.sub (vs := [u]) hat (j - news.length) (by
          apply List.ext_getElem?
          intro i
          cases i with
          | zero => simp [List.getElem?_take, List.getElem?_drop, hu]
          | succ i => simp [List.getElem?_take])
        rw [h1] at this
        rw [h1] at hj
        rwa [show off + k * sz + (j - k * sz) = off + j by omega] at this
    · by_cases hjk : j < k
      · have := h4 j y hjk hy
        have h7 : j * sz + sz ≤ k * sz := by rw [← Nat.succ_mul]; exact Nat.mul_le_mul_right _ hjk
        rw [List.drop_append_of_le_length (by omega), List.take_append_of_le_length (by rw [List.length_drop]; omega)]
        exact this
      · have : j = k := by omega
        subst this
        rw [hx] at hy
        cases hy
        rw [← h1, List.drop_left, ← hl, List.take_length]
        exact hrx
section
variable {P : Program} {B : World} {I : Im} {L : List (Nat × Obj)} {n : Nat} {m : Sl} {w : World} {X : Sl → World → Prop} {Q : List PanicEntry → World → Prop}
variable {d : Nat} {t ty : TypeId} {pos : String} {aft : Array Edge} {gd : Option (Nat × Bool)} {x y : Operand}
/-- append(v, l...): l are data that turn no more. -/
theorem ow_appendS {α : Type} {enc : α → List Dat} {l : List α} {e : TypeId} {sz : Nat} {ag : Bool} {z : Value} {by_ : Nat} (ht : P.underlying t = some (.slice e)) (he : Ty P e sz ag z by_) (hzs : Nat.beq z.cells.size sz = true) (hpos : Nat.blt 0 sz = true) (pre : List (Nat × Obj)) {v : Value} {cs : List Value} {xs : List (List Dat)}
    (H : Hp B I w (pre ++ (rowL v cs e ++ L))) (ha : Acc I sz v cs xs) (hs : ev n m x = v) {A : Option Addr} {n' c b o : Nat} (hy : ev n m y = .slice A n' c) (hA : A = some ⟨b, o, none⟩) (hn : l.length = n') (hr : RepS enc I sz l (.slice A n' c)) (hpl : ∀ q ∈ l, (enc q).all plD = true)
    (hb : (xs.length + n') * by_ ≤ 140737488355328) (h63 : xs.length + n' ≤ 9223372036854775807)
    (h : ∀ v' cs' w', Hp B I w' (pre ++ (rowL v' cs' e ++ L)) → Acc I sz v' cs' (xs ++ l.map enc) → X ((d, v') :: m) w') : Ow P n ⟨some d, .call { callee := .builtin .append, args := #[x, y], argTypes := #[t, t] }, ty, pos, aft, gd⟩ X Q m w := by
  subst hA hn
  obtain ⟨news, h1, h2, h3, h4⟩ := reps_cells hpl hr l.length (Nat.le_refl _)
  have hl : (l.map enc).length = l.length := List.length_map ..
  have H' := H.perm (rowL_back pre v cs e).symm
  obtain ⟨v', w', cs', hrun, H2, ha2⟩ := run_append_acc (P := P) ht he (Nat.eq_of_beq_eq_true hzs) (by have := Nat.le_of_ble_eq_true hpos; omega) H' ha (a := ⟨b, o, none⟩) (c := c) (news := news) (ys := l.map enc) (by rw [h1, hl])
    (fun j u hu => by
      have := cell_At H (h3 j u hu) 0 u rfl
      rw [add_mk] at this ⊢
      exact this) h2
    (fun j q hq => by
      rw [List.getElem?_map] at hq
      cases hx : l[j]? with
      | none => rw [hx] at hq; cases hq
      | some x =>
        rw [hx] at hq
        cases hq
        exact h4 j x (List.getElem?_eq_some_iff.1 hx).1 hx) (by rw [hl]; exact hb) (by rw [hl]; exact h63) ty
  refine ow_val (v := v') (w' := w') ?_ (h v' cs' w' (H2.perm (rowL_back pre v' cs' e)) ha2)
  rw [hl] at hrun
  simp [execOp, resolve, invoke, builtin, Sem.run_bind, Result.andThen, hs, hy, hrun]
end
end Go.Proofs.YtghmjnbpkobooaaGreatDoor
