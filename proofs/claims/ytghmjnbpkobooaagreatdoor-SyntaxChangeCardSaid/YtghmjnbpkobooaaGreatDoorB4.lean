/-
  A drawn region, by its list of slots; append; some blocks of many. Plain theorems over whatever program.
-/
import Derived.Test.YtghmjnbpkobooaaGreatDoorB3
set_option linter.unusedVariables false
set_option linter.unusedSimpArgs false
namespace Go.Proofs.YtghmjnbpkobooaaGreatDoor
open Go Go.RowKit

section
variable {P : Program} {G : Gd P} {b : Frame} {n : Nat} {m : Sl} {ds : List Deferred} {k : List Item} {cs : List Frame} {w : World} {id : Nat}
variable {B : World} {I : Im} {L : List (Nat × Obj)}
/-- Of the call's own blocks those at the places ks. -/
theorem Hp.pick (h : Hp B I w L) (ks : List Nat) (hk : ks.Nodup) : Hp B I w (ks.filterMap (fun k => L[k]?)) := by
  have hmem : ∀ p, p ∈ ks.filterMap (fun k => L[k]?) → p ∈ L := by
    intro p hp
    obtain ⟨k, _, hk⟩ := List.mem_filterMap.1 hp
    exact List.mem_of_getElem? hk
  refine ⟨h.imm, fun p hp => h.own p (hmem p hp), fun p hp => h.sep p (hmem p hp), ?_, h.os, h.out⟩
  induction ks with
  | nil => exact List.nodup_nil
  | cons k ks ih =>
    rw [List.nodup_cons] at hk
    have ih' := ih hk.2 (fun p hp => hmem p (by rw [List.filterMap_cons]; split <;> simp_all))
    rw [List.filterMap_cons]
    cases hk1 : L[k]? with
    | none => simpa [hk1] using ih'
    | some p =>
      simp only
      rw [List.map_cons, List.nodup_cons]
      refine ⟨fun hm => ?_, ih'⟩
      obtain ⟨q, hq, e⟩ := List.mem_map.1 hm
      obtain ⟨k2, hk2, hk3⟩ := List.mem_filterMap.1 hq
      obtain ⟨h1, h2⟩ := List.getElem?_eq_some_iff.1 hk1
      have e1 : (L.map (·.1))[k]? = some p.1 := by simp [hk1]
      have e2 : (L.map (·.1))[k2]? = some p.1 := by simp [hk3, e]
      have : k = k2 := (List.getElem?_inj (by simpa using h1) h.nd).1 (e1.trans e2.symm)
      subst this
      exact hk.1 hk2
end

/-! ### append -/
def plD : Dat → Bool
  | .imm _ => false
  | _ => true
theorem Rep.one {I : Im} {d : Dat} {u : Value} (h : Rep I d u) (hp : plD d = true) : one u = true := by
  cases d with
  | int n => simp only [Rep] at h; obtain ⟨rfl, _⟩ := h; rfl
  | u8 n => simp only [Rep] at h; obtain ⟨rfl, _⟩ := h; rfl
  | bool b => simp only [Rep] at h; subst h; rfl
  | str s => simp only [Rep] at h; obtain ⟨rfl, _⟩ := h; rfl
  | imm v => cases hp
  | row sz xs => simp only [Rep] at h; obtain ⟨A, c, rfl, _⟩ := h; rfl
theorem RepL.ones {I : Im} : ∀ {ds : List Dat} {us : List Value}, RepL I ds us → ds.all plD = true → us.all Go.Proofs.YtghmjnbpkobooaaGreatDoor.one = true
  | [], us, h, _ => by
    simp only [RepL] at h
    subst h
    rfl
  | d :: ds, us, h, hp => by
    simp only [RepL] at h
    obtain ⟨u, vs, rfl, h1, h2⟩ := h
    simp only [List.all_cons, Bool.and_eq_true] at hp ⊢
    exact ⟨h1.one hp.1, RepL.ones h2 hp.2⟩
section
variable {P : Program} {B : World} {I : Im} {L : List (Nat × Obj)} {n : Nat} {m : Sl} {w : World} {X : Sl → World → Prop} {Q : List PanicEntry → World → Prop}
variable {d : Nat} {t ty : TypeId} {pos : String} {aft : Array Edge} {gd : Option (Nat × Bool)} {x y : Operand}
theorem rowL_swap (pre : List (Nat × Obj)) (p : Nat × Obj) (v : Value) (cs : List Value) (e : TypeId) : (p :: (pre ++ (rowL v cs e ++ L))).Perm (rowL v cs e ++ (p :: (pre ++ L))) := by
  have h1 : (p :: (pre ++ (rowL v cs e ++ L))) = ((p :: pre) ++ rowL v cs e) ++ L := by simp
  have h2 : (rowL v cs e ++ (p :: (pre ++ L))) = (rowL v cs e ++ (p :: pre)) ++ L := by simp
  rw [h1, h2]
  exact (List.perm_append_comm).append_right L
theorem rowL_back (pre : List (Nat × Obj)) (v : Value) (cs : List Value) (e : TypeId) : (pre ++ (rowL v cs e ++ L)).Perm (rowL v cs e ++ (pre ++ L)) := by
  rw [← List.append_assoc, ← List.append_assoc]
  exact (List.perm_append_comm).append_right L
/-- append(v, x): x has just been laid in a block of its own, gs. -/
theorem ow_append1 {e : TypeId} {sz : Nat} {ag : Bool} {z : Value} {by_ : Nat} (ht : P.underlying t = some (.slice e)) (he : Ty P e sz ag z by_) (hzs : Nat.beq z.cells.size sz = true) (hpos : Nat.blt 0 sz = true) (pre : List (Nat × Obj)) {gs : Nat} {us : List Value} {v : Value} {cs : List Value} {xs : List (List Dat)} {yD : List Dat}
    (H : Hp B I w ((gs, Ob us e) :: (pre ++ (rowL v cs e ++ L)))) (ha : Acc I sz v cs xs) (hs : ev n m x = v) (hy : ev n m y = .slice (some ⟨gs, 0, none⟩) 1 1) (hr : RepL I yD us) (hul : Nat.beq yD.length sz = true) (hpl : yD.all plD = true)
    (hb : (xs.length + 1) * by_ ≤ 140737488355328) (h63 : xs.length + 1 ≤ 9223372036854775807)
    (h : ∀ v' cs' w', Hp B I w' (pre ++ (rowL v' cs' e ++ L)) → Acc I sz v' cs' (xs ++ [yD]) → X ((d, v') :: m) w') : Ow P n ⟨some d, .call { callee := .builtin .append, args := #[x, y], argTypes := #[t, t] }, ty, pos, aft, gd⟩ X Q m w := by
  have hul' : us.length = sz := hr.length.trans (Nat.eq_of_beq_eq_true hul)
  have hg := H.own (gs, Ob us e) (List.mem_cons_self ..)
  have H' := H.perm (rowL_swap pre (gs, Ob us e) v cs e).symm
  obtain ⟨v', w', cs', hrun, H2, ha2⟩ := run_append_acc (P := P) ht he (Nat.eq_of_beq_eq_true hzs) (by have := Nat.le_of_ble_eq_true hpos; omega) H' ha (a := ⟨gs, 0, none⟩) (c := 1) (news := us) (ys := [yD]) (by simp [hul'])
    (fun j u hu => by rw [add_mk, Nat.zero_add, cell_Ob hg]; exact hu) (hr.ones hpl)
    (fun j q hq => by
      cases j with
      | zero =>
        simp only [List.getElem?_cons_zero, Option.some.injEq] at hq
        subst hq
        rw [Nat.zero_mul, List.drop_zero, ← hul', List.take_length]
        exact hr
      | succ j => simp at hq) hb h63 ty
  refine ow_val (v := v') (w' := w') ?_ (h v' cs' w' ?_ ha2)
  · simp only [List.length_singleton] at hrun
    simp [execOp, resolve, invoke, builtin, Sem.run_bind, Result.andThen, hs, hy, hrun]
  · have := H2.perm (rowL_swap pre (gs, Ob us e) v' cs' e)
    exact this.tail
end
end Go.Proofs.YtghmjnbpkobooaaGreatDoor
