/-
  Memory in two parts: blocks that never turn (a partial map I), blocks that are the call's own (a list L). What data read as: Rep. Plain theorems over whatever program.
-/
import Derived.Test.YtghmjnbpkobooaaGreatDoorB0
set_option linter.unusedVariables false
set_option linter.unusedSimpArgs false
namespace Go.Proofs.YtghmjnbpkobooaaGreatDoor
open Go Go.RowKit

abbrev Im := Nat → Option Obj
abbrev Ob (cs : List Value) (t : TypeId) : Obj := .cells cs.toArray t (0, 0)
/-- I's blocks lie as told; L's blocks are the call's own; the streams are B's. -/
structure Hp (B : World) (I : Im) (w : World) (L : List (Nat × Obj)) : Prop where
  imm : ∀ g o, I g = some o → w.heap[g]? = some o
  own : ∀ p, p ∈ L → w.heap[p.1]? = some p.2
  sep : ∀ p, p ∈ L → I p.1 = none
  nd : (L.map (·.1)).Nodup
  os : w.os = B.os
  out : w.output = B.output
def Le (I I' : Im) : Prop := ∀ g o, I g = some o → I' g = some o
theorem Le.refl (I : Im) : Le I I := fun _ _ h => h
theorem Le.trans {I J K : Im} (h : Le I J) (h' : Le J K) : Le I K := fun g o hg => h' g o (h g o hg)

section
variable {B : World} {I I' : Im} {w w' : World} {L L' : List (Nat × Obj)}
theorem lt_of_at {w : World} {g : Nat} {o : Obj} (h : w.heap[g]? = some o) : g < w.heap.size := (Array.getElem?_eq_some_iff.1 h).1
theorem Hp.fresh (h : Hp B I w L) : I w.heap.size = none := by
  cases e : I w.heap.size with
  | none => rfl
  | some o => exact absurd (lt_of_at (h.imm _ _ e)) (Nat.lt_irrefl _)
theorem Hp.alloc (h : Hp B I w L) (o : Obj) : Hp B I (w.alloc o) ((w.heap.size, o) :: L) where
  imm := fun g o' hg => (Below.heap_alloc w o g (lt_of_at (h.imm g o' hg))).trans (h.imm g o' hg)
  own := by
    intro p hp
    rcases List.mem_cons.1 hp with rfl | hp
    · exact heap_alloc_new w o
    · exact (Below.heap_alloc w o p.1 (lt_of_at (h.own p hp))).trans (h.own p hp)
  sep := by
    intro p hp
    rcases List.mem_cons.1 hp with rfl | hp
    · exact h.fresh
    · exact h.sep p hp
  nd := by
    rw [List.map_cons, List.nodup_cons]
    refine ⟨fun hm => ?_, h.nd⟩
    obtain ⟨p, hp, e⟩ := List.mem_map.1 hm
    exact absurd (lt_of_at (h.own p hp)) (by rw [e]; exact Nat.lt_irrefl _)
  os := h.os
  out := h.out
theorem Hp.drew (h : Hp B I w L) : Hp B I w.drew L := ⟨h.imm, h.own, h.sep, h.nd, h.os, h.out⟩
theorem Hp.sub (h : Hp B I w L) (hs : L'.Sublist L) : Hp B I w L' :=
  ⟨h.imm, fun p hp => h.own p (hs.subset hp), fun p hp => h.sep p (hs.subset hp), h.nd.sublist (hs.map _), h.os, h.out⟩
theorem Hp.tail {p : Nat × Obj} (h : Hp B I w (p :: L)) : Hp B I w L := h.sub (List.sublist_cons_self _ _)
theorem Hp.drop (h : Hp B I w L) (n : Nat) : Hp B I w (L.drop n) := h.sub (List.drop_sublist n L)
theorem Hp.perm (h : Hp B I w L) (hp : L'.Perm L) : Hp B I w L' :=
  ⟨h.imm, fun p hm => h.own p (hp.subset hm), fun p hm => h.sep p (hp.subset hm), (hp.map _).nodup_iff.2 h.nd, h.os, h.out⟩
/-- Whatever lay lies as it lay; the streams too. -/
theorem Hp.below (h : Hp B I w L) (hb : Below w.heap.size w w') : Hp B I w' L :=
  ⟨fun g o hg => (hb.block g (lt_of_at (h.imm g o hg))).trans (h.imm g o hg), fun p hp => (hb.block p.1 (lt_of_at (h.own p hp))).trans (h.own p hp), h.sep, h.nd, hb.os.trans h.os, hb.output.trans h.out⟩
/-- One of the call's own blocks is turned, the rest lies as it lay. -/
theorem Hp.turn {g : Nat} {o o' : Obj} {k : Nat} (h : Hp B I w L) (hk : L[k]? = some (g, o)) (hg : w'.heap[g]? = some o') (hr : ∀ j, j < w.heap.size → j ≠ g → w'.heap[j]? = w.heap[j]?) (hos : w'.os = w.os) (hout : w'.output = w.output) :
    Hp B I w' (L.set k (g, o')) := by
  obtain ⟨hkl, hke⟩ := List.getElem?_eq_some_iff.1 hk
  have hne : ∀ j (hj : j < L.length), j ≠ k → (L[j]).1 ≠ g := by
    intro j hj hjk e
    have h1 : (L.map (·.1))[j]? = some g := by simp [hj, e]
    have h2 : (L.map (·.1))[k]? = some g := by simp [hkl, hke]
    have hj' : j < (L.map (·.1)).length := by simpa using hj
    exact hjk ((List.getElem?_inj hj' h.nd).1 (h1.trans h2.symm))
  have hI : I g = none := by
    have := h.sep (g, o) (hke ▸ List.getElem_mem hkl)
    simpa using this
  refine ⟨fun j oj hj => ?_, fun p hp => ?_, fun p hp => ?_, ?_, hos.trans h.os, hout.trans h.out⟩
  · have hjg : j ≠ g := by
      rintro rfl
      rw [hI] at hj
      cases hj
    exact (hr j (lt_of_at (h.imm j oj hj)) hjg).trans (h.imm j oj hj)
  · obtain ⟨j, hj, rfl⟩ := List.getElem_of_mem hp
    rw [List.length_set] at hj
    by_cases e : j = k
    · subst e
      simpa using hg
    · rw [List.getElem_set_ne (Ne.symm e)]
      have hm := List.getElem_mem hj
      exact (hr _ (lt_of_at (h.own _ hm)) (hne j hj e)).trans (h.own _ hm)
  · obtain ⟨j, hj, rfl⟩ := List.getElem_of_mem hp
    rw [List.length_set] at hj
    by_cases e : j = k
    · subst e
      simpa using hI
    · rw [List.getElem_set_ne (Ne.symm e)]
      exact h.sep _ (List.getElem_mem hj)
  · have : (L.set k (g, o')).map (·.1) = L.map (·.1) := by
      apply List.ext_getElem?
      intro j
      simp only [List.getElem?_map, List.getElem?_set]
      by_cases e : k = j
      · subst e
        simp [hkl, hke]
      · simp [e]
    rw [this]
    exact h.nd
/-- The first block of the list is turned no more. -/
def Im.put (I : Im) (g : Nat) (o : Obj) : Im := fun j => if j = g then some o else I j
theorem Hp.freeze {g : Nat} {o : Obj} (h : Hp B I w ((g, o) :: L)) : Hp B (I.put g o) w L := by
  have hg : I g = none := h.sep (g, o) (List.mem_cons_self ..)
  refine ⟨fun j oj hj => ?_, fun p hp => h.own p (List.mem_cons_of_mem _ hp), fun p hp => ?_, h.tail.nd, h.os, h.out⟩
  · unfold Im.put at hj
    split at hj
    · rename_i e
      subst e
      cases hj
      exact h.own (j, o) (List.mem_cons_self ..)
    · exact h.imm j oj hj
  · have hne : p.1 ≠ g := by
      rintro e
      refine (List.nodup_cons.1 h.nd).1 ?_
      have := List.mem_map_of_mem (f := fun q : Nat × Obj => q.1) hp
      rwa [e] at this
    unfold Im.put
    rw [if_neg hne]
    exact h.sep p (List.mem_cons_of_mem _ hp)
theorem Im.le_put {g : Nat} {o : Obj} (h : I g = none) : Le I (I.put g o) := by
  intro j oj hj
  unfold Im.put
  split
  · rename_i e
    rw [e, h] at hj
    cases hj
  · exact hj
/-- What has become known of memory is forgotten. -/
theorem Hp.back (h : Hp B I' w L) (hle : Le I I') : Hp B I w L := by
  refine ⟨fun g o hg => h.imm g o (hle g o hg), h.own, fun p hp => ?_, h.nd, h.os, h.out⟩
  cases e : I p.1 with
  | none => rfl
  | some o =>
    have h1 := h.sep p hp
    rw [hle _ _ e] at h1
    cases h1
theorem Im.at_put (I : Im) (g : Nat) (o : Obj) : (I.put g o) g = some o := by simp [Im.put]
end

/-! ### Data -/
inductive Dat where
  | int (n : Int)
  | u8 (n : Int)
  | bool (b : Bool)
  | str (s : ByteArray)
  | imm (v : Value)
  | row (sz : Nat) (xs : List (List Dat))
def I64 (n : Int) : Prop := -9223372036854775808 ≤ n ∧ n ≤ 9223372036854775807
/-- The cells us stand in I's block b, from off on. -/
def At (I : Im) (b off : Nat) (us : List Value) : Prop := ∃ cs e fz, I b = some (.cells cs e fz) ∧ ∀ j u, us[j]? = some u → cs[off + j]? = some u
mutual
def Rep (I : Im) : Dat → Value → Prop
  | .int n, u => u = .int .i64 n ∧ I64 n
  | .u8 n, u => u = .int .u8 n ∧ 0 ≤ n ∧ n ≤ 255
  | .bool b, u => u = .bool b
  | .str s, u => u = .string s ∧ s.size ≤ 9223372036854775807
  | .imm v, u => u = v
  | .row sz xs, u => ∃ A c, u = .slice A xs.length c ∧ xs.length ≤ c ∧ c ≤ 9223372036854775807 ∧ RepRow I sz xs A 0
def RepRow (I : Im) (sz : Nat) : List (List Dat) → Option Addr → Nat → Prop
  | [], _, _ => True
  | x :: xs, A, i => (∃ b off us, A = some ⟨b, off, none⟩ ∧ At I b (off + i * sz) us ∧ us.length = sz ∧ RepL I x us) ∧ RepRow I sz xs A (i + 1)
def RepL (I : Im) : List Dat → List Value → Prop
  | [], us => us = []
  | d :: ds, us => ∃ u vs, us = u :: vs ∧ Rep I d u ∧ RepL I ds vs
end
theorem At.mono {I I' : Im} (h : Le I I') {b off : Nat} {us : List Value} (ha : At I b off us) : At I' b off us := by
  obtain ⟨cs, e, fz, hb, hc⟩ := ha
  exact ⟨cs, e, fz, h _ _ hb, hc⟩
mutual
theorem Rep.mono {I I' : Im} (h : Le I I') : ∀ {d : Dat} {u : Value}, Rep I d u → Rep I' d u
  | .int _, _, hr => by simpa only [Rep] using hr
  | .u8 _, _, hr => by simpa only [Rep] using hr
  | .bool _, _, hr => by simpa only [Rep] using hr
  | .str _, _, hr => by simpa only [Rep] using hr
  | .imm _, _, hr => by simpa only [Rep] using hr
  | .row sz xs, u, hr => by
    simp only [Rep] at hr ⊢
    obtain ⟨A, c, hu, h1, h2, h3⟩ := hr
    exact ⟨A, c, hu, h1, h2, RepRow.mono h h3⟩
theorem RepRow.mono {I I' : Im} (h : Le I I') {sz : Nat} : ∀ {xs : List (List Dat)} {A : Option Addr} {i : Nat}, RepRow I sz xs A i → RepRow I' sz xs A i
  | [], _, _, _ => by simp only [RepRow]
  | x :: xs, A, i, hr => by
    simp only [RepRow] at hr ⊢
    obtain ⟨⟨b, off, us, h1, h2, h3, h4⟩, h5⟩ := hr
    exact ⟨⟨b, off, us, h1, h2.mono h, h3, RepL.mono h h4⟩, RepRow.mono h h5⟩
theorem RepL.mono {I I' : Im} (h : Le I I') : ∀ {ds : List Dat} {us : List Value}, RepL I ds us → RepL I' ds us
  | [], _, hr => by simpa only [RepL] using hr
  | d :: ds, us, hr => by
    simp only [RepL] at hr ⊢
    obtain ⟨u, vs, hu, h1, h2⟩ := hr
    exact ⟨u, vs, hu, Rep.mono h h1, RepL.mono h h2⟩
end
theorem RepRow.get {I : Im} {sz : Nat} : ∀ {xs : List (List Dat)} {A : Option Addr} {i : Nat}, RepRow I sz xs A i → ∀ {j : Nat} {x : List Dat}, xs[j]? = some x →
    ∃ b off us, A = some ⟨b, off, none⟩ ∧ At I b (off + (i + j) * sz) us ∧ us.length = sz ∧ RepL I x us
  | [], _, _, _, j, x, hx => by simp at hx
  | y :: xs, A, i, hr, j, x, hx => by
    simp only [RepRow] at hr
    cases j with
    | zero =>
      simp only [List.getElem?_cons_zero, Option.some.injEq] at hx
      subst hx
      exact hr.1
    | succ j =>
      obtain ⟨b, off, us, h1, h2, h3, h4⟩ := RepRow.get hr.2 (j := j) (by simpa using hx)
      exact ⟨b, off, us, h1, by rw [show i + (j + 1) = i + 1 + j by omega]; exact h2, h3, h4⟩
theorem RepRow.of {I : Im} {sz : Nat} {b off : Nat} : ∀ {xs : List (List Dat)} {i : Nat}, (∀ j x, xs[j]? = some x → ∃ us, At I b (off + (i + j) * sz) us ∧ us.length = sz ∧ RepL I x us) → RepRow I sz xs (some ⟨b, off, none⟩) i
  | [], _, _ => by simp only [RepRow]
  | y :: xs, i, h => by
    simp only [RepRow]
    obtain ⟨us, h1, h2, h3⟩ := h 0 y rfl
    refine ⟨⟨b, off, us, rfl, by simpa using h1, h2, h3⟩, RepRow.of fun j x hx => ?_⟩
    obtain ⟨us, h1, h2, h3⟩ := h (j + 1) x (by simpa using hx)
    exact ⟨us, by rw [show i + 1 + j = i + (j + 1) by omega]; exact h1, h2, h3⟩
theorem RepL.length {I : Im} : ∀ {ds : List Dat} {us : List Value}, RepL I ds us → us.length = ds.length
  | [], us, h => by
    simp only [RepL] at h
    rw [h]
    rfl
  | d :: ds, us, h => by
    simp only [RepL] at h
    obtain ⟨u, vs, rfl, _, h2⟩ := h
    simp [RepL.length h2]
theorem RepL.append {I : Im} : ∀ {ds es : List Dat} {us vs : List Value}, RepL I ds us → RepL I es vs → RepL I (ds ++ es) (us ++ vs)
  | [], _, _, _, h, h' => by
    simp only [RepL] at h
    subst h
    exact h'
  | d :: ds, es, us, vs, h, h' => by
    simp only [RepL] at h
    obtain ⟨u, us', rfl, h1, h2⟩ := h
    simp only [List.cons_append, RepL]
    exact ⟨u, us' ++ vs, rfl, h1, RepL.append h2 h'⟩
theorem RepL.split {I : Im} : ∀ {ds es : List Dat} {us : List Value}, RepL I (ds ++ es) us → ∃ vs ws, us = vs ++ ws ∧ RepL I ds vs ∧ RepL I es ws
  | [], es, us, h => ⟨[], us, rfl, by simp only [RepL], h⟩
  | d :: ds, es, us, h => by
    simp only [List.cons_append, RepL] at h
    obtain ⟨u, us', rfl, h1, h2⟩ := h
    obtain ⟨vs, ws, rfl, h3, h4⟩ := RepL.split h2
    exact ⟨u :: vs, ws, rfl, by simp only [RepL]; exact ⟨u, vs, rfl, h1, h3⟩, h4⟩
/-- A nil or empty slice. -/
theorem Rep.none_ (I : Im) (sz : Nat) : Rep I (.row sz []) (.slice none 0 0) := by
  simp only [Rep]
  exact ⟨none, 0, rfl, Nat.le_refl _, by omega, by simp only [RepRow]⟩

/-! ### Slices of data, typed -/
/-- The slice v reads as the list l, each element of sz cells told by enc. -/
def RepS {α : Type} (enc : α → List Dat) (I : Im) (sz : Nat) (l : List α) (v : Value) : Prop := Rep I (.row sz (l.map enc)) v
theorem RepS.mono {α : Type} {enc : α → List Dat} {I I' : Im} (h : Le I I') {sz : Nat} {l : List α} {v : Value} (hr : RepS enc I sz l v) : RepS enc I' sz l v := Rep.mono h hr
theorem RepS.open_ {α : Type} {enc : α → List Dat} {I : Im} {sz : Nat} {l : List α} {v : Value} (hr : RepS enc I sz l v) : ∃ A c, v = .slice A l.length c ∧ l.length ≤ c ∧ c ≤ 9223372036854775807 ∧ RepS enc I sz l (.slice A l.length c) := by
  have h := hr
  unfold RepS at h
  simp only [Rep, List.length_map] at h
  obtain ⟨A, c, rfl, h1, h2, _⟩ := h
  exact ⟨A, c, rfl, h1, h2, hr⟩
theorem RepS.get {α : Type} {enc : α → List Dat} {I : Im} {sz : Nat} {l : List α} {A : Option Addr} {c : Nat} (hr : RepS enc I sz l (.slice A l.length c)) {i : Nat} {x : α} (hx : l[i]? = some x) :
    ∃ b off us, A = some ⟨b, off, none⟩ ∧ At I b (off + i * sz) us ∧ us.length = sz ∧ RepL I (enc x) us := by
  unfold RepS at hr
  simp only [Rep] at hr
  obtain ⟨A', c', he, _, _, h3⟩ := hr
  injection he with h1 _ h2
  subst h1
  have := h3.get (j := i) (x := enc x) (by simp [hx])
  simpa using this
theorem RepS.nil {α : Type} (enc : α → List Dat) (I : Im) (sz : Nat) : RepS enc I sz [] (.slice none 0 0) := Rep.none_ I sz

/-! ### A slice that is appended to: nil, or the head of a block of the call's own -/
def rowL (v : Value) (cs : List Value) (e : TypeId) : List (Nat × Obj) :=
  match v with
  | .slice (some a) _ _ => [(a.block, Ob cs e)]
  | _ => []
def Acc (I : Im) (sz : Nat) (v : Value) (cs : List Value) (xs : List (List Dat)) : Prop :=
  (v = .slice none 0 0 ∧ xs = []) ∨
  ∃ g cap, v = .slice (some ⟨g, 0, none⟩) xs.length cap ∧ xs.length ≤ cap ∧ cap ≤ 9223372036854775807 ∧ cs.length = cap * sz ∧ ∀ j x, xs[j]? = some x → RepL I x ((cs.drop (j * sz)).take sz)
theorem Acc.mono {I I' : Im} (h : Le I I') {sz : Nat} {v : Value} {cs : List Value} {xs : List (List Dat)} (ha : Acc I sz v cs xs) : Acc I' sz v cs xs := by
  rcases ha with h0 | ⟨g, cap, hv, h1, h2, h3, h4⟩
  · exact .inl h0
  · exact .inr ⟨g, cap, hv, h1, h2, h3, fun j x hx => (h4 j x hx).mono h⟩
theorem Acc.none_ (I : Im) (sz : Nat) (cs : List Value) : Acc I sz (.slice none 0 0) cs [] := .inl ⟨rfl, rfl⟩
theorem Acc.form {I : Im} {sz : Nat} {v : Value} {cs : List Value} {xs : List (List Dat)} (ha : Acc I sz v cs xs) : ∃ A n c, v = .slice A n c := by
  rcases ha with ⟨rfl, _⟩ | ⟨g, cap, rfl, _⟩
  · exact ⟨_, _, _, rfl⟩
  · exact ⟨_, _, _, rfl⟩
/-- It is turned no more: it reads as data. -/
theorem Acc.done {B : World} {I : Im} {w : World} {L : List (Nat × Obj)} {sz : Nat} {e : TypeId} {v : Value} {cs : List Value} {xs : List (List Dat)} (ha : Acc I sz v cs xs) (H : Hp B I w (rowL v cs e ++ L)) :
    ∃ I', Le I I' ∧ Hp B I' w L ∧ Rep I' (.row sz xs) v := by
  rcases ha with ⟨rfl, rfl⟩ | ⟨g, cap, rfl, h1, h2, h3, h4⟩
  · exact ⟨I, Le.refl I, H, Rep.none_ I sz⟩
  · have hg : I g = none := H.sep (g, Ob cs e) (List.mem_cons_self ..)
    have hle : Le I (I.put g (Ob cs e)) := Im.le_put hg
    refine ⟨I.put g (Ob cs e), hle, Hp.freeze H, ?_⟩
    simp only [Rep]
    refine ⟨some ⟨g, 0, none⟩, cap, rfl, h1, h2, RepRow.of fun j x hx => ?_⟩
    have hj : j < xs.length := (List.getElem?_eq_some_iff.1 hx).1
    have hr := h4 j x hx
    have hle2 : j * sz + sz ≤ cs.length := by
      rw [h3, ← Nat.succ_mul]
      exact Nat.mul_le_mul_right _ (by omega)
    refine ⟨(cs.drop (j * sz)).take sz, ⟨cs.toArray, e, (0, 0), Im.at_put _ _ _, fun i u hu => ?_⟩, by simp; omega, hr.mono hle⟩
    rw [List.getElem?_take] at hu
    split at hu
    · rw [List.getElem?_drop] at hu
      simpa [Nat.add_comm] using hu
    · cases hu
end Go.Proofs.YtghmjnbpkobooaaGreatDoor
