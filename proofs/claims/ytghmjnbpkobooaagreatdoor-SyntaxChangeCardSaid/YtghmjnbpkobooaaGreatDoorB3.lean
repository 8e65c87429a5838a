/-
  A region that draws its order: whatever order the edges allow, it comes to what the operations come to in one order: what acts (the chain) in the order of the text, what only reads as soon as it may. Plain theorems over whatever program.
-/
import Derived.Test.YtghmjnbpkobooaaGreatDoorB2
import Derived.Orders
set_option linter.unusedVariables false
set_option linter.unusedSimpArgs false
namespace Go.Proofs.YtghmjnbpkobooaaGreatDoor
open Go Go.RowKit

def dstOf (ops : Array Oper) (i : Nat) : Option Nat := (ops[i]?).bind (·.dst)
def edgeOn (o : Oper) (i : Nat) : Bool := o.after.any fun e => Region.binds .any e && Nat.beq e.on i
def tmpsOf (o : Oper) : List Nat := o.op.operands.toList.filterMap fun | .tmp t => some t | _ => none
def isSel : Op → Bool
  | .select _ _ => true
  | _ => false
def guardIs (o : Oper) (j : Nat) : Bool := match o.guard with
  | some (g, _) => Nat.beq g j
  | none => false
def edgeAt (ops : Array Oper) (i j : Nat) : Bool := ((ops[i]?).map (edgeOn · j)).getD false
/-- The chain; with each of it what only reads and may be carried out from then on, and what of the earlier may still be left then. -/
abbrev Plan := List (Nat × List Nat × List Nat)
def later : Plan → List Nat
  | [] => []
  | (c, new, _) :: l => c :: (new ++ later l)
def sureL (ops : Array Oper) (c : Nat) (pend : List Nat) : List Nat → Bool
  | [] => true
  | u :: l => (pend.contains u || edgeAt ops c u || l.any (fun v => !pend.contains v && edgeAt ops v u)) && sureL ops c pend l
/-- Each stands behind those on which it has an edge. -/
def topoB (md : Region.Mode) (ops : Array Oper) : List Nat → List Nat → Bool
  | _, [] => true
  | done, i :: l => (ops[i]?).any (fun o => o.after.all fun e => !Region.binds md e || done.contains e.on) && topoB md ops (i :: done) l
def ordOk (md : Region.Mode) (ops : Array Oper) (l : List Nat) : Bool := topoB md ops [] l && (List.range ops.size).all (fun i => l.contains i) && l.all (fun i => Nat.blt i ops.size)
def planOk (ops : Array Oper) : List Nat → List Nat → Plan → Bool
  | _, _, [] => true
  | done, prev, (c, new, pend) :: l =>
    (prev.isEmpty || prev.any (edgeAt ops c)) &&
    sureL ops c pend done &&
    pend.all (fun p => done.contains p) &&
    new.all (fun p => edgeAt ops p c || new.any (fun q => edgeAt ops p q)) &&
    planOk ops (done ++ c :: new) (c :: new) l
def nodupB : List Nat → Bool
  | [] => true
  | x :: l => !l.contains x && nodupB l
/-- What is asked of the region's text. -/
def drawOk (ops : Array Oper) (p0 : List Nat) (plan : Plan) (oT oG : List Nat) : Bool :=
  (!Region.departs ops || (ordOk .text ops oT && ordOk .gc ops oG)) &&
  (List.range ops.size).all (fun i => (p0 ++ later plan).contains i) &&
  nodupB (p0 ++ later plan) &&
  (p0 ++ later plan).all (fun i => Nat.blt i ops.size) &&
  (List.range ops.size).all (fun i => (ops[i]?).any fun o => !isDf o.op && !isSel o.op) &&
  ordOk .any ops (p0 ++ later plan) &&
  planOk ops p0 [] plan &&
  -- a slot that an operation of the region writes is read behind it alone, and no other one writes it
  (List.range ops.size).all (fun i => (List.range ops.size).all fun j => (ops[i]?).any fun o => (!guardIs o j || edgeOn o j) && match dstOf ops j with
    | none => true
    | some d => (!(tmpsOf o).contains d || edgeOn o j) && (Nat.beq i j || dstOf ops i != some d))

section
variable {P : Program} {G : Gd P} {b : Frame} {n : Nat} {m : Sl} {ds : List Deferred} {k : List Item} {cs : List Frame} {w : World} {ops : Array Oper} {id : Nat}

theorem nodupB_nodup : ∀ {l : List Nat}, nodupB l = true → l.Nodup
  | [], _ => List.nodup_nil
  | x :: l, h => by
    simp only [nodupB, Bool.and_eq_true, Bool.not_eq_true'] at h
    rw [List.nodup_cons]
    refine ⟨fun hm => ?_, nodupB_nodup h.2⟩
    have h1 := h.1
    rw [List.contains_iff_mem.2 hm] at h1
    cases h1
theorem Ow.transfer {o : Oper} {X X' : Sl → World → Prop} {Q Q' : List PanicEntry → World → Prop} {m M : Sl} (hs : isSel o.op = false) (he : ∀ x ∈ o.op.operands, ev n m x = ev n M x) (h : Ow P n o X Q M w)
    (hx : ∀ v w', X (pt o.dst v M) w' → X' (pt o.dst v m) w') (hq : ∀ ch w', Q ch w' → Q' ch w') : Ow P n o X' Q' m w := by
  have heq : execOp (ev n m) o = execOp (ev n M) o := execOp_congr o (fun cs b e => by rw [e] at hs; cases hs) he
  unfold Ow at h ⊢
  rw [heq]
  generalize (execOp (ev n M) o).run P w = r at h
  cases r with
  | ok x w' =>
    cases x with
    | value v => exact hx _ _ h
    | skip => exact hx _ _ h
    | enter f args =>
      refine Calls.mono h fun e w2 hR => ?_
      cases e with
      | returned v => exact hx _ _ hR
      | panicked ch => exact hq _ _ hR
      | outgrown => exact hR
    | round l f tmps assign body =>
      refine Rounds.mono h fun e w2 hR => ?_
      cases e with
      | returned v => exact hx _ _ hR
      | panicked ch => exact hq _ _ hR
      | outgrown => exact hR
    | _ => exact h.elim
  | halt x w' =>
    cases x with
    | panic v => exact hq _ _ h
    | _ => exact h.elim
def wantB (n : Nat) (ops : Array Oper) (o : Oper) (M : Sl) : Bool := Region.wanted o (yielded ops (fr n M))
/-- An operation that only reads hands back what the list of slots says (nothing, where its guard says no). -/
def Kn (P : Program) (n : Nat) (ops : Array Oper) (F : World → Prop) (M : Sl) (p : Nat) : Prop :=
  ∃ o d, ops[p]? = some o ∧ o.dst = some d ∧ ((wantB n ops o M = true ∧ ∀ w, F w → Ow P n o (fun m' w' => m' = (d, lk M d) :: M ∧ w' = w) (fun _ _ => False) M w) ∨ (wantB n ops o M = false ∧ lk M d = undef))
def keysOk (ops : Array Oper) (E : Sl) (new : List Nat) : Bool := E.all fun q => new.any fun p => dstOf ops p == some q.1
def AllKn (P : Program) (n : Nat) (ops : Array Oper) (F : World → Prop) (M : Sl) : List Nat → Prop
  | [] => True
  | p :: l => Kn P n ops F M p ∧ AllKn P n ops F M l
theorem AllKn.mem {F : World → Prop} {M : Sl} : ∀ {l : List Nat}, AllKn P n ops F M l → ∀ p ∈ l, Kn P n ops F M p
  | [], _, p, hp => by cases hp
  | q :: l, h, p, hp => by
    rcases List.mem_cons.1 hp with rfl | hp
    · exact h.1
    · exact AllKn.mem h.2 p hp
/-- Behind one of the chain: E are the slots of what only reads and is let go by it. -/
def Af (P : Program) (n : Nat) (ops : Array Oper) (new pend : List Nat) (C : Sl → World → Prop) (M : Sl) (w : World) : Prop :=
  ∃ (E : Sl) (F : World → Prop), keysOk ops E new = true ∧ F w ∧ AllKn P n ops F (E ++ M) (pend ++ new) ∧ C (E ++ M) w
/-- The chain, in the order of its text: X behind it. -/
def Cw (P : Program) (n : Nat) (ops : Array Oper) (X : Sl → World → Prop) (Q : List PanicEntry → World → Prop) : Plan → Sl → World → Prop
  | [], M, w => X M w
  | (c, new, pend) :: l, M, w => ∃ o, ops[c]? = some o ∧
    ((wantB n ops o M = true ∧ Ow P n o (fun M' w' => Af P n ops new pend (Cw P n ops X Q l) M' w') Q M w) ∨ (wantB n ops o M = false ∧ Af P n ops new pend (Cw P n ops X Q l) (pt o.dst undef M) w))
/-- The order that is drawn. -/
def sched (md : Region.Mode) (ops : Array Oper) : Nat → Nat → Array Bool → List Nat
  | 0, _, _ => []
  | fuel + 1, t, listed =>
    let rs := (List.range ops.size).filter fun i => !listed.getD i true && ((ops[i]?).map (·.after.all fun e => !Region.binds md e || listed.getD e.on false)).getD false
    match rs[t % rs.length]? with
    | some i => i :: sched md ops fuel (t / rs.length) (listed.setIfInBounds i true)
    | none => []
theorem go_sched (md : Region.Mode) (ops : Array Oper) : ∀ (fuel t : Nat) (listed : Array Bool) (acc : List Nat), Region.linearise.go md ops fuel t listed acc = acc.reverse ++ sched md ops fuel t listed
  | 0, t, listed, acc => by simp [Region.linearise.go, sched]
  | fuel + 1, t, listed, acc => by
    unfold Region.linearise.go sched
    dsimp only
    split
    · rename_i i hi
      rw [hi, go_sched md ops fuel]
      simp
    · rename_i hi
      rw [hi]
      simp
theorem schedule_modes (mixed : Bool) (t : Nat) : ∃ md t', Region.schedule mixed ops t = sched md ops ops.size t' (Array.replicate ops.size false) ∧ (md = .any ∨ (Region.departs ops = true ∧ (md = .text ∨ md = .gc))) := by
  unfold Region.schedule
  split
  · exact ⟨.any, t, by simp [Region.linearise, go_sched], .inl rfl⟩
  · rename_i h
    have hd : Region.departs ops = true := by
      simp only [Bool.or_eq_true, Bool.not_eq_true', not_or, Bool.not_eq_false] at h
      exact h.2
    split
    · exact ⟨.text, t / 2, by simp [Region.linearise, go_sched], .inr ⟨hd, .inl rfl⟩⟩
    · exact ⟨.gc, t / 2, by simp [Region.linearise, go_sched], .inr ⟨hd, .inr rfl⟩⟩
theorem binds_any {md : Region.Mode} {e : Edge} (h : Region.binds .any e = true) : Region.binds md e = true := by
  unfold Region.binds at h ⊢
  split at h
  · exact absurd h (by decide)
  · exact absurd h (by decide)
  · rfl
theorem mem_tmpsOf {o : Oper} {t : Nat} (h : Operand.tmp t ∈ o.op.operands) : t ∈ tmpsOf o := by
  unfold tmpsOf
  rw [List.mem_filterMap]
  exact ⟨.tmp t, by simpa using h, rfl⟩
theorem ev_agree {m M : Sl} {o : Oper} (h : ∀ t, Operand.tmp t ∈ o.op.operands → lk m t = lk M t) : ∀ x ∈ o.op.operands, ev n m x = ev n M x := by
  intro x hx
  cases x with
  | tmp t =>
    show (bif Nat.blt t n then lk m t else undef) = (bif Nat.blt t n then lk M t else undef)
    rw [h t hx]
  | const v => rfl
  | global g => rfl
  | func f => rfl
theorem lk_pt_other {d : Option Nat} {v : Value} {m : Sl} {t : Nat} (h : d ≠ some t) : lk (pt d v m) t = lk m t := by
  cases d with
  | none => rfl
  | some d =>
    show lk ((d, v) :: m) t = _
    rw [lk_cons, if_neg (fun e => h (by rw [e]))]
theorem lk_pt_same {d : Nat} {v : Value} {m : Sl} : lk (pt (some d) v m) d = v := by
  show lk ((d, v) :: m) d = _
  rw [lk_cons, if_pos rfl]

theorem yielded_agree {m M : Sl} {j : Nat} (h : ∀ d, dstOf ops j = some d → lk m d = lk M d) : yielded ops (fr n m) j = yielded ops (fr n M) j := by
  unfold yielded
  unfold dstOf at h
  cases e : (ops[j]?).bind (·.dst) with
  | none => rfl
  | some d => simp only [Option.bind_some, fr_at, h d e]
theorem wanted_agree {m M : Sl} {o : Oper} (h : ∀ j d, guardIs o j = true → dstOf ops j = some d → lk m d = lk M d) : wantB n ops o m = wantB n ops o M := by
  unfold wantB Region.wanted
  cases hg : o.guard with
  | none => rfl
  | some q =>
    obtain ⟨j, v⟩ := q
    simp only
    rw [yielded_agree (fun d hd => h j d (by simp [guardIs, hg]) hd)]
theorem getD_set {a : Array Bool} {i j : Nat} {d : Bool} (hi : i < a.size) : (a.setIfInBounds i true).getD j d = if i = j then true else a.getD j d := by
  simp only [Array.getD_eq_getD_getElem?, Array.getElem?_setIfInBounds]
  by_cases h : i = j
  · subst h
    simp [hi]
  · simp [h]
theorem lk_keys {E : Sl} {new : List Nat} {t : Nat} (hE : keysOk ops E new = true) (ht : ∀ p ∈ new, dstOf ops p ≠ some t) (M : Sl) : lk (E ++ M) t = lk M t := by
  induction E with
  | nil => rfl
  | cons q E ih =>
    simp only [keysOk, List.all_cons, Bool.and_eq_true] at hE
    obtain ⟨p, hpm, hpe⟩ := List.any_eq_true.1 hE.1
    show lk ((q.1, q.2) :: (E ++ M)) t = _
    rw [lk_cons, if_neg, ih hE.2]
    intro e
    refine ht p hpm ?_
    rw [← e]
    exact eq_of_beq hpe
/-- Behind the first of the chain each has an edge on one that comes later, too. -/
theorem later_edge : ∀ (plan : Plan) (done : List Nat) (prev : List Nat), planOk ops done prev plan = true → ∀ i ∈ later plan, (∃ c new pend l, plan = (c, new, pend) :: l ∧ i = c) ∨ ∃ j ∈ later plan, edgeAt ops i j = true
  | [], _, _, _, i, hi => by simp [later] at hi
  | (c, new, pend) :: l, done, prev, h, i, hi => by
    simp only [planOk, Bool.and_eq_true] at h
    obtain ⟨⟨⟨⟨h1, h2⟩, h3⟩, h4⟩, h5⟩ := h
    simp only [later, List.mem_cons, List.mem_append] at hi ⊢
    rcases hi with rfl | hi | hi
    · exact .inl ⟨_, _, _, _, rfl, rfl⟩
    · right
      have := List.all_eq_true.1 h4 i hi
      simp only [Bool.or_eq_true, List.any_eq_true] at this
      rcases this with h | ⟨q, hq, h⟩
      · exact ⟨c, .inl rfl, h⟩
      · exact ⟨q, .inr (.inl hq), h⟩
    · right
      rcases later_edge l _ _ h5 i hi with ⟨c', new', pend', l', rfl, rfl⟩ | ⟨j, hj, h⟩
      · simp only [planOk, Bool.and_eq_true] at h5
        have h6 := h5.1.1.1.1
        simp only [List.isEmpty_cons, Bool.false_or, List.any_eq_true, List.mem_cons] at h6
        obtain ⟨q, rfl | hq, h6⟩ := h6
        · exact ⟨q, .inl rfl, h6⟩
        · exact ⟨q, .inr (.inl hq), h6⟩
      · exact ⟨j, .inr (.inr hj), h⟩

theorem topo_bound {md : Region.Mode} : ∀ (l done : List Nat), topoB md ops done l = true → (∀ i ∈ done, i < ops.size) → (∀ i ∈ l, i < ops.size) → ∀ i ∈ l, ∀ o, ops[i]? = some o → ∀ e ∈ o.after, Region.binds md e = true → e.on < ops.size
  | [], _, _, _, _, i, hi => by cases hi
  | x :: l, done, h, hd, hl, i, hi => by
    simp only [topoB, Bool.and_eq_true] at h
    rcases List.mem_cons.1 hi with rfl | hi
    · intro o ho e he hbd
      obtain ⟨o', ho', h2⟩ := (Option.any_eq_true _ _).1 h.1
      rw [ho] at ho'
      cases ho'
      have h3 := Array.all_eq_true'.1 h2 e he
      rw [hbd] at h3
      exact hd _ (List.contains_iff_mem.1 (by simpa using h3))
    · refine topo_bound l (x :: done) h.2 (fun j hj => ?_) (fun j hj => hl j (List.mem_cons_of_mem _ hj)) i hi
      rcases List.mem_cons.1 hj with rfl | hj
      · exact hl j (List.mem_cons_self ..)
      · exact hd j hj
theorem topo_first {md : Region.Mode} {Q : Nat → Prop} [DecidablePred Q] : ∀ (l done : List Nat), topoB md ops done l = true → (∀ i ∈ done, Q i) → (∃ i ∈ l, ¬ Q i) → ∃ i ∈ l, ¬ Q i ∧ ∃ o, ops[i]? = some o ∧ ∀ e ∈ o.after, Region.binds md e = true → Q e.on
  | [], _, _, _, ⟨i, hi, _⟩ => by cases hi
  | x :: l, done, h, hd, ⟨i, hi, hq⟩ => by
    simp only [topoB, Bool.and_eq_true] at h
    by_cases hx : Q x
    · have hi' : i ∈ l := by
        rcases List.mem_cons.1 hi with rfl | hi
        · exact absurd hx hq
        · exact hi
      obtain ⟨j, hj, h1⟩ := topo_first l (x :: done) h.2 (fun j hj => by
        rcases List.mem_cons.1 hj with rfl | hj
        · exact hx
        · exact hd j hj) ⟨i, hi', hq⟩
      exact ⟨j, List.mem_cons_of_mem _ hj, h1⟩
    · obtain ⟨o, ho, h2⟩ := (Option.any_eq_true _ _).1 h.1
      exact ⟨x, List.mem_cons_self .., hx, o, ho, fun e he hbd => hd _ (List.contains_iff_mem.1 (by have h3 := Array.all_eq_true'.1 h2 e he; rw [hbd] at h3; simpa using h3))⟩
/-- What is known where some operations have been carried out. -/
structure Mid (P : Program) (n : Nat) (ops : Array Oper) (X : Sl → World → Prop) (Q : List PanicEntry → World → Prop) (done : List Nat) (prev : List Nat) (plan : Plan) (pend : List Nat) (listed : Array Bool) (m M : Sl) (w : World) : Prop where
  ok : planOk ops done prev plan = true
  nd : (done ++ later plan).Nodup
  cov : ∀ i, i < ops.size → i ∈ done ++ later plan
  bnd : ∀ i ∈ done ++ later plan, i < ops.size
  sub : ∀ p ∈ pend, p ∈ done
  size : listed.size = ops.size
  closed : ∀ i, listed.getD i false = true → ∀ j, edgeAt ops i j = true → listed.getD j false = true
  sure : ∀ u ∈ done, u ∉ pend → listed.getD u false = true
  lat : ∀ u ∈ later plan, listed.getD u false = false
  agree : ∀ t, (∀ p ∈ pend, listed.getD p false = false → dstOf ops p ≠ some t) → lk m t = lk M t
  know : ∃ F : World → Prop, F w ∧ ∀ p ∈ pend, listed.getD p false = false → Kn P n ops F M p
  rest : Cw P n ops X Q plan M w

theorem draw_go {md : Region.Mode} {Q : List PanicEntry → World → Prop}
    (hops : ∀ i, i < ops.size → ∃ o, ops[i]? = some o ∧ isDf o.op = false ∧ isSel o.op = false)
    {ord : List Nat} (htopo : topoB md ops [] ord = true) (hcov0 : ∀ i, i < ops.size → i ∈ ord) (hbnd0 : ∀ i ∈ ord, i < ops.size)
    (hrd : ∀ (i j : Nat) (o : Oper), i < ops.size → j < ops.size → ops[i]? = some o → (guardIs o j = true → edgeOn o j = true) ∧ ∀ d, dstOf ops j = some d → (d ∈ tmpsOf o → edgeOn o j = true) ∧ (i = j ∨ dstOf ops i ≠ some d))
    (hgj : ∀ (i j : Nat) (o : Oper), ops[i]? = some o → guardIs o j = true → j < ops.size ∨ dstOf ops j = none)
    (hQ : ∀ ch w', Q ch w' → Pk G b ch ds cs w') :
    ∀ (fuel t : Nat) (listed : Array Bool) (done : List Nat) (prev : List Nat) (plan : Plan) (pend : List Nat) (m M : Sl) (w : World),
      Mid P n ops (fun m' w' => St G b n m' ds k cs w') Q done prev plan pend listed m M w → (List.range ops.size).countP (fun i => !listed.getD i true) = fuel →
      St G b n m ds (.inRegion ops (sched md ops fuel t listed) :: k) cs w := by
  intro fuel
  induction fuel with
  | zero =>
    intro t listed done prev plan pend m M w hM hc
    have hall : ∀ i, i < ops.size → listed.getD i false = true := by
      intro i hi
      have h1 := List.countP_eq_zero.1 hc i (List.mem_range.2 hi)
      have h2 : i < listed.size := by rw [hM.size]; exact hi
      simp only [Array.getD_eq_getD_getElem?, Array.getElem?_eq_getElem h2, Option.getD_some] at h1 ⊢
      simpa using h1
    have hl : plan = [] := by
      cases plan with
      | nil => rfl
      | cons q plan =>
        obtain ⟨c, new, pe⟩ := q
        have hcm : c ∈ later ((c, new, pe) :: plan) := by simp [later]
        have h1 := hM.lat c hcm
        have h2 := hall c (hM.bnd c (List.mem_append_right _ hcm))
        rw [h1] at h2
        cases h2
    subst hl
    have hr := hM.rest
    simp only [Cw] at hr
    refine st_done (St.congr (fun t _ => hM.agree t (fun p hpm hf => ?_)) hr)
    have := hall p (hM.bnd p (List.mem_append_left _ (hM.sub p hpm)))
    rw [hf] at this
    cases this
  | succ fuel ih =>
    intro t listed done prev plan pend m M w hM hc
    unfold sched
    dsimp only
    generalize hrs : (List.range ops.size).filter (fun i => !listed.getD i true && ((ops[i]?).map (·.after.all fun e => !Region.binds md e || listed.getD e.on false)).getD false) = rs
    have hne : rs ≠ [] := by
      have hex : ∃ i, i < ops.size ∧ listed.getD i true = false := by
        have : 0 < (List.range ops.size).countP (fun i => !listed.getD i true) := by omega
        obtain ⟨i, hi, h2⟩ := List.countP_pos_iff.1 this
        exact ⟨i, List.mem_range.1 hi, by simpa using h2⟩
      obtain ⟨i0, hi0, hu0⟩ := hex
      obtain ⟨i, him, hiq, o, ho1, ho⟩ := topo_first (ops := ops) (Q := fun i => listed.getD i true = true) _ [] htopo (fun _ h => by cases h) ⟨i0, hcov0 i0 hi0, by rw [hu0]; simp⟩
      have hi := hbnd0 i him
      have h2 : listed.getD i true = false := by simpa using hiq
      intro he
      have : i ∈ rs := by
        rw [← hrs, List.mem_filter]
        refine ⟨List.mem_range.2 hi, ?_⟩
        rw [h2, ho1]
        simp only [Bool.not_false, Bool.true_and, Option.map_some, Option.getD_some, Array.all_eq_true']
        intro e he2
        cases hbd : Region.binds md e with
        | false => rfl
        | true =>
        have h5 := ho e he2 hbd
        by_cases h6 : e.on < listed.size
        · simp only [Array.getD_eq_getD_getElem?, Array.getElem?_eq_getElem h6, Option.getD_some] at h5 ⊢
          simp [h5]
        · exfalso
          have h7 : e.on < ops.size := by
            have := topo_bound _ [] htopo (fun _ h => by cases h) hbnd0 i him o ho1 e he2 hbd
            exact this
          rw [hM.size] at h6
          exact h6 h7
      rw [he] at this
      cases this
    have hlen : 0 < rs.length := List.length_pos_iff.2 hne
    have hlt : t % rs.length < rs.length := Nat.mod_lt _ hlen
    rw [List.getElem?_eq_getElem hlt]
    dsimp only
    have hmem : rs[t % rs.length] ∈ rs := List.getElem_mem hlt
    generalize rs[t % rs.length] = i at hmem
    rw [← hrs, List.mem_filter] at hmem
    obtain ⟨hir, hi2⟩ := hmem
    have hi : i < ops.size := List.mem_range.1 hir
    obtain ⟨o, ho, hdf, hsel⟩ := hops i hi
    rw [ho] at hi2
    simp only [Bool.and_eq_true, Bool.not_eq_true', Option.map_some, Option.getD_some, Array.all_eq_true'] at hi2
    obtain ⟨hun, hpre⟩ := hi2
    have hsz : i < listed.size := by rw [hM.size]; exact hi
    have hunf : listed.getD i false = false := by
      simp only [Array.getD_eq_getD_getElem?, Array.getElem?_eq_getElem hsz, Option.getD_some] at hun ⊢
      exact hun
    have hedge : ∀ j, edgeOn o j = true → listed.getD j false = true := by
      intro j hj
      unfold edgeOn at hj
      obtain ⟨e, he, h2⟩ := Array.any_eq_true'.1 hj
      simp only [Bool.and_eq_true] at h2
      have h3 := hpre e he
      rw [binds_any h2.1] at h3
      have h4 : e.on = j := Nat.eq_of_beq_eq_true h2.2
      rw [h4] at h3
      simpa using h3
    have hedgeAt : ∀ j, edgeAt ops i j = true → listed.getD j false = true := by
      intro j hj
      unfold edgeAt at hj
      rw [ho] at hj
      exact hedge j (by simpa using hj)
    have hcount : (List.range ops.size).countP (fun j => !(listed.setIfInBounds i true).getD j true) = fuel := by
      have h1 : (List.range ops.size).countP (fun j => !listed.getD j true) = (List.range ops.size).countP (fun j => !(listed.setIfInBounds i true).getD j true) + 1 := by
        have key : ∀ L : List Nat, L.Nodup → i ∈ L → L.countP (fun j => !listed.getD j true) = L.countP (fun j => !(listed.setIfInBounds i true).getD j true) + 1 := by
          intro L
          induction L with
          | nil => intro _ h; cases h
          | cons a L ihL =>
            intro hnd hin
            rw [List.nodup_cons] at hnd
            rw [List.countP_cons, List.countP_cons, getD_set hsz]
            by_cases ha : i = a
            · subst ha
              have : L.countP (fun j => !listed.getD j true) = L.countP (fun j => !(listed.setIfInBounds i true).getD j true) := by
                apply List.countP_congr
                intro j hj
                have hij : i ≠ j := by
                  rintro rfl
                  exact hnd.1 hj
                rw [getD_set hsz, if_neg hij]
              rw [this, hun]
              simp
            · rcases List.mem_cons.1 hin with h | h
              · exact absurd h ha
              · rw [ihL hnd.2 h, if_neg ha]
                omega
        exact key _ List.nodup_range (List.mem_range.2 hi)
      omega
    -- the slot of one that has been carried out reads as told
    have hslot : ∀ j d, j < ops.size → dstOf ops j = some d → listed.getD j false = true → lk m d = lk M d := by
      intro j d hj hd hlj
      refine hM.agree d fun p hpm hpf e => ?_
      have hpb := hM.bnd p (List.mem_append_left _ (hM.sub p hpm))
      obtain ⟨op, hop, _⟩ := hops p hpb
      rcases ((hrd p j op hpb hj hop).2 d hd).2 with rfl | h
      · rw [hpf] at hlj
        cases hlj
      · exact h e
    have hreads : ∀ x ∈ o.op.operands, ev n m x = ev n M x := by
      refine ev_agree fun t ht => ?_
      by_cases hw : ∃ j, j < ops.size ∧ dstOf ops j = some t
      · obtain ⟨j, hj, hd⟩ := hw
        exact hslot j t hj hd (hedge j (((hrd i j o hi hj ho).2 t hd).1 (mem_tmpsOf ht)))
      · refine hM.agree t fun p hpm _ e => hw ⟨p, hM.bnd p (List.mem_append_left _ (hM.sub p hpm)), e⟩
    have hwant : wantB n ops o m = wantB n ops o M := by
      refine wanted_agree fun j d hg hd => ?_
      rcases hgj i j o ho hg with hj | hj
      · exact hslot j d hj hd (hedge j ((hrd i j o hi hj ho).1 hg))
      · rw [hj] at hd
        cases hd
    have hgetset : ∀ j d, (listed.setIfInBounds i true).getD j d = if i = j then true else listed.getD j d := fun j d => getD_set hsz
    have hclosed : ∀ i', (listed.setIfInBounds i true).getD i' false = true → ∀ j, edgeAt ops i' j = true → (listed.setIfInBounds i true).getD j false = true := by
      intro i' h j hj
      rw [hgetset] at h ⊢
      split
      · rfl
      · split at h
        · rename_i e
          subst e
          exact hedgeAt j hj
        · exact hM.closed i' h j hj
    by_cases hip : i ∈ pend
    · -- it only reads
      obtain ⟨F, hF, hK⟩ := hM.know
      obtain ⟨o', d, ho', hd, hK'⟩ := hK i hip hunf
      obtain rfl : o = o' := by rw [ho] at ho'; exact Option.some.inj ho'
      have hMid : ∀ v, v = lk M d → Mid P n ops (fun m' w' => St G b n m' ds k cs w') Q done prev plan pend (listed.setIfInBounds i true) ((d, v) :: m) M w := by
        rintro v rfl
        refine ⟨hM.ok, hM.nd, hM.cov, hM.bnd, hM.sub, by simpa using hM.size, hclosed, fun u hu hup => ?_, fun u hu => ?_, fun t ht => ?_, ⟨F, hF, fun p hpm hpf => hK p hpm ?_⟩, hM.rest⟩
        · rw [hgetset]
          split
          · rfl
          · exact hM.sure u hu hup
        · rw [hgetset, if_neg, hM.lat u hu]
          rintro rfl
          have h1 := hM.sub i hip
          exact (List.nodup_append.1 hM.nd).2.2 i h1 i hu rfl
        · rw [lk_cons]
          split
          · rename_i e
            rw [e]
          · rename_i e
            refine hM.agree t fun p hpm hpf e2 => ?_
            by_cases hpi : i = p
            · subst hpi
              have : dstOf ops i = some d := by unfold dstOf; rw [ho]; exact hd
              rw [this] at e2
              exact e (Option.some.inj e2)
            · exact ht p hpm (by rw [hgetset, if_neg hpi]; exact hpf) e2
        · rw [hgetset] at hpf
          split at hpf
          · cases hpf
          · exact hpf
      rcases hK' with ⟨hwt, hrun⟩ | ⟨hwt, hval⟩
      · refine st_op ho (hwant.trans hwt) hdf ?_
        refine Ow.transfer hsel hreads (hrun w hF) (fun v w' hx => ?_) (fun ch w' hf => hf.elim)
        obtain ⟨hx1, rfl⟩ := hx
        rw [hd] at hx1 ⊢
        have hv : v = lk M d := by
          have h3 : (d, v) :: M = (d, lk M d) :: M := hx1
          exact (Prod.mk.inj (List.cons.inj h3).1).2
        exact ih _ _ _ _ _ _ _ _ _ (hMid v hv) hcount
      · refine st_pass (by rw [ho]; exact hwant.trans hwt) ?_
        have : (ops[i]?).bind (·.dst) = some d := by rw [ho]; exact hd
        rw [this]
        exact ih _ _ _ _ _ _ _ _ _ (hMid undef hval.symm) hcount
    · -- it is the chain's next
      have hin := hM.cov i hi
      rcases List.mem_append.1 hin with hid | hil
      · have := hM.sure i hid hip
        rw [hunf] at this
        cases this
      · rcases later_edge plan done prev hM.ok i hil with ⟨c, new, pend', l, rfl, rfl⟩ | ⟨j, hj, he⟩
        rotate_left
        · have h1 := hedgeAt j he
          rw [hM.lat j hj] at h1
          cases h1
        have hok := hM.ok
        simp only [planOk, Bool.and_eq_true] at hok
        obtain ⟨⟨⟨⟨_, hsure⟩, hsub⟩, _⟩, hok'⟩ := hok
        have hnd := hM.nd
        simp only [later] at hnd
        have hr := hM.rest
        simp only [Cw] at hr
        obtain ⟨o', ho', how⟩ := hr
        obtain rfl : o = o' := by rw [ho] at ho'; exact Option.some.inj ho'
        -- what must have been carried out before
        have hdone : ∀ u ∈ done, u ∉ pend' → listed.getD u false = true := by
          have key : ∀ d : List Nat, sureL ops i pend' d = true → ∀ u ∈ d, u ∉ pend' → listed.getD u false = true := by
            intro d
            induction d with
            | nil => intro _ u hu; cases hu
            | cons x d ihd =>
              intro h1 u hu hup
              simp only [sureL, Bool.and_eq_true, Bool.or_eq_true, List.any_eq_true, Bool.not_eq_true'] at h1
              rcases List.mem_cons.1 hu with rfl | hu
              · rcases h1.1 with (h2 | h2) | ⟨v, hv, h3, h4⟩
                · exact absurd (List.contains_iff_mem.1 h2) hup
                · exact hedgeAt u h2
                · have hvp : v ∉ pend' := fun h => by rw [List.contains_iff_mem.2 h] at h3; cases h3
                  exact hM.closed v (ihd h1.2 v hv hvp) u h4
              · exact ihd h1.2 u hu hup
          exact key done hsure
        have hAf : ∀ v w', Af P n ops new pend' (Cw P n ops (fun m' w' => St G b n m' ds k cs w') Q l) (pt o.dst v M) w' → St G b n (pt o.dst v m) ds (.inRegion ops (sched md ops fuel (t / rs.length) (listed.setIfInBounds i true)) :: k) cs w' := by
          intro v w' hA
          obtain ⟨E, F, hE, hF, hK, hC⟩ := hA
          have hci : i ∉ done := fun h => (List.nodup_append.1 hnd).2.2 i h i (List.mem_cons_self ..) rfl
          have hcl : i ∉ new ++ later l := (List.nodup_cons.1 (List.nodup_append.1 hnd).2.1).1
          refine ih _ _ (done ++ i :: new) (i :: new) l (pend' ++ new) _ (E ++ pt o.dst v M) w' ⟨hok', by simpa using hnd, fun j hj => ?_, fun j hj => hM.bnd j ?_, fun p hp => ?_, by simpa using hM.size, hclosed, fun u hu hup => ?_, fun u hu => ?_, fun t ht => ?_, ⟨F, hF, fun p hpm _ => hK.mem p hpm⟩, hC⟩ hcount
          · have := hM.cov j hj
            simpa [later] using this
          · simpa [later] using hj
          · rcases List.mem_append.1 hp with hp | hp
            · exact List.mem_append_left _ (List.contains_iff_mem.1 (List.all_eq_true.1 hsub p hp))
            · exact List.mem_append_right _ (List.mem_cons_of_mem _ hp)
          · rw [hgetset]
            split
            · rfl
            · rename_i hne2
              rcases List.mem_append.1 hu with h1 | h1
              · exact hdone u h1 (fun h => hup (List.mem_append_left _ h))
              · rcases List.mem_cons.1 h1 with h1 | h1
                · exact absurd h1.symm hne2
                · exact absurd (List.mem_append_right _ h1) hup
          · rw [hgetset, if_neg, hM.lat u (by simp [later, hu])]
            rintro rfl
            exact hcl (List.mem_append_right _ hu)
          · have hnew : ∀ p ∈ new, dstOf ops p ≠ some t := by
              intro p hp e
              refine ht p (List.mem_append_right _ hp) ?_ e
              rw [hgetset, if_neg, hM.lat p (by simp [later, hp])]
              rintro rfl
              exact hcl (List.mem_append_left _ hp)
            rw [lk_keys hE hnew]
            by_cases hdt : o.dst = some t
            · rw [hdt, lk_pt_same, lk_pt_same]
            · rw [lk_pt_other hdt, lk_pt_other hdt]
              refine hM.agree t fun p hpm hpf e => ?_
              have hpd := hM.sub p hpm
              by_cases hpp : p ∈ pend'
              · refine ht p (List.mem_append_left _ hpp) ?_ e
                rw [hgetset, if_neg, hpf]
                rintro rfl
                exact hci hpd
              · have := hdone p hpd hpp
                rw [hpf] at this
                cases this
        rcases how with ⟨hwt, how⟩ | ⟨hwt, hA⟩
        · refine st_op ho (hwant.trans hwt) hdf ?_
          exact Ow.transfer hsel hreads how (fun v w' hx => hAf v w' hx) (fun ch w' hq => (hQ ch w' hq).one)
        · refine st_pass (by rw [ho]; exact hwant.trans hwt) ?_
          have : (ops[i]?).bind (·.dst) = o.dst := by rw [ho]; rfl
          rw [this]
          exact hAf undef w hA
theorem st_draw {p0 : List Nat} {plan : Plan} {F : World → Prop} {l : List Oper} (oT oG : List Nat) (E : Sl) (hok : drawOk l.toArray p0 plan oT oG = true) (hE : keysOk l.toArray E p0 = true)
    (hp : AllKn P n l.toArray F (E ++ m) p0) (hF : F w.drew) (hc : Cw P n l.toArray (fun m' w' => St G b n m' ds k cs w') (fun ch w' => Pk G b ch ds cs w') plan (E ++ m) w.drew) : St G b n m ds (.code (.region id l.toArray true) :: k) cs w := by
  simp only [drawOk, Bool.and_eq_true, Bool.or_eq_true, Bool.not_eq_true', List.all_eq_true, List.mem_range] at hok
  obtain ⟨⟨⟨⟨⟨⟨⟨hdep, hcov⟩, hnd⟩, hbnd⟩, hops⟩, htopo⟩, hplan⟩, hdst⟩ := hok
  refine G.back _ _ stepR_region_draw ?_
  obtain ⟨md, t', hsch, hmd⟩ := schedule_modes (ops := l.toArray) (P.follows .mixedOrders) (w.tape w.drawn (.order b.fn id))
  rw [hsch]
  obtain ⟨ord, hord⟩ : ∃ ord, ordOk md l.toArray ord = true := by
    rcases hmd with rfl | ⟨h1, rfl | rfl⟩
    · exact ⟨_, htopo⟩
    · rcases hdep with h2 | h2
      · rw [h1] at h2
        cases h2
      · exact ⟨_, h2.1⟩
    · rcases hdep with h2 | h2
      · rw [h1] at h2
        cases h2
      · exact ⟨_, h2.2⟩
  simp only [ordOk, Bool.and_eq_true, List.all_eq_true, List.mem_range] at hord
  obtain ⟨⟨htopo, hcov1⟩, hbnd1⟩ := hord
  have hops' : ∀ i, i < l.toArray.size → ∃ o, l.toArray[i]? = some o ∧ isDf o.op = false ∧ isSel o.op = false := by
    intro i hi
    have h1 := hops i hi
    obtain ⟨o, ho, h2⟩ : ∃ o, l.toArray[i]? = some o ∧ _ := (Option.any_eq_true _ _).1 h1
    simp only [Bool.and_eq_true, Bool.not_eq_true'] at h2
    exact ⟨o, ho, h2.1, h2.2⟩
  have hrd' : ∀ i j o, i < l.toArray.size → j < l.toArray.size → l.toArray[i]? = some o → (guardIs o j = true → edgeOn o j = true) ∧ ∀ d, dstOf l.toArray j = some d → (d ∈ tmpsOf o → edgeOn o j = true) ∧ (i = j ∨ dstOf l.toArray i ≠ some d) := by
    intro i j o hi hj ho
    have h1 := hdst i hi j hj
    rw [ho] at h1
    simp only [Option.any_some, Bool.and_eq_true, Bool.or_eq_true, Bool.not_eq_true'] at h1
    refine ⟨fun hg => ?_, fun d hd => ?_⟩
    · rcases h1.1 with h2 | h2
      · rw [hg] at h2
        cases h2
      · exact h2
    · have h2 := h1.2
      rw [hd] at h2
      simp only [Bool.and_eq_true, Bool.or_eq_true, Bool.not_eq_true'] at h2
      refine ⟨fun hm => ?_, ?_⟩
      · rcases h2.1 with h3 | h3
        · rw [List.contains_iff_mem.2 hm] at h3
          cases h3
        · exact h3
      · rcases h2.2 with h3 | h3
        · exact .inl (Nat.eq_of_beq_eq_true h3)
        · exact .inr (by simpa using h3)
  refine draw_go hops' htopo (fun i hi => List.contains_iff_mem.1 (hcov1 i hi)) (fun i hi => by have := hbnd1 i hi; simpa [Nat.blt_eq] using this) hrd' (fun i j o ho hg => ?_) (fun ch w' h => h) l.toArray.size _ _ p0 [] plan p0 m (E ++ m) w.drew
    ⟨hplan, nodupB_nodup hnd, fun i hi => List.contains_iff_mem.1 (hcov i hi), fun i hi => by have := hbnd i hi; simpa [Nat.blt_eq] using this, fun p hp => hp, by simp, fun i hi => ?_, fun u hu hup => absurd hu hup, fun u _ => ?_, fun t ht => ?_, ⟨F, hF, fun p hpm _ => hp.mem p hpm⟩, hc⟩ ?_
  · by_cases hj : j < l.toArray.size
    · exact .inl hj
    · right
      unfold dstOf
      rw [Array.getElem?_eq_none (by omega)]
      rfl
  · exfalso
    simp only [Array.getD_eq_getD_getElem?, Array.getElem?_replicate] at hi
    split at hi <;> cases hi
  · simp only [Array.getD_eq_getD_getElem?, Array.getElem?_replicate]
    split <;> rfl
  · refine (lk_keys hE (fun p hpm => ht p hpm ?_) m).symm
    simp only [Array.getD_eq_getD_getElem?, Array.getElem?_replicate]
    split <;> rfl
  · rw [List.countP_eq_length_filter]
    have : (List.range l.toArray.size).filter (fun i => !(Array.replicate l.toArray.size false).getD i true) = List.range l.toArray.size := by
      apply List.filter_eq_self.2
      intro i hi
      have hi' := List.mem_range.1 hi
      simp only [Array.getD_eq_getD_getElem?, Array.getElem?_replicate, if_pos hi']
      rfl
    rw [this, List.length_range]

/-! ### As it is used -/
theorem wantB_none {o : Oper} {M : Sl} (hg : o.guard = none) : wantB n ops o M = true := by simp [wantB, Region.wanted, hg]
theorem wantB_some {o oj : Oper} {M : Sl} {j d : Nat} {v u : Bool} (hg : o.guard = some (j, v)) (hj : ops[j]? = some oj) (hd : oj.dst = some d) (hn : Nat.blt d n = true) (hv : lk M d = .bool u) : wantB n ops o M = (u == v) := by
  simp [wantB, Region.wanted, hg, yielded_fr hj hd hn hv]
theorem wantB_undef {o oj : Oper} {M : Sl} {j d : Nat} {v : Bool} (hg : o.guard = some (j, v)) (hj : ops[j]? = some oj) (hd : oj.dst = some d) (hn : Nat.blt d n = true) (hv : lk M d = undef) : wantB n ops o M = false := by
  have hlt : d < n := by simpa [Nat.blt_eq] using hn
  simp [wantB, Region.wanted, hg, yielded, hj, hd, fr_at, hlt, hv, undef]
theorem kn_op {F : World → Prop} {M : Sl} {p : Nat} {o : Oper} {d : Nat} (ho : ops[p]? = some o) (hd : o.dst = some d) (hw : wantB n ops o M = true) (h : ∀ w, F w → Ow P n o (fun m' w' => m' = (d, lk M d) :: M ∧ w' = w) (fun _ _ => False) M w) : Kn P n ops F M p := ⟨o, d, ho, hd, .inl ⟨hw, h⟩⟩
theorem kn_pass {F : World → Prop} {M : Sl} {p : Nat} {o : Oper} {d : Nat} (ho : ops[p]? = some o) (hd : o.dst = some d) (hw : wantB n ops o M = false) (h : lk M d = undef) : Kn P n ops F M p := ⟨o, d, ho, hd, .inr ⟨hw, h⟩⟩
theorem cw_nil {X : Sl → World → Prop} {Q : List PanicEntry → World → Prop} {M : Sl} (h : X M w) : Cw P n ops X Q [] M w := h
theorem cw_op {X : Sl → World → Prop} {Q : List PanicEntry → World → Prop} {M : Sl} {c : Nat} {new pend : List Nat} {l : Plan} {o : Oper} (ho : ops[c]? = some o) (hw : wantB n ops o M = true)
    (h : Ow P n o (fun M' w' => Af P n ops new pend (Cw P n ops X Q l) M' w') Q M w) : Cw P n ops X Q ((c, new, pend) :: l) M w := ⟨o, ho, .inl ⟨hw, h⟩⟩
theorem cw_pass {X : Sl → World → Prop} {Q : List PanicEntry → World → Prop} {M : Sl} {c : Nat} {new pend : List Nat} {l : Plan} {o : Oper} (ho : ops[c]? = some o) (hw : wantB n ops o M = false)
    (h : Af P n ops new pend (Cw P n ops X Q l) (pt o.dst undef M) w) : Cw P n ops X Q ((c, new, pend) :: l) M w := ⟨o, ho, .inr ⟨hw, h⟩⟩
theorem af_none {C : Sl → World → Prop} {M : Sl} (h : C M w) : Af P n ops [] [] C M w := ⟨[], fun _ => True, rfl, trivial, trivial, h⟩
theorem af_some {new pend : List Nat} {C : Sl → World → Prop} {M : Sl} (E : Sl) (F : World → Prop) (hE : keysOk ops E new = true) (hF : F w) (hk : AllKn P n ops F (E ++ M) (pend ++ new)) (h : C (E ++ M) w) : Af P n ops new pend C M w := ⟨E, F, hE, hF, hk, h⟩
end
end Go.Proofs.YtghmjnbpkobooaaGreatDoor
