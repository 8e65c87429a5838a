/-
  The machine's side, kept apart from any one function: goals that a step of the machine may be taken back from, frames as lists of slots, regions, calls. Plain theorems over whatever program.
-/
import Derived.WalkKit
import Derived.CallsIn
set_option linter.unusedVariables false
set_option linter.unusedSimpArgs false
namespace Go.Proofs.YtghmjnbpkobooaaGreatDoor
open Go Go.RowKit

/-! ### Goals that abide a step taken back -/
structure Gd (P : Program) where
  ok : Machine → Prop
  back : ∀ m m', step P m = .next m' → ok m' → ok m

/-! ### Frames as lists of slots; the last written stands first -/
abbrev Sl := List (Nat × Value)
def lk : Sl → Nat → Value
  | [], _ => undef
  | p :: m, t => bif Nat.beq p.1 t then p.2 else lk m t
def fr (n : Nat) (m : Sl) : Array Value := Array.ofFn fun i : Fin n => lk m i.val
def ev (n : Nat) (m : Sl) : Operand → Value
  | .tmp t => bif Nat.blt t n then lk m t else undef
  | .const v => v
  | .global g => .pointer (some ⟨g, 0, none⟩)
  | .func f => .func (.func f) #[] #[]
def pt : Option Nat → Value → Sl → Sl
  | some d, v, m => (d, v) :: m
  | none, _, m => m

theorem fr_size (n : Nat) (m : Sl) : (fr n m).size = n := by simp [fr]
theorem fr_at (n : Nat) (m : Sl) (t : Nat) : (fr n m)[t]? = if t < n then some (lk m t) else none := by
  unfold fr
  rw [Array.getElem?_ofFn]
  split <;> rfl
theorem fr_get (n : Nat) (m : Sl) (t : Nat) : (fr n m).getD t undef = bif Nat.blt t n then lk m t else undef := by
  rw [Array.getD_eq_getD_getElem?, fr_at]
  by_cases h : t < n
  · have hb : Nat.blt t n = true := by simpa [Nat.blt_eq] using h
    rw [if_pos h, hb]
    rfl
  · have hb : Nat.blt t n = false := by
      rw [Bool.eq_false_iff]
      intro h'
      exact h (by simpa [Nat.blt_eq] using h')
    rw [if_neg h, hb]
    rfl
theorem lk_cons (d : Nat) (v : Value) (m : Sl) (t : Nat) : lk ((d, v) :: m) t = if d = t then v else lk m t := by
  show (bif Nat.beq d t then v else lk m t) = _
  by_cases h : d = t
  · subst h
    simp
  · have : Nat.beq d t = false := by
      rw [Bool.eq_false_iff]
      intro h'
      exact h (Nat.eq_of_beq_eq_true h')
    rw [this, if_neg h]
    rfl
theorem fr_put (n : Nat) (m : Sl) (d : Nat) (v : Value) : (fr n m).setIfInBounds d v = fr n ((d, v) :: m) := by
  apply Array.ext_getElem?
  intro i
  rw [fr_at, Array.getElem?_setIfInBounds, fr_at, lk_cons, fr_size]
  by_cases h : i < n
  · by_cases e : d = i
    · subst e
      simp [h]
    · simp [h, e]
  · by_cases e : d = i
    · subst e
      simp [h]
    · simp [h, e]
theorem fr_congr {n : Nat} {m m' : Sl} (h : ∀ t, t < n → lk m t = lk m' t) : fr n m = fr n m' := by
  apply Array.ext_getElem?
  intro i
  rw [fr_at, fr_at]
  by_cases hi : i < n
  · rw [if_pos hi, if_pos hi, h i hi]
  · rw [if_neg hi, if_neg hi]
theorem act_eval (n : Nat) (m : Sl) (ds : List Deferred) : (Act.mk (fr n m) ds).eval = ev n m := by
  funext x
  cases x with
  | tmp t => exact fr_get n m t
  | const v => rfl
  | global g => rfl
  | func f => rfl
theorem act_put (n : Nat) (m : Sl) (ds : List Deferred) (d : Option Nat) (v : Value) : (Act.mk (fr n m) ds).put d v = Act.mk (fr n (pt d v m)) ds := by
  cases d with
  | none => rfl
  | some d =>
    show Act.mk ((fr n m).setIfInBounds d v) ds = _
    rw [fr_put]
    rfl
/-- The slots of a call's arguments. -/
def ini : Nat → List Value → Sl
  | _, [] => []
  | i, a :: as => (i, a) :: ini (i + 1) as
theorem lk_ini : ∀ (as : List Value) (i t : Nat), lk (ini i as) t = if i ≤ t then as.getD (t - i) undef else undef
  | [], i, t => by simp [ini, lk]
  | a :: as, i, t => by
    show lk ((i, a) :: ini (i + 1) as) t = _
    rw [lk_cons, lk_ini as (i + 1) t]
    by_cases h : i = t
    · subst h
      simp
    · rw [if_neg h]
      by_cases h2 : i ≤ t
      · obtain ⟨d, rfl⟩ : ∃ d, t = i + 1 + d := ⟨t - (i + 1), by omega⟩
        rw [if_pos (by omega), if_pos h2]
        have e1 : i + 1 + d - (i + 1) = d := by omega
        have e2 : i + 1 + d - i = d + 1 := by omega
        rw [e1, e2]
        simp
      · rw [if_neg (by omega), if_neg h2]
theorem fr_ini (n : Nat) (as : List Value) (h : as.length ≤ n) : as.toArray ++ Array.replicate (n - as.toArray.size) undef = fr n (ini 0 as) := by
  apply Array.ext_getElem?
  intro i
  rw [fr_at, lk_ini, Array.getElem?_append]
  simp only [List.size_toArray, Nat.zero_le, if_true, Nat.sub_zero]
  by_cases hi : i < as.length
  · rw [if_pos hi, if_pos (by omega)]
    simp [hi]
  · rw [if_neg hi, Array.getElem?_replicate]
    by_cases h2 : i < n
    · rw [if_pos (by omega), if_pos h2]
      simp [List.getElem?_eq_none (Nat.le_of_not_lt hi)]
    · rw [if_neg (by omega), if_neg h2]

/-! ### Where the machine stands -/
section
variable {P : Program}
/-- The machine runs an activation: its slots m, the code k that is left. -/
def St (G : Gd P) (b : Frame) (n : Nat) (m : Sl) (ds : List Deferred) (k : List Item) (cs : List Frame) (w : World) : Prop :=
  G.ok (lone (b.atR (Act.mk (fr n m) ds) k) cs w)
/-- An activation panics. -/
def Pk (G : Gd P) (b : Frame) (ch : List PanicEntry) (ds : List Deferred) (cs : List Frame) (w : World) : Prop :=
  ∀ (tmps : Array Value) (todo : List Item), G.ok (lone { b.atR (Act.mk tmps ds) todo with mode := .panicking ch } cs w)
/-- An activation panics, its slots as told. -/
def Pk1 (G : Gd P) (b : Frame) (n : Nat) (m : Sl) (ch : List PanicEntry) (ds : List Deferred) (cs : List Frame) (w : World) : Prop :=
  ∀ (todo : List Item), G.ok (lone { b.atR (Act.mk (fr n m) ds) todo with mode := .panicking ch } cs w)
/-- An activation returns. -/
def Rn (G : Gd P) (b : Frame) (n : Nat) (m : Sl) (ds : List Deferred) (cs : List Frame) (w : World) : Prop :=
  ∀ (todo : List Item), G.ok (lone { b.atR (Act.mk (fr n m) ds) todo with mode := .returning } cs w)

variable {G : Gd P} {b : Frame} {n : Nat} {m : Sl} {ds : List Deferred} {k : List Item} {cs : List Frame} {w : World}

theorem St.congr {m' : Sl} (h : ∀ t, t < n → lk m t = lk m' t) (hs : St G b n m' ds k cs w) : St G b n m ds k cs w := by
  unfold St at *
  rw [fr_congr h]
  exact hs
/-- Slots are laid in front, as they are. -/
theorem st_live (ts : List Nat) (h : St G b n (ts.map (fun t => (t, lk m t)) ++ m) ds k cs w) : St G b n m ds k cs w := by
  refine St.congr (fun t _ => ?_) h
  clear h
  induction ts with
  | nil => rfl
  | cons a ts ih =>
    show _ = lk ((a, lk m a) :: (ts.map (fun t => (t, lk m t)) ++ m)) t
    rw [lk_cons]
    split
    · rename_i e
      rw [e]
    · exact ih
theorem st_skip (h : St G b n m ds k cs w) : St G b n m ds (.code .skip :: k) cs w := G.back _ _ stepR_skip h
theorem st_label {l : Nat} (h : St G b n m ds k cs w) : St G b n m ds (.code (.label l) :: k) cs w := G.back _ _ stepR_label h
theorem st_inBlock {id : Nat} (h : St G b n m ds k cs w) : St G b n m ds (.inBlock id :: k) cs w := G.back _ _ stepR_inBlock h
theorem st_seq {x y : Code} (h : St G b n m ds (.code x :: .code y :: k) cs w) : St G b n m ds (.code (.seq x y) :: k) cs w := G.back _ _ stepR_seq h
theorem st_cond {c : Operand} {x y : Code} (t : Bool) (hc : ev n m c = .bool t) (h1 : t = true → St G b n m ds (.code x :: k) cs w) (h0 : t = false → St G b n m ds (.code y :: k) cs w) :
    St G b n m ds (.code (.cond c x y) :: k) cs w := by
  refine G.back _ _ (stepR_cond (t := t) ?_) ?_
  · rw [act_eval]
    exact hc
  · cases t
    · exact h0 rfl
    · exact h1 rfl
theorem st_yes {c : Operand} {x y : Code} (hc : ev n m c = .bool true) (h : St G b n m ds (.code x :: k) cs w) : St G b n m ds (.code (.cond c x y) :: k) cs w :=
  st_cond true hc (fun _ => h) (fun e => by cases e)
theorem st_no {c : Operand} {x y : Code} (hc : ev n m c = .bool false) (h : St G b n m ds (.code y :: k) cs w) : St G b n m ds (.code (.cond c x y) :: k) cs w :=
  st_cond false hc (fun e => by cases e) (fun _ => h)
theorem st_block {id : Nat} {c : Code} (h : St G b n m ds (.code c :: .inBlock id :: k) cs w) : St G b n m ds (.code (.block id c) :: k) cs w := G.back _ _ stepR_block h
theorem st_loop {c : Code} (h : St G b n m ds (.code c :: .inLoop c :: k) cs w) : St G b n m ds (.code (.loop c) :: k) cs w := G.back _ _ stepR_loop h
theorem st_inLoop {c : Code} (h : St G b n m ds (.code c :: .inLoop c :: k) cs w) : St G b n m ds (.inLoop c :: k) cs w := G.back _ _ stepR_inLoop h
theorem st_exit {id : Nat} {k' : List Item} (he : exitTo id k = some k') (h : St G b n m ds k' cs w) : St G b n m ds (.code (.exit id) :: k) cs w := G.back _ _ (stepR_exit he) h
theorem st_goto {l : Nat} {k' : List Item} (he : gotoIn l k = some k') (h : St G b n m ds k' cs w) : St G b n m ds (.code (.goto l) :: k) cs w := G.back _ _ (stepR_goto he) h
theorem st_ret (hb : b.roundOf = none) (h : Rn G b n m ds cs w) : St G b n m ds (.code .ret :: k) cs w := G.back _ _ (stepR_ret hb) (h _)
theorem st_end (hb : b.roundOf = none) (h : Rn G b n m ds cs w) : St G b n m ds [] cs w := G.back _ _ (stepR_end hb) (h _)

theorem Pk.one {ch : List PanicEntry} (h : Pk G b ch ds cs w) : Pk1 G b n m ch ds cs w := h _

theorem steps_back {m₁ m₂ : Machine} (h : Steps P m₁ m₂) (hok : G.ok m₂) : G.ok m₁ := by
  obtain ⟨q, hq⟩ := h
  induction q generalizing m₁ with
  | zero =>
    simp only [runN] at hq
    cases hq
    exact hok
  | succ q ih =>
    simp only [runN] at hq
    cases hs : step P m₁ with
    | next m₃ =>
      rw [hs] at hq
      exact G.back _ _ hs (ih hq)
    | ended o w =>
      rw [hs] at hq
      simp at hq
/-! ### One operation -/
/-- A round of a loop over a function, called from whatever frame: R says how it ends. -/
def Rounds (P : Program) (l : Nat) (f : FuncId) (tmps : Array Value) (assign body : Code) (w : World) (R : Ending → World → Prop) : Prop :=
  ∀ (c : Frame) (cs : List Frame), ∃ e w', R e w' ∧ (match e with
    | .returned v => Steps P (lone (Frame.round l f tmps assign body .normal) (c :: cs) w) (lone (c.finish v) cs w')
    | .panicked ch => Steps P (lone (Frame.round l f tmps assign body .normal) (c :: cs) w) (lone (c.raise ch) cs w')
    | .outgrown => False)
theorem Rounds.mono {l : Nat} {f : FuncId} {tmps : Array Value} {assign body : Code} {R R' : Ending → World → Prop} (h : Rounds P l f tmps assign body w R) (hr : ∀ e w', R e w' → R' e w') : Rounds P l f tmps assign body w R' :=
  fun c cs => let ⟨e, w', r, s⟩ := h c cs; ⟨e, w', hr _ _ r, s⟩
def isDf : Op → Bool
  | .defer _ => true
  | _ => false
theorem not_df {o : Op} (h : isDf o = false) : ∀ c, o ≠ .defer c := by
  rintro c rfl
  cases h
/-- What one operation comes to: X where it hands back a value, Q where it panics. -/
def Ow (P : Program) (n : Nat) (o : Oper) (X : Sl → World → Prop) (Q : List PanicEntry → World → Prop) (m : Sl) (w : World) : Prop :=
  match (execOp (ev n m) o).run P w with
  | .ok (.value v) w' => X (pt o.dst v m) w'
  | .ok .skip w' => X (pt o.dst undef m) w'
  | .ok (.enter f args) w' => Calls P f args w' fun e w'' =>
    match e with
    | .returned v => X (pt o.dst v m) w''
    | .panicked ch => Q ch w''
    | .outgrown => False
  | .ok (.round l f tmps assign body) w' => Rounds P l f tmps assign body w' fun e w'' =>
    match e with
    | .returned v => X (pt o.dst v m) w''
    | .panicked ch => Q ch w''
    | .outgrown => False
  | .halt (.panic v) w' => Q [{ v, recovered := false }] w'
  | _ => False
theorem Ow.mono {o : Oper} {X X' : Sl → World → Prop} {Q Q' : List PanicEntry → World → Prop} (h : Ow P n o X Q m w) (hx : ∀ m' w', X m' w' → X' m' w') (hq : ∀ ch w', Q ch w' → Q' ch w') : Ow P n o X' Q' m w := by
  unfold Ow at h ⊢
  generalize (execOp (ev n m) o).run P w = r at h
  cases r with
  | ok x w' =>
    cases x with
    | value v => exact hx _ _ h
    | skip => exact hx _ _ h
    | enter f args =>
      refine Calls.mono h fun e w2 hR => ?_
      cases e with
      | returned v => exact hx _ _ hR
      | panicked ch => exact hq _ _ hR
      | outgrown => exact hR
    | round l f tmps assign body =>
      refine Rounds.mono h fun e w2 hR => ?_
      cases e with
      | returned v => exact hx _ _ hR
      | panicked ch => exact hq _ _ hR
      | outgrown => exact hR
    | _ => exact h.elim
  | halt x w' =>
    cases x with
    | panic v => exact hq _ _ h
    | _ => exact h.elim

variable {ops : Array Oper} {o : Oper} {l : List Oper} {i : Nat} {rest : List Nat}

theorem st_op (ho : ops[i]? = some o) (hw : Region.wanted o (yielded ops (fr n m)) = true) (hd : isDf o.op = false)
    (h : Ow P n o (fun m' w' => St G b n m' ds (.inRegion ops rest :: k) cs w') (fun ch w' => Pk1 G b n m ch ds cs w') m w) : St G b n m ds (.inRegion ops (i :: rest) :: k) cs w := by
  have hg := stepGR_op (P := P) (b := b) (a := Act.mk (fr n m) ds) (k := k) (cs := cs) (w := w) (rest := rest) ho hw
  rw [Oper.semAt_eq _ _ _ (not_df hd), act_eval] at hg
  have hfin : ∀ v, (b.atR (Act.mk (fr n m) ds) (.inRegion ops (i :: rest) :: k)).finish v = b.atR (Act.mk (fr n (pt o.dst v m)) ds) (.inRegion ops rest :: k) := by
    intro v
    rw [Frame.finish_atR, ho]
    show b.atR ((Act.mk (fr n m) ds).put o.dst v) _ = _
    rw [act_put]
  unfold Ow at h
  unfold St
  generalize hr : (execOp (ev n m) o).run P w = r at h
  cases r with
  | ok x w' =>
    cases x with
    | value v =>
      refine G.back _ _ (step_lone_go ?_) h
      rw [hg, ← hfin]
      simp [stepG.apply, Sem.runT_eq, hr]
    | skip =>
      refine G.back _ _ (step_lone_go ?_) h
      rw [hg, ← hfin]
      simp [stepG.apply, Sem.runT_eq, hr]
    | enter f args =>
      obtain ⟨e, w2, fr2, hR, hcomes, hfn, hleave⟩ := h (b.atR (Act.mk (fr n m) ds) (.inRegion ops (i :: rest) :: k) :: cs)
      have henter : step P (lone (b.atR (Act.mk (fr n m) ds) (.inRegion ops (i :: rest) :: k)) cs w) = .next (lone (Frame.enter P f args .normal) (b.atR (Act.mk (fr n m) ds) (.inRegion ops (i :: rest) :: k) :: cs) w') :=
        step_lone_go (by rw [hg]; simp [stepG.apply, Sem.runT_eq, hr, Frame.atR])
      refine G.back _ _ henter ?_
      cases e with
      | returned v =>
        refine steps_back hcomes (G.back _ _ (step_leave_returned hleave) ?_)
        rw [hfin]
        exact hR
      | panicked ch =>
        refine steps_back hcomes (G.back _ _ (step_leave_panicked hleave) ?_)
        rw [Frame.raise_atR]
        exact hR _
      | outgrown => exact hR.elim
    | round l f tmps assign body =>
      obtain ⟨e, w2, hR, hsteps⟩ := h (b.atR (Act.mk (fr n m) ds) (.inRegion ops (i :: rest) :: k)) cs
      have henter : step P (lone (b.atR (Act.mk (fr n m) ds) (.inRegion ops (i :: rest) :: k)) cs w) = .next (lone (Frame.round l f tmps assign body .normal) (b.atR (Act.mk (fr n m) ds) (.inRegion ops (i :: rest) :: k) :: cs) w') :=
        step_lone_go (by rw [hg]; simp [stepG.apply, Sem.runT_eq, hr, Frame.atR])
      refine G.back _ _ henter ?_
      cases e with
      | returned v =>
        refine steps_back hsteps ?_
        rw [hfin]
        exact hR
      | panicked ch =>
        refine steps_back hsteps ?_
        rw [Frame.raise_atR]
        exact hR _
      | outgrown => exact hR.elim
    | _ => exact h.elim
  | halt x w' =>
    cases x with
    | panic v =>
      refine G.back _ _ (step_lone_go ?_) (h (.inRegion ops (i :: rest) :: k))
      rw [hg, ← Frame.raise_atR]
      simp [stepG.apply, Sem.runT_eq, hr]
    | _ => exact h.elim
theorem st_pass (hw : ((ops[i]?).map (Region.wanted · (yielded ops (fr n m)))).getD false = false) (h : St G b n (pt ((ops[i]?).bind (·.dst)) undef m) ds (.inRegion ops rest :: k) cs w) :
    St G b n m ds (.inRegion ops (i :: rest) :: k) cs w := by
  refine G.back _ _ (stepR_op_skip hw) ?_
  rw [act_put]
  exact h
theorem st_done (h : St G b n m ds k cs w) : St G b n m ds (.inRegion ops [] :: k) cs w := G.back _ _ stepR_region_end h

/-! ### A region in the order of its text -/
/-- The operations l are left, from place i on. -/
def Sr (G : Gd P) (b : Frame) (n : Nat) (m : Sl) (ds : List Deferred) (ops : Array Oper) (l : List Oper) (i : Nat) (k : List Item) (cs : List Frame) (w : World) : Prop :=
  (∀ j, l[j]? = ops[i + j]?) → St G b n m ds (.inRegion ops (List.range' i l.length) :: k) cs w
theorem st_region {id : Nat} (h : Sr G b n m ds l.toArray l 0 k cs w) : St G b n m ds (.code (.region id l.toArray false) :: k) cs w := by
  refine G.back _ _ stepR_region ?_
  have := h (fun j => by simp)
  rw [← List.range_eq_range'] at this
  simpa [St] using this
theorem sr_nil (h : St G b n m ds k cs w) : Sr G b n m ds ops [] i k cs w := fun _ => st_done h
theorem sr_next (hl : ∀ j, (o :: l)[j]? = ops[i + j]?) : ∀ j, l[j]? = ops[i + 1 + j]? := fun j => by
  have := hl (j + 1)
  rw [Nat.add_assoc, Nat.add_comm 1 j]
  simpa using this
theorem sr_op (hg : o.guard = none) (hd : isDf o.op = false) (h : Ow P n o (fun m' w' => Sr G b n m' ds ops l (i + 1) k cs w') (fun ch w' => Pk1 G b n m ch ds cs w') m w) : Sr G b n m ds ops (o :: l) i k cs w := by
  intro hl
  have h0 : ops[i]? = some o := by simpa using (hl 0).symm
  rw [List.length_cons, List.range'_succ]
  refine st_op h0 (by simp [Region.wanted, hg]) hd ?_
  exact h.mono (fun _ _ hx => hx (sr_next hl)) (fun _ _ hq => hq)
/-- A guard is asked: the answer lies in slot d. -/
theorem yielded_fr {j d : Nat} {oj : Oper} {v : Bool} (hj : ops[j]? = some oj) (hd : oj.dst = some d) (hn : Nat.blt d n = true) (hv : lk m d = .bool v) : yielded ops (fr n m) j = some v := by
  unfold yielded
  have hlt : d < n := by simpa [Nat.blt_eq] using hn
  simp [hj, hd, fr_at, hlt, hv]
theorem sr_want {j d : Nat} {oj : Oper} {v : Bool} (hg : o.guard = some (j, v)) (hj : ops[j]? = some oj) (hdj : oj.dst = some d) (hn : Nat.blt d n = true) (hv : lk m d = .bool v) (hd : isDf o.op = false)
    (h : Ow P n o (fun m' w' => Sr G b n m' ds ops l (i + 1) k cs w') (fun ch w' => Pk1 G b n m ch ds cs w') m w) : Sr G b n m ds ops (o :: l) i k cs w := by
  intro hl
  have h0 : ops[i]? = some o := by simpa using (hl 0).symm
  rw [List.length_cons, List.range'_succ]
  refine st_op h0 (by simp [Region.wanted, hg, yielded_fr hj hdj hn hv]) hd ?_
  exact h.mono (fun _ _ hx => hx (sr_next hl)) (fun _ _ hq => hq)
theorem sr_pass {j d : Nat} {oj : Oper} {v u : Bool} (hg : o.guard = some (j, v)) (hj : ops[j]? = some oj) (hdj : oj.dst = some d) (hn : Nat.blt d n = true) (hv : lk m d = .bool u) (hne : (u == v) = false)
    (h : Sr G b n (pt o.dst undef m) ds ops l (i + 1) k cs w) : Sr G b n m ds ops (o :: l) i k cs w := by
  intro hl
  have h0 : ops[i]? = some o := by simpa using (hl 0).symm
  rw [List.length_cons, List.range'_succ]
  refine st_pass ?_ ?_
  · rw [h0]
    simp only [Option.map_some, Option.getD_some, Region.wanted, hg, yielded_fr hj hdj hn hv]
    simpa using hne
  · rw [h0]
    exact h (sr_next hl)
/-- A guard whose own asker was passed over. -/
theorem sr_pass_undef {j d : Nat} {oj : Oper} {v : Bool} (hg : o.guard = some (j, v)) (hj : ops[j]? = some oj) (hdj : oj.dst = some d) (hn : Nat.blt d n = true) (hv : lk m d = undef)
    (h : Sr G b n (pt o.dst undef m) ds ops l (i + 1) k cs w) : Sr G b n m ds ops (o :: l) i k cs w := by
  intro hl
  have h0 : ops[i]? = some o := by simpa using (hl 0).symm
  rw [List.length_cons, List.range'_succ]
  have hlt : d < n := by simpa [Nat.blt_eq] using hn
  refine st_pass ?_ ?_
  · rw [h0]
    simp [Region.wanted, hg, yielded, hj, hdj, fr_at, hlt, hv, undef]
  · rw [h0]
    exact h (sr_next hl)

/-! ### Calls -/
/-- The goal of a contract. -/
def goalOf (P : Program) (f : FuncId) (cs : List Frame) (R : Ending → World → Prop) : Gd P where
  ok := fun m => ∃ e w' fr, R e w' ∧ Comes P m (lone fr cs w') e ∧ fr.fn = f ∧ fr.leaving P w' e
  back := fun _ _ hs ⟨e, w', fr, hR, hc, hfn, hl⟩ => ⟨e, w', fr, hR, Comes.of_steps (.one hs) hc, hfn, hl⟩
/-- A contract, out of a walk of the body: what it returns is read at its end. -/
theorem calls_st {f : FuncId} {fn : Func} {c : Code} {args : List Value} {w : World} {R : Ending → World → Prop} (hf : P.funcs[f]? = some fn) (hb : fn.body = some c) (hn : fn.ntmps = n) (hlen : Nat.ble args.length n = true)
    (h : ∀ (G : Gd P) (b : Frame) (cs : List Frame), b.roundOf = none → b.fn = f →
      (∀ (m : Sl) (w' : World) (v : Value), (results fn (fr n m)).run P w' = .ok v w' → R (.returned v) w' → Rn G b n m [] cs w') →
      (∀ (ch : List PanicEntry) (w' : World), R (.panicked ch) w' → Pk G b ch [] cs w') →
      St G b n (ini 0 args) [] [.code c] cs w) : Calls P f args.toArray w R := by
  intro cs
  let b : Frame := { (default : Frame) with fn := f, kind := .normal }
  have henter : Frame.enter P f args.toArray .normal = b.atR (Act.mk (fr n (ini 0 args)) []) [.code c] := by
    simp only [Frame.enter, Frame.atR, hf, hb, b, Option.bind_some, Option.getD_some, Option.map_some, hn]
    rw [fr_ini n args (Nat.le_of_ble_eq_true hlen)]
    rfl
  have := h (goalOf P f cs R) b cs rfl rfl
    (fun m w' v hr hR todo => ⟨.returned v, w', _, hR, Steps.refl P _, rfl, rfl, rfl, rfl, fn, hf, hr⟩)
    (fun ch w' hR tmps todo => ⟨.panicked ch, w', _, hR, Steps.refl P _, rfl, rfl, rfl, fn, hf⟩)
  rw [henter]
  exact this
/-- It returns, and R holds of what it returns. -/
def Rt (R : Value → World → Prop) : Ending → World → Prop := fun e w' => ∃ v, e = .returned v ∧ R v w'
/-- A call of the function by its number enters it. -/
def Ent (P : Program) (f : FuncId) : Prop := ∀ args w, (callFunc f args).run P w = .ok (.enter f args) w
theorem ent_of {f : FuncId} {fn : Func} (hf : P.funcs[f]? = some fn) (hne : (fn.name == "runtime.NumGoroutine") = false) (hb : fn.body.isNone = false) : Ent P f := by
  intro args w
  have h1 : fn.name ≠ "runtime.NumGoroutine" := by simpa using hne
  have h2 : fn.body ≠ none := by
    intro e
    rw [e] at hb
    cases hb
  simp [callFunc, program, Sem.run, hf, h1, h2]
end
end Go.Proofs.YtghmjnbpkobooaaGreatDoor
