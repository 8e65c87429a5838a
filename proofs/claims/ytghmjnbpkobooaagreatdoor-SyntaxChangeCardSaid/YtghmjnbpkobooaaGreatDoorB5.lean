/-
  Deferred calls, recover, and the range over a function: one law each. Plain theorems over whatever program.
-/
import Derived.Test.YtghmjnbpkobooaaGreatDoorB4
import Derived.RangeFuncRecord
set_option linter.unusedVariables false
set_option linter.unusedSimpArgs false
namespace Go.Proofs.YtghmjnbpkobooaaGreatDoor
open Go Go.RowKit

/-! ### Marks among the deferred calls -/
def mk1 (r : Nat) : Deferred := { target := .collected r, args := #[] }
def dfo : Obj := .deferred (some [])
def dfs (rs : List Nat) : List (Nat × Obj) := rs.map fun r => (r, dfo)
def mks (rs : List Nat) : List Deferred := rs.map mk1
def dfn (f : FuncId) (cap : List Value) : Deferred := { target := .fn (.func f) cap.toArray, args := #[] }

section
variable {P : Program} {G : Gd P} {b : Frame} {n : Nat} {m : Sl} {ds : List Deferred} {k : List Item} {cs : List Frame} {w : World} {ch : List PanicEntry}
variable {B : World} {I : Im} {L : List (Nat × Obj)}
theorem Hp.putk {g : Nat} {o : Obj} (H : Hp B I w L) (j : Nat) (hk : L[j]? = some (g, o)) (o' : Obj) : Hp B I (w.putObj g o') (L.set j (g, o')) := by
  have hg := H.own _ (List.mem_of_getElem? hk)
  exact H.turn hk (World.putObj_heap_same (lt_of_at hg)) (fun i _ hne => World.putObj_heap_other hne) rfl rfl
theorem st_begin {l : Nat} {rc : Loop} (hb : b.roundOf = some l) (H : Hp B I w L) (j : Nat) (hk : L[j]? = some (l, .loop rc)) (hr : rc.state = .ready)
    (h : ∀ w', Hp B I w' (L.set j (l, .loop { rc with state := .busy })) → St G b n m ds k cs w') : St G b n m ds (.beginRound :: k) cs w :=
  G.back _ _ (stepR_beginRound hb (run_beginRound (H.own _ (List.mem_of_getElem? hk)) hr)) (h _ (H.putk j hk _))
theorem rn_marks (rs : List Nat) (h : ∀ w', Hp B I w' L → Rn G b n m ds cs w') : ∀ {w : World}, Hp B I w (dfs rs ++ L) → Rn G b n m (mks rs ++ ds) cs w := by
  induction rs with
  | nil => exact fun H => h _ H
  | cons r rs ih =>
    intro w H todo
    have hr : w.heap[r]? = some dfo := H.own (r, dfo) (List.mem_cons_self ..)
    have H' : Hp B I (w.putObj r (.deferred none)) (dfs rs ++ L) := (H.putk 0 rfl (.deferred none)).tail
    refine G.back _ _ (step_collected (d := mk1 r) (r := r) (ds := mks rs ++ ds) (by simp) rfl rfl (run_takeDeferred hr)) ?_
    exact ih H' todo
theorem pk_marks (rs : List Nat) (h : ∀ w', Hp B I w' L → Pk G b ch ds cs w') : ∀ {w : World}, Hp B I w (dfs rs ++ L) → Pk G b ch (mks rs ++ ds) cs w := by
  induction rs with
  | nil => exact fun H => h _ H
  | cons r rs ih =>
    intro w H tmps todo
    have hr : w.heap[r]? = some dfo := H.own (r, dfo) (List.mem_cons_self ..)
    have H' : Hp B I (w.putObj r (.deferred none)) (dfs rs ++ L) := (H.putk 0 rfl (.deferred none)).tail
    refine G.back _ _ (step_collected (d := mk1 r) (r := r) (ds := mks rs ++ ds) (by simp [Frame.atR]) rfl rfl (run_takeDeferred hr)) ?_
    exact ih H' tmps todo

/-! ### The statement -/
/-- A loop's record, its state as told. -/
def rcS (rc : Loop) (s : LoopState) (p : Option Code) : Loop := { rc with state := s, pending := p }
theorem st_rangeFunc {fi : FuncId} (hfi : b.fn = fi) {g : Operand} {ps : Array Tmp} {asg body : Code} {f : FuncId} {cap : List Value} (hb : b.roundOf = none) (hg : ev n m g = .func (.func f) #[] cap.toArray) (he : Ent P f) (H : Hp B I w L)
    (h : ∀ r l w' rc, rc = ⟨.ready, none, fi, fr n m, ps, asg, body, r⟩ → Hp B I w' ((l, .loop (rcS rc .ready none)) :: (r, dfo) :: L) →
      Calls P f (.func (.yield l) #[] #[] :: cap).toArray w' (fun e w'' => match e with
        | .returned _ => ∃ I' L' s p, Hp B I' w'' ((l, .loop (rcS rc s p)) :: L') ∧ s ≠ .busy ∧ (∀ w3, Hp B I' w3 L' → St G b n m (mk1 r :: ds) ((p.map Item.code).toList ++ k) cs w3)
        | .panicked ch => Pk1 G b n m ch (mk1 r :: ds) cs w''
        | .outgrown => False)) : St G b n m ds (.code (.rangeFunc g ps asg body) :: k) cs w := by
  subst hfi
  have hent : (Instr.enterLoop b.fn (fr n m) ps asg body none).run P w = .ok (w.heap.size + 1, [mk1 w.heap.size]) ((w.alloc dfo).alloc (.loop ⟨.ready, none, b.fn, fr n m, ps, asg, body, w.heap.size⟩)) := run_enterLoop_outer b.fn (fr n m) ps asg body
  have H1 : Hp B I ((w.alloc dfo).alloc (.loop ⟨.ready, none, b.fn, fr n m, ps, asg, body, w.heap.size⟩)) ((w.heap.size + 1, .loop ⟨.ready, none, b.fn, fr n m, ps, asg, body, w.heap.size⟩) :: (w.heap.size, dfo) :: L) := by
    have h1 := (H.alloc dfo).alloc (.loop ⟨.ready, none, b.fn, fr n m, ps, asg, body, w.heap.size⟩)
    have e : (w.alloc dfo).heap.size = w.heap.size + 1 := World.size_alloc ..
    rwa [e] at h1
  have hc := h _ _ _ _ rfl H1
  generalize ((w.alloc dfo).alloc (.loop ⟨.ready, none, b.fn, fr n m, ps, asg, body, w.heap.size⟩)) = w1 at hent hc H1
  have hstep := stepR_rangeFunc (P := P) (b := b) (a := Act.mk (fr n m) ds) (k := k) (cs := cs) (w := w) (g := g) (ps := ps) (assign := asg) (body := body) (l := w.heap.size + 1) (mark := [mk1 w.heap.size]) (w₁ := w1) (w₁' := w1) (w₂ := w1)
    (d := { target := .fn (.func f) cap.toArray, args := #[.func (.yield (w.heap.size + 1)) #[] #[]] }) (f := f) (args := #[.func (.yield (w.heap.size + 1)) #[] #[]] ++ cap.toArray)
    (by rw [hb]; exact hent) (by rw [act_eval]; rw [show rangeCall g (w.heap.size + 1) = { callee := .value g, args := #[.const (.func (.yield (w.heap.size + 1)) #[] #[])], argTypes := #[] } from rfl]; simp [resolve, hg, Deferred.ofValue, show ∀ v, ev n m (.const v) = v from fun _ => rfl]) (by simp only [invoke]; exact he _ _)
  refine G.back _ _ hstep ?_
  have ha : #[.func (.yield (w.heap.size + 1)) #[] #[]] ++ cap.toArray = (Value.func (.yield (w.heap.size + 1)) #[] #[] :: cap).toArray := by simp
  rw [ha]
  obtain ⟨e, w2, fr2, hR, hcomes, hfn, hleave⟩ := hc (b.atR { (Act.mk (fr n m) ds) with defers := [mk1 w.heap.size] ++ ds } (.inRangeFunc (w.heap.size + 1) :: k) :: cs)
  cases e with
  | returned v =>
    obtain ⟨I', L', s, p, H2, hnb, hgo⟩ := hR
    refine steps_back hcomes (G.back _ _ (step_leave_returned hleave) ?_)
    rw [finish_atR_inRangeFunc]
    have hl := H2.own _ (List.mem_cons_self ..)
    refine G.back _ _ (stepR_endRangeFunc (run_endLoop hl hnb)) ?_
    exact hgo _ (H2.putk 0 rfl _).tail
  | panicked ch =>
    refine steps_back hcomes (G.back _ _ (step_leave_panicked hleave) ?_)
    rw [Frame.raise_atR]
    exact hR _
  | outgrown => exact hR.elim

/-! ### A round -/
def goalRound (P : Program) (c : Frame) (cs : List Frame) (R : Ending → World → Prop) : Gd P where
  ok := fun m => ∃ e w', R e w' ∧ (match e with
    | .returned v => Steps P m (lone (c.finish v) cs w')
    | .panicked ch => Steps P m (lone (c.raise ch) cs w')
    | .outgrown => False)
  back := by
    rintro _ _ hs ⟨e, w', hR, h⟩
    refine ⟨e, w', hR, ?_⟩
    cases e with
    | returned v => exact .head hs h
    | panicked ch => exact .head hs h
    | outgrown => exact h
/-- How a round's body may be left. -/
structure RoundEnds {P : Program} (G : Gd P) (b : Frame) (n : Nat) (cs : List Frame) (l : Nat) (R : Ending → World → Prop) : Prop where
  on : ∀ m w v w', (Instr.endRound l none).run P w = .ok v w' → R (.returned v) w' → St G b n m [] [] cs w
  ret : ∀ m k w v w', (Instr.endRound l (some .ret)).run P w = .ok v w' → R (.returned v) w' → St G b n m [] (.code .ret :: k) cs w
  exit : ∀ m id k w v w', exitTo id k = none → (Instr.endRound l (some (.exit id))).run P w = .ok v w' → R (.returned v) w' → St G b n m [] (.code (.exit id) :: k) cs w
  pan : ∀ ch w, R (.panicked ch) w → Pk G b ch [] cs w
theorem rounds_st {l : Nat} {f : FuncId} {fn : Func} {asg body : Code} {R : Ending → World → Prop} (hf : P.funcs[f]? = some fn)
    (h : ∀ (G : Gd P) (b : Frame) (cs : List Frame), b.roundOf = some l → b.fn = f → RoundEnds G b n cs l R → St G b n m [] [.code asg, .beginRound, .code body] cs w) : Rounds P l f (fr n m) asg body w R := by
  intro c cs
  let b : Frame := { (default : Frame) with fn := f, kind := .normal, roundOf := some l }
  have h0 : Frame.round l f (fr n m) asg body .normal = b.atR (Act.mk (fr n m) []) [.code asg, .beginRound, .code body] := rfl
  rw [h0]
  refine h (goalRound P c cs R) b (c :: cs) rfl rfl ⟨?_, ?_, ?_, ?_⟩
  · intro m w v w' hr hR
    exact ⟨.returned v, w', hR, .one (stepR_round_end rfl rfl hr)⟩
  · intro m k w v w' hr hR
    exact ⟨.returned v, w', hR, .one (stepR_round_ret rfl rfl hr)⟩
  · intro m id k w v w' hx hr hR
    exact ⟨.returned v, w', hR, .one (stepR_round_exit rfl rfl hx hr)⟩
  · intro ch w hR tmps todo
    refine ⟨.panicked ch, w, hR, .one (step_leave_panicked ⟨rfl, rfl, fn, hf⟩)⟩
/-- The record behind a round: ready, or done with a jump. -/
theorem RoundEnds.on_ {l : Nat} {R : Ending → World → Prop} (E : RoundEnds G b n cs l R) {rc : Loop} (H : Hp B I w L) (j : Nat) (hk : L[j]? = some (l, .loop rc))
    (h : ∀ w', Hp B I w' (L.set j (l, .loop { rc with state := .ready, pending := none })) → R (.returned (.bool true)) w') : St G b n m [] [] cs w :=
  E.on _ _ _ _ (run_endRound none (H.own _ (List.mem_of_getElem? hk))) (h _ (H.putk j hk _))
theorem RoundEnds.ret_ {l : Nat} {R : Ending → World → Prop} (E : RoundEnds G b n cs l R) {rc : Loop} (H : Hp B I w L) (j : Nat) (hk : L[j]? = some (l, .loop rc))
    (h : ∀ w', Hp B I w' (L.set j (l, .loop { rc with state := .done, pending := some .ret })) → R (.returned (.bool false)) w') : St G b n m [] (.code .ret :: k) cs w :=
  E.ret _ _ _ _ _ (run_endRound (some .ret) (H.own _ (List.mem_of_getElem? hk))) (h _ (H.putk j hk _))
theorem RoundEnds.exit_ {l id : Nat} {R : Ending → World → Prop} (E : RoundEnds G b n cs l R) {rc : Loop} (hx : exitTo id k = none) (H : Hp B I w L) (j : Nat) (hk : L[j]? = some (l, .loop rc))
    (h : ∀ w', Hp B I w' (L.set j (l, .loop { rc with state := .done, pending := some (.exit id) })) → R (.returned (.bool false)) w') : St G b n m [] (.code (.exit id) :: k) cs w :=
  E.exit _ _ _ _ _ _ hx (run_endRound (some (.exit id)) (H.own _ (List.mem_of_getElem? hk))) (h _ (H.putk j hk _))

/-! ### A call of yield -/
/-- What a call of the function value y, a loop's yield, comes to. -/
def Yl (P : Program) (y : Value) (args : List Value) (w : World) (R : Ending → World → Prop) : Prop :=
  ∃ l f tmps asg body, y = .func (.yield l) #[] #[] ∧ (Instr.yield l args.toArray).run P w = .ok (.round l f tmps asg body) w ∧ Rounds P l f tmps asg body w R
theorem Yl.mono {y : Value} {args : List Value} {R R' : Ending → World → Prop} (h : Yl P y args w R) (hr : ∀ e w', R e w' → R' e w') : Yl P y args w R' :=
  let ⟨l, f, tmps, asg, body, h1, h2, h3⟩ := h
  ⟨l, f, tmps, asg, body, h1, h2, h3.mono hr⟩
theorem yl_one {l : Nat} {rc : Loop} {p : Tmp} {v : Value} {R : Ending → World → Prop} (H : Hp B I w L) (j : Nat) (hk : L[j]? = some (l, .loop rc)) (hp : rc.params = #[p]) (ht : rc.tmps = fr n m)
    (h : Rounds P l rc.fn (fr n ((p, v) :: m)) rc.assign rc.body w R) : Yl P (.func (.yield l) #[] #[]) [v] w R := by
  have hl := H.own _ (List.mem_of_getElem? hk)
  have hy := run_yield (P := P) (args := #[v]) hl (by rw [hp]; rfl)
  refine ⟨l, rc.fn, _, rc.assign, rc.body, rfl, hy, ?_⟩
  have : (rc.params.zip #[v]).foldl (fun tmps (t, a) => tmps.setIfInBounds t a) rc.tmps = fr n ((p, v) :: m) := by
    rw [hp, ht, ← fr_put]
    simp
  rw [this]
  exact h
variable {X : Sl → World → Prop} {Q : List PanicEntry → World → Prop} {d : Nat} {t ty : TypeId} {pos : String} {aft : Array Edge} {gd : Option (Nat × Bool)} {x : Operand}
theorem ow_yield {g : Operand} {xs : List Operand} {args : List Value} {ats : Array TypeId} {y : Value} {R : Ending → World → Prop} (hg : ev n m g = y) (ha : xs.map (ev n m) = args) (hy : Yl P y args w R)
    (h : ∀ e w', R e w' → (match e with
      | .returned v => X ((d, v) :: m) w'
      | .panicked ch => Q ch w'
      | .outgrown => False)) : Ow P n ⟨some d, .call { callee := .value g, args := xs.toArray, argTypes := ats }, ty, pos, aft, gd⟩ X Q m w := by
  obtain ⟨l, f, tmps, asg, body, rfl, hrun, hrd⟩ := hy
  have hr : (execOp (ev n m) ⟨some d, .call { callee := .value g, args := xs.toArray, argTypes := ats }, ty, pos, aft, gd⟩).run P w = .ok (.round l f tmps asg body) w := by
    simp [execOp, resolve, hg, Deferred.ofValue, invoke, Sem.run_bind, Result.andThen, ← hrun, ← ha]
  unfold Ow
  rw [hr]
  exact hrd.mono fun e w' hR => by
    have := h e w' hR
    cases e <;> exact this

/-! ### defer, recover -/
theorem sr_defer {l : List Oper} {i : Nat} {ops : Array Oper} {g : Operand} {f : FuncId} {cap : List Value} {ats : Array TypeId} (hb : b.roundOf = none) (hg : ev n m g = .func (.func f) #[] cap.toArray)
    (h : Sr G b n m (dfn f cap :: ds) ops l (i + 1) k cs w) : Sr G b n m ds ops (⟨none, .defer { callee := .value g, args := #[], argTypes := ats }, ty, pos, aft, none⟩ :: l) i k cs w := by
  intro hl
  have h0 : ops[i]? = some ⟨none, .defer { callee := .value g, args := #[], argTypes := ats }, ty, pos, aft, none⟩ := by simpa using (hl 0).symm
  rw [List.length_cons, List.range'_succ]
  have hgo := stepGR_op (P := P) (b := b) (a := Act.mk (fr n m) ds) (k := k) (cs := cs) (w := w) (rest := List.range' (i + 1) l.length) h0 (by simp [Region.wanted])
  refine G.back _ _ (step_lone_go (fr' := b.atR (Act.mk (fr n m) (dfn f cap :: ds)) (.inRegion ops (List.range' (i + 1) l.length) :: k)) (cs' := cs) (w' := w) ?_) (h (sr_next hl))
  rw [hgo, hb, Oper.semAt_none, act_eval]
  have hr : (execOp (ev n m) ⟨none, .defer { callee := .value g, args := #[], argTypes := ats }, ty, pos, aft, none⟩).run P w = .ok (.defer (dfn f cap)) w := by
    simp [execOp, resolve, hg, Deferred.ofValue, dfn]
  have hfin := Frame.finish_atR b (Act.mk (fr n m) (dfn f cap :: ds)) ops i (List.range' (i + 1) l.length) k undef
  rw [h0] at hfin
  simp only [stepG.apply, Sem.runT_eq, hr]
  simp only [Frame.atR] at hfin ⊢
  simp [hfin, Act.put]
theorem rn_defer {f : FuncId} {cap : List Value} (he : Ent P f) (hc : CallsD P f cap.toArray .returning w (fun e u w' => ∃ v, e = .returned v ∧ u = .returning ∧ Rn G b n m ds cs w')) : Rn G b n m (dfn f cap :: ds) cs w := by
  intro todo
  have h1 := step_defer (P := P) (fr := { b.atR (Act.mk (fr n m) (dfn f cap :: ds)) todo with mode := .returning }) (cs := cs) (w := w) (d := dfn f cap) (ds := ds) (fv := .func f) (cap := cap.toArray) (f := f) (args := cap.toArray) (by simp) rfl rfl (by
    show (callFunc f (#[] ++ cap.toArray)).run P w = _
    simpa using he cap.toArray w)
  refine G.back _ _ h1 ?_
  obtain ⟨e, u, w', frX, ⟨v, rfl, rfl, hR⟩, hsteps, hk, hgo⟩ := hc { b.atR (Act.mk (fr n m) ds) todo with mode := .returning } cs rfl
  refine steps_back hsteps (G.back _ _ (step_going_returned hk hgo) ?_)
  exact hR todo
theorem pk_defer {f : FuncId} {cap : List Value} {u' : FrameMode} (he : Ent P f) (hs : settle u' = .returning) (hc : CallsD P f cap.toArray (.panicking ch) w (fun e u w' => ∃ v, e = .returned v ∧ u = u' ∧ Rn G b n m ds cs w')) : Pk1 G b n m ch (dfn f cap :: ds) cs w := by
  intro todo
  have h1 := step_defer (P := P) (fr := { b.atR (Act.mk (fr n m) (dfn f cap :: ds)) todo with mode := .panicking ch }) (cs := cs) (w := w) (d := dfn f cap) (ds := ds) (fv := .func f) (cap := cap.toArray) (f := f) (args := cap.toArray) (by simp) rfl rfl (by
    show (callFunc f (#[] ++ cap.toArray)).run P w = _
    simpa using he cap.toArray w)
  refine G.back _ _ h1 ?_
  obtain ⟨e, u, w', frX, ⟨v, rfl, rfl, hR⟩, hsteps, hk, hgo⟩ := hc { b.atR (Act.mk (fr n m) ds) todo with mode := .panicking ch } cs rfl
  refine steps_back hsteps (G.back _ _ (step_going_returned hk hgo) ?_)
  show G.ok (lone { b.atR (Act.mk (fr n m) ds) todo with mode := settle u } cs w')
  rw [hs]
  exact hR todo
/-- The goal of a deferred call's contract. -/
def goalD (P : Program) (c : Frame) (cs : List Frame) (R : Ending → FrameMode → World → Prop) : Gd P where
  ok := fun m => ∃ e u' w' fr, R e u' w' ∧ Comes P m (lone fr ({ c with mode := u' } :: cs) w') e ∧ fr.kind = .deferred ∧ fr.going P w' e
  back := fun _ _ hs ⟨e, u', w', fr, hR, hc, hk, hl⟩ => ⟨e, u', w', fr, hR, Comes.of_steps (.one hs) hc, hk, hl⟩
theorem callsD_st {f : FuncId} {fn : Func} {c : Code} {args : List Value} {u : FrameMode} {R : Ending → FrameMode → World → Prop} (hf : P.funcs[f]? = some fn) (hb : fn.body = some c) (hn : fn.ntmps = n) (hlen : Nat.ble args.length n = true)
    (h : ∀ (G : Gd P) (b c0 : Frame) (cs : List Frame), b.roundOf = none → b.kind = .deferred →
      (∀ (m : Sl) (u' : FrameMode) (w' : World) (v : Value), (results fn (fr n m)).run P w' = .ok v w' → R (.returned v) u' w' → Rn G b n m [] ({ c0 with mode := u' } :: cs) w') →
      St G b n (ini 0 args) [] [.code c] ({ c0 with mode := u } :: cs) w) : CallsD P f args.toArray u w R := by
  intro c0 cs hu
  let b : Frame := { (default : Frame) with fn := f, kind := .deferred }
  have henter : Frame.enter P f args.toArray .deferred = b.atR (Act.mk (fr n (ini 0 args)) []) [.code c] := by
    simp only [Frame.enter, Frame.atR, hf, hb, b, Option.bind_some, Option.getD_some, Option.map_some, hn]
    rw [fr_ini n args (Nat.le_of_ble_eq_true hlen)]
    rfl
  have := h (goalD P c0 cs R) b c0 cs rfl rfl
    (fun m u' w' v hr hR todo => ⟨.returned v, u', w', _, hR, Steps.refl P _, rfl, rfl, rfl, fn, hf, hr⟩)
  rw [henter]
  have e : c0 = { c0 with mode := u } := by
    cases c0
    cases hu
    rfl
  rw [e]
  exact this
variable {ops : Array Oper} {l : List Oper} {i : Nat} {c0 : Frame} {ats : Array TypeId}
theorem sr_recover {v : Value} {older : List PanicEntry} (hb : b.roundOf = none) (hk : b.kind = .deferred)
    (h : Sr G b n ((d, v) :: m) ds ops l (i + 1) k ({ c0 with mode := .panicking ({ v, recovered := true } :: older) } :: cs) w) :
    Sr G b n m ds ops (⟨some d, .call { callee := .builtin .recover, args := #[], argTypes := ats }, ty, pos, aft, none⟩ :: l) i k ({ c0 with mode := .panicking ({ v, recovered := false } :: older) } :: cs) w := by
  intro hl
  have h0 : ops[i]? = some ⟨some d, .call { callee := .builtin .recover, args := #[], argTypes := ats }, ty, pos, aft, none⟩ := by simpa using (hl 0).symm
  rw [List.length_cons, List.range'_succ]
  have hgo := stepGR_op (P := P) (b := b) (a := Act.mk (fr n m) ds) (k := k) (cs := { c0 with mode := .panicking ({ v, recovered := false } :: older) } :: cs) (w := w) (rest := List.range' (i + 1) l.length) h0 (by simp [Region.wanted])
  have hfin := Frame.finish_atR b (Act.mk (fr n m) ds) ops i (List.range' (i + 1) l.length) k v
  rw [h0] at hfin
  refine G.back _ _ (step_lone_go (fr' := b.atR (Act.mk (fr n ((d, v) :: m)) ds) (.inRegion ops (List.range' (i + 1) l.length) :: k)) (cs' := { c0 with mode := .panicking ({ v, recovered := true } :: older) } :: cs) (w' := w) ?_) (h (sr_next hl))
  rw [hgo, hb, Oper.semAt_none, act_eval]
  have hr : (execOp (ev n m) ⟨some d, .call { callee := .builtin .recover, args := #[], argTypes := ats }, ty, pos, aft, none⟩).run P w = .ok .recover w := by
    simp [execOp, resolve, invoke, builtin]
  have hput : (Act.mk (fr n m) ds).put (some d) v = Act.mk (fr n ((d, v) :: m)) ds := act_put ..
  simp only [stepG.apply, Sem.runT_eq, hr]
  simp only [Frame.atR, Option.bind_some, hb, hk] at hfin ⊢
  rw [hput] at hfin
  simp [tryRecover, hfin]
theorem sr_recover_none (hb : b.roundOf = none) (hk : b.kind = .deferred)
    (h : Sr G b n ((d, .nilIface) :: m) ds ops l (i + 1) k ({ c0 with mode := .returning } :: cs) w) :
    Sr G b n m ds ops (⟨some d, .call { callee := .builtin .recover, args := #[], argTypes := ats }, ty, pos, aft, none⟩ :: l) i k ({ c0 with mode := .returning } :: cs) w := by
  intro hl
  have h0 : ops[i]? = some ⟨some d, .call { callee := .builtin .recover, args := #[], argTypes := ats }, ty, pos, aft, none⟩ := by simpa using (hl 0).symm
  rw [List.length_cons, List.range'_succ]
  have hgo := stepGR_op (P := P) (b := b) (a := Act.mk (fr n m) ds) (k := k) (cs := { c0 with mode := .returning } :: cs) (w := w) (rest := List.range' (i + 1) l.length) h0 (by simp [Region.wanted])
  have hfin := Frame.finish_atR b (Act.mk (fr n m) ds) ops i (List.range' (i + 1) l.length) k .nilIface
  rw [h0] at hfin
  refine G.back _ _ (step_lone_go (fr' := b.atR (Act.mk (fr n ((d, .nilIface) :: m)) ds) (.inRegion ops (List.range' (i + 1) l.length) :: k)) (cs' := { c0 with mode := .returning } :: cs) (w' := w) ?_) (h (sr_next hl))
  rw [hgo, hb, Oper.semAt_none, act_eval]
  have hr : (execOp (ev n m) ⟨some d, .call { callee := .builtin .recover, args := #[], argTypes := ats }, ty, pos, aft, none⟩).run P w = .ok .recover w := by
    simp [execOp, resolve, invoke, builtin]
  have hput : (Act.mk (fr n m) ds).put (some d) .nilIface = Act.mk (fr n ((d, .nilIface) :: m)) ds := act_put ..
  simp only [stepG.apply, Sem.runT_eq, hr]
  simp only [Frame.atR, Option.bind_some, hb, hk] at hfin ⊢
  rw [hput] at hfin
  simp [tryRecover, hfin]
end
section
variable {P : Program} {n : Nat} {m : Sl} {w : World} {X : Sl → World → Prop} {Q : List PanicEntry → World → Prop}
variable {d : Nat} {t ty : TypeId} {pos : String} {aft : Array Edge} {gd : Option (Nat × Bool)} {x y : Operand}
theorem run_equalIn0 {ms : Array (String × TypeId)} (ht : P.underlying t = some (.interface ms)) (q : Nat) : (Op.equalIn (q + 1) t .nilIface .nilIface).run P w = .ok true w := by
  simp [Op.equalIn, Sem.run_bind, underlying, program, Sem.run, ht, Result.andThen]
theorem run_equalIn1 {ms : Array (String × TypeId)} (ht : P.underlying t = some (.interface ms)) {u : TypeId} {v : Value} (q : Nat) : (Op.equalIn (q + 1) t (.iface u v) .nilIface).run P w = .ok false w := by
  simp [Op.equalIn, Sem.run_bind, underlying, program, Sem.run, ht, Result.andThen]
theorem run_equalIn_nil {ms : Array (String × TypeId)} (ht : P.underlying t = some (.interface ms)) : (Op.equal t .nilIface .nilIface).run P w = .ok true w := run_equalIn0 ht 9999
theorem run_equalIn_iface {ms : Array (String × TypeId)} (ht : P.underlying t = some (.interface ms)) {u : TypeId} {v : Value} : (Op.equal t (.iface u v) .nilIface).run P w = .ok false w := run_equalIn1 ht 9999
theorem ow_neqNil0 {ms : Array (String × TypeId)} (ht : P.underlying t = some (.interface ms)) (hx : ev n m x = .nilIface) (h : X ((d, .bool false) :: m) w) {t' : TypeId} : Ow P n ⟨some d, .binOp .neq t x (.const .nilIface) t', ty, pos, aft, gd⟩ X Q m w :=
  ow_val (v := .bool false) (w' := w) (by simp [execOp, eqGuard, binOp, show ev n m (.const .nilIface) = .nilIface from rfl, hx, Sem.run_bind, run_equalIn_nil ht, Result.andThen]) h
theorem ow_neqNil1 {ms : Array (String × TypeId)} (ht : P.underlying t = some (.interface ms)) {u : TypeId} {v : Value} (hx : ev n m x = .iface u v) (h : X ((d, .bool true) :: m) w) {t' : TypeId} : Ow P n ⟨some d, .binOp .neq t x (.const .nilIface) t', ty, pos, aft, gd⟩ X Q m w :=
  ow_val (v := .bool true) (w' := w) (by simp [execOp, eqGuard, binOp, show ev n m (.const .nilIface) = .nilIface from rfl, hx, Sem.run_bind, run_equalIn_iface ht, Result.andThen]) h
def plainT : TypeDesc → Bool
  | .interface _ => false
  | _ => true
theorem ow_assert2 {D : TypeDesc} (ht : P.underlying t = some D) (hD : plainT D = true) {v : Value} (hx : ev n m x = .iface t v) {xt : TypeId} (h : X ((d, .tuple #[v, .bool true]) :: m) w) : Ow P n ⟨some d, .typeAssert x xt t true, ty, pos, aft, gd⟩ X Q m w :=
  ow_val (v := .tuple #[v, .bool true]) (w' := w) (by
    cases D <;> first | (exfalso; revert hD; simp [plainT]; done) | simp [execOp, Instr.typeAssert, hx, Sem.run_bind, underlying, program, Sem.run, ht, Result.andThen]) h
theorem ow_assert1 {D : TypeDesc} (ht : P.underlying t = some D) (hD : plainT D = true) {v : Value} (hx : ev n m x = .iface t v) {xt : TypeId} (h : X ((d, v) :: m) w) : Ow P n ⟨some d, .typeAssert x xt t false, ty, pos, aft, gd⟩ X Q m w :=
  ow_val (v := v) (w' := w) (by
    cases D <;> first | (exfalso; revert hD; simp [plainT]; done) | simp [execOp, Instr.typeAssert, hx, Sem.run_bind, underlying, program, Sem.run, ht, Result.andThen]) h
end
end Go.Proofs.YtghmjnbpkobooaaGreatDoor
