/-
  A loop over a function that hands out a list: the iterator's contract, and the rule for the loop. Plain theorems over whatever program.
-/
import Derived.Test.YtghmjnbpkobooaaGreatDoorB5
import Derived.Laws.Externs
import Derived.Lib.Bytealg
set_option linter.unusedVariables false
set_option linter.unusedSimpArgs false
namespace Go.Proofs.YtghmjnbpkobooaaGreatDoor
open Go Go.RowKit

section
variable {P : Program} {G : Gd P} {b : Frame} {n : Nat} {m : Sl} {ds : List Deferred} {k : List Item} {cs : List Frame} {w : World} {ch : List PanicEntry}
variable {B : World} {I : Im} {L : List (Nat × Obj)} {α : Type}
abbrev Js (α : Type) := List α → Im → List (Nat × Obj) → Prop
/-- How a loop's consumer stands: J pre behind the elements pre, S where it was left by a jump, T where it panics. -/
def YOk (P : Program) (B : World) (mkv : List Value → Value) (enc : α → List Dat) (y : Value) (all : List α) (J : Js α) (S : Im → List (Nat × Obj) → Prop) (T : List PanicEntry → Im → List (Nat × Obj) → Prop) : Prop :=
  ∀ pre q I Lx Lo w us, pre ++ [q] <+: all → Hp B I w (Lx ++ Lo) → J pre I Lo → RepL I (enc q) us →
    Yl P y [mkv us] w fun e w' => ∃ I' Lo', Le I I' ∧ Hp B I' w' (Lx ++ Lo') ∧
      ((e = .returned (.bool true) ∧ J (pre ++ [q]) I' Lo') ∨ (e = .returned (.bool false) ∧ S I' Lo') ∨ (∃ ch, e = .panicked ch ∧ T ch I' Lo'))
/-- The iterator: it hands out the items, one after the other, as long as it is told to go on. -/
def IterOk (P : Program) (B : World) (I0 : Im) (f : FuncId) (cap : List Value) (mkv : List Value → Value) (enc : α → List Dat) (items : List α) (Q : α → Prop) : Prop :=
  ∀ (l0 : Nat) (J : Js α) (S : Im → List (Nat × Obj) → Prop) (T : List PanicEntry → Im → List (Nat × Obj) → Prop), YOk P B mkv enc (.func (.yield l0) #[] #[]) items J S T → (∀ pre q I Lo, J (pre ++ [q]) I Lo → Q q) → (∀ pre I I' Lo, Le I I' → J pre I Lo → J pre I' Lo) →
    ∀ I Lx Lo w, Le I0 I → Hp B I w (Lx ++ Lo) → J [] I Lo → Calls P f (.func (.yield l0) #[] #[] :: cap).toArray w fun e w' => ∃ I' Lo', Le I I' ∧ Hp B I' w' (Lx ++ Lo') ∧
      ((∃ v, e = .returned v ∧ (J items I' Lo' ∨ S I' Lo')) ∨ (∃ ch, e = .panicked ch ∧ T ch I' Lo'))
theorem IterOk.mono {I0 I1 : Im} {f : FuncId} {cap : List Value} {mkv : List Value → Value} {enc : α → List Dat} {items : List α} {Q : α → Prop} (hle : Le I0 I1) (h : IterOk P B I0 f cap mkv enc items Q) : IterOk P B I1 f cap mkv enc items Q :=
  fun l0 J S T hy hq hm I Lx Lo w hI => h l0 J S T hy hq hm I Lx Lo w (Le.trans hle hI)
/-- How the body of a loop may be left, as the one who writes the loop sees it. -/
structure BodyEnds {P : Program} (G : Gd P) (b : Frame) (n : Nat) (cs : List Frame) (B : World) (I1 : Im) (Lx : List (Nat × Obj)) (l : Nat) (rc : Loop) (Jn : Im → List (Nat × Obj) → Prop) (S : Code → Im → List (Nat × Obj) → Prop) (T : List PanicEntry → Im → List (Nat × Obj) → Prop) : Prop where
  on : ∀ {m w I Lo}, Le I1 I → Hp B I w ((l, .loop (rcS rc .busy none)) :: (Lo ++ Lx)) → Jn I Lo → St G b n m [] [] cs w
  ret : ∀ {m w I Lo k}, Le I1 I → Hp B I w ((l, .loop (rcS rc .busy none)) :: (Lo ++ Lx)) → S .ret I Lo → St G b n m [] (.code .ret :: k) cs w
  exit : ∀ {m w I Lo k id}, exitTo id k = none → Le I1 I → Hp B I w ((l, .loop (rcS rc .busy none)) :: (Lo ++ Lx)) → S (.exit id) I Lo → St G b n m [] (.code (.exit id) :: k) cs w
  pan : ∀ {w I Lo ch}, Le I1 I → Hp B I w ((l, .loop (rcS rc .busy none)) :: (Lo ++ Lx)) → T ch I Lo → Pk G b ch [] cs w
theorem st_range {mkv : List Value → Value} {enc : α → List Dat} {items : List α} {Q : α → Prop} {f fi : FuncId} {fn : Func} {cap : List Value} {g : Operand} {p : Tmp} {asg body : Code}
    (hit : IterOk P B I f cap mkv enc items Q) (hb : b.roundOf = none) (hfi : b.fn = fi) (hfn : P.funcs[fi]? = some fn) (hg : ev n m g = .func (.func f) #[] cap.toArray) (he : Ent P f)
    (Lo Lf : List (Nat × Obj)) (H : Hp B I w (Lo ++ Lf))
    (J : Js α) (S : Code → Im → List (Nat × Obj) → Prop) (T : List PanicEntry → Im → List (Nat × Obj) → Prop) (h0 : J [] I Lo) (hQ : ∀ pre q I Lo, J (pre ++ [q]) I Lo → Q q) (hJm : ∀ pre I I' Lo, Le I I' → J pre I Lo → J pre I' Lo)
    (hbody : ∀ (pre : List α) (q : α) (us : List Value) (I1 : Im) (Lx Lo : List (Nat × Obj)) (w1 : World) (l : Nat) (rc : Loop) (G1 : Gd P) (b1 : Frame) (cs1 : List Frame), pre ++ [q] <+: items → Le I I1 → J pre I1 Lo → RepL I1 (enc q) us →
      b1.roundOf = some l → BodyEnds G1 b1 n cs1 B I1 Lx l rc (J (pre ++ [q])) S T → Hp B I1 w1 ((l, .loop (rcS rc .ready none)) :: (Lo ++ Lx)) →
      St G1 b1 n ((p, mkv us) :: m) [] [.code asg, .beginRound, .code body] cs1 w1)
    (hnext : ∀ r I1 Lo w1, Le I I1 → J items I1 Lo → Hp B I1 w1 ((r, dfo) :: (Lo ++ Lf)) → St G b n m (mk1 r :: ds) k cs w1)
    (hstop : ∀ r c I1 Lo w1, Le I I1 → S c I1 Lo → Hp B I1 w1 ((r, dfo) :: (Lo ++ Lf)) → St G b n m (mk1 r :: ds) (.code c :: k) cs w1)
    (hpan : ∀ r ch I1 Lo w1, Le I I1 → T ch I1 Lo → Hp B I1 w1 ((r, dfo) :: (Lo ++ Lf)) → Pk1 G b n m ch (mk1 r :: ds) cs w1) :
    St G b n m ds (.code (.rangeFunc g #[p] asg body) :: k) cs w := by
  refine st_rangeFunc hfi hb hg he H fun r l w' rc hrc H1 => ?_
  have hperm : ∀ (o : Obj) (Lo Lx : List (Nat × Obj)), (Lx ++ ((l, o) :: Lo)).Perm ((l, o) :: (Lo ++ Lx)) := fun o Lo Lx => by
    refine List.perm_middle.trans ?_
    exact (List.perm_append_comm).cons _
  have hy : YOk P B mkv enc (.func (.yield l) #[] #[]) items
      (fun pre I1 L1 => Le I I1 ∧ ∃ Lo, L1 = (l, .loop (rcS rc .ready none)) :: Lo ∧ J pre I1 Lo)
      (fun I1 L1 => Le I I1 ∧ ∃ Lo c, L1 = (l, .loop (rcS rc .done (some c))) :: Lo ∧ S c I1 Lo)
      (fun ch I1 L1 => Le I I1 ∧ ∃ Lo o, L1 = (l, o) :: Lo ∧ T ch I1 Lo) := by
    rintro pre q I1 Lx _ w1 us hpre H2 ⟨hle, Lo, rfl, hJ⟩ hr
    have H3 := H2.perm (hperm _ Lo Lx).symm
    subst hrc
    refine yl_one (n := n) (m := m) H3 0 rfl rfl rfl ?_
    refine rounds_st hfn fun G1 b1 cs1 hb1 hfn1 E => ?_
    refine hbody pre q us I1 Lx Lo w1 l _ G1 b1 cs1 hpre hle hJ hr hb1 ⟨?_, ?_, ?_, ?_⟩ H3
    · intro m2 w2 I2 Lo2 hle2 H4 hJ2
      refine E.on_ H4 0 rfl fun w3 H5 => ⟨I2, _, hle2, H5.perm (hperm _ Lo2 Lx), .inl ⟨rfl, Le.trans hle hle2, Lo2, rfl, hJ2⟩⟩
    · intro m2 w2 I2 Lo2 k2 hle2 H4 hS2
      refine E.ret_ H4 0 rfl fun w3 H5 => ⟨I2, _, hle2, H5.perm (hperm _ Lo2 Lx), .inr (.inl ⟨rfl, Le.trans hle hle2, Lo2, .ret, rfl, hS2⟩)⟩
    · intro m2 w2 I2 Lo2 k2 id hx hle2 H4 hS2
      refine E.exit_ hx H4 0 rfl fun w3 H5 => ⟨I2, _, hle2, H5.perm (hperm _ Lo2 Lx), .inr (.inl ⟨rfl, Le.trans hle hle2, Lo2, .exit id, rfl, hS2⟩)⟩
    · intro w2 I2 Lo2 ch2 hle2 H4 hT2
      exact E.pan _ _ ⟨I2, _, hle2, H4.perm (hperm _ Lo2 Lx), .inr (.inr ⟨ch2, rfl, Le.trans hle hle2, Lo2, _, rfl, hT2⟩)⟩
  have H2 : Hp B I w' (((r, dfo) :: Lf) ++ ((l, .loop (rcS rc .ready none)) :: Lo)) := by
    refine H1.perm ((hperm _ Lo ((r, dfo) :: Lf)).trans ?_)
    exact (List.perm_middle).cons _
  refine Calls.mono (hit _ _ _ _ hy (fun pre q I1 L1 h => ?_) (fun pre I1 I2 L1 hle h => ?_) I _ _ w' (Le.refl I) H2 ⟨Le.refl I, Lo, rfl, h0⟩) fun e w2 hR => ?_
  · obtain ⟨_, Lo1, _, h⟩ := h
    exact hQ _ _ _ _ h
  · obtain ⟨hle1, Lo1, rfl, h⟩ := h
    exact ⟨Le.trans hle1 hle, Lo1, rfl, hJm _ _ _ _ hle h⟩
  obtain ⟨I2, L2, hle2, H3, hR⟩ := hR
  have hback : ∀ (o : Obj) (Lo : List (Nat × Obj)), ((l, o) :: ((r, dfo) :: (Lo ++ Lf))).Perm (((r, dfo) :: Lf) ++ ((l, o) :: Lo)) := fun o Lo => by
    refine List.Perm.trans ?_ (hperm o Lo ((r, dfo) :: Lf)).symm
    exact (List.perm_middle.symm).cons _
  rcases hR with ⟨v, rfl, hJS⟩ | ⟨ch2, rfl, _, Lo2, o, rfl, hT2⟩
  · rcases hJS with ⟨_, Lo2, rfl, hJ2⟩ | ⟨_, Lo2, c, rfl, hS2⟩
    · exact ⟨I2, _, .ready, none, H3.perm (hback _ Lo2), by simp, fun w3 H4 => hnext r I2 Lo2 w3 hle2 hJ2 H4⟩
    · exact ⟨I2, _, .done, some c, H3.perm (hback _ Lo2), by simp, fun w3 H4 => hstop r c I2 Lo2 w3 hle2 hS2 H4⟩
  · exact hpan r ch2 I2 Lo2 w2 hle2 hT2 (H3.perm (hback _ Lo2)).tail
variable {X : Sl → World → Prop} {Qp : List PanicEntry → World → Prop} {d : Nat} {ty : TypeId} {pos : String} {aft : Array Edge} {gd : Option (Nat × Bool)}
/-- The iterator calls yield. -/
theorem ow_yieldJ {mkv : List Value → Value} {enc : α → List Dat} {y : Value} {all : List α} {J : Js α} {S : Im → List (Nat × Obj) → Prop} {T : List PanicEntry → Im → List (Nat × Obj) → Prop} (hy : YOk P B mkv enc y all J S T)
    {g : Operand} {xs : List Operand} {ats : Array TypeId} {us : List Value} (hg : ev n m g = y) (ha : xs.map (ev n m) = [mkv us]) (pre : List α) (q : α) (hpre : pre ++ [q] <+: all) (Lx Lo : List (Nat × Obj)) (H : Hp B I w (Lx ++ Lo)) (hJ : J pre I Lo) (hr : RepL I (enc q) us)
    (h : ∀ v I' Lo' w', Le I I' → Hp B I' w' (Lx ++ Lo') → (v = true → J (pre ++ [q]) I' Lo') → (v = false → S I' Lo') → X ((d, .bool v) :: m) w')
    (hp : ∀ ch I' Lo' w', Le I I' → Hp B I' w' (Lx ++ Lo') → T ch I' Lo' → Qp ch w') : Ow P n ⟨some d, .call { callee := .value g, args := xs.toArray, argTypes := ats }, ty, pos, aft, gd⟩ X Qp m w := by
  refine ow_yield hg ha (hy pre q I Lx Lo w us hpre H hJ hr) ?_
  rintro e w' ⟨I', Lo', hle, H', ⟨rfl, hJ'⟩ | ⟨rfl, hS⟩ | ⟨ch, rfl, hT⟩⟩
  · exact h true I' Lo' w' hle H' (fun _ => hJ') (fun e => by cases e)
  · exact h false I' Lo' w' hle H' (fun e => by cases e) (fun _ => hS)
  · exact hp ch I' Lo' w' hle H' hT
theorem st_indD (Inv : Nat → Sl → List Deferred → World → Prop) (d : Nat) (h0 : Inv d m ds w) (step : ∀ d m ds w, Inv d m ds w → (∀ d' m' ds' w', d' < d → Inv d' m' ds' w' → St G b n m' ds' k cs w') → St G b n m ds k cs w) : St G b n m ds k cs w := by
  have key : ∀ N d m ds w, d < N → Inv d m ds w → St G b n m ds k cs w := by
    intro N
    induction N with
    | zero => intro d m ds w hd; omega
    | succ N ih => exact fun d m ds w hd hi => step d m ds w hi fun d' m' ds' w' hd' hi' => ih d' m' ds' w' (by omega) hi'
  exact key (d + 1) d m ds w (by omega) h0
/-- A call of a function that has no text, by the model's entry. -/
theorem ow_ext {f : FuncId} {fn : Func} {e : Array Value → Sem Value} (hf : P.funcs[f]? = some fn) (hname : (fn.name == "runtime.NumGoroutine") = false) (hb : fn.body.isNone = true) (hn : Extern.findNext fn = none) (he : Extern.find fn = some e)
    {xs : List Operand} {args : List Value} (ha : xs.map (ev n m) = args) {ats : Array TypeId} {v : Value} {w' : World} (hr : (e args.toArray).run P w = .ok v w') (h : X ((d, v) :: m) w') : Ow P n ⟨some d, .call { callee := .value (.func f), args := xs.toArray, argTypes := ats }, ty, pos, aft, gd⟩ X Qp m w := by
  refine ow_val (v := v) (w' := w') ?_ h
  have hc := run_callFunc_extern (P := P) hf hname hb hn he args.toArray w
  have : (execOp (ev n m) ⟨some d, .call { callee := .value (.func f), args := xs.toArray, argTypes := ats }, ty, pos, aft, gd⟩).run P w = (callFunc f args.toArray).run P w := by
    simp [execOp, resolve, show ev n m (.func f) = .func (.func f) #[] #[] from rfl, Deferred.ofValue, invoke, Sem.run_bind, Result.andThen, ← ha]
  rw [this, hc, hr]
  rfl
theorem CallsD.mono' {f : FuncId} {args : Array Value} {u : FrameMode} {R R' : Ending → FrameMode → World → Prop} (h : CallsD P f args u w R) (hr : ∀ e u' w', R e u' w' → R' e u' w') : CallsD P f args u w R' :=
  fun c cs hu => let ⟨e, u', w', fr, hR, h1⟩ := h c cs hu; ⟨e, u', w', fr, hr _ _ _ hR, h1⟩
theorem ow_indexAddrP {t e : TypeId} {x y : Operand} {sz : Nat} {ag : Bool} {z : Value} {by_ : Nat} {len : Nat} (ht : P.underlying t = some (.array len e)) (he : Ty P e sz ag z by_) {g o : Nat} {k : IntKind} {i : Int} (hx : ev n m x = .pointer (some ⟨g, o, none⟩)) (hy : ev n m y = .int k i) (h0 : 0 ≤ i) (h1 : i < (len : Int)) {r : Nat} (hr : o + i.toNat * sz = r)
    (h : X ((d, .pointer (some ⟨g, r, none⟩)) :: m) w) : Ow P n ⟨some d, .indexAddr t x y, ty, pos, aft, gd⟩ X Qp m w :=
  ow_val (v := .pointer (some ⟨g, r, none⟩)) (w' := w) (by
    simp [execOp, Instr.indexAt, Instr.sureAddr, asIntOf, underlying, program, Sem.run, hx, hy, ht, Sem.run_bind, Result.andThen, h0, h1, he.size, add_mk, hr]) h
theorem ow_max {x y : Operand} {a c : Int} {k : IntKind} {ats : Array TypeId} (hx : ev n m x = .int k a) (hy : ev n m y = .int k c) (h : X ((d, .int k (max a c)) :: m) w) : Ow P n ⟨some d, .call { callee := .builtin .max, args := #[x, y], argTypes := ats }, ty, pos, aft, gd⟩ X Qp m w :=
  ow_val (v := .int k (max a c)) (w' := w) (by
    simp [execOp, resolve, invoke, builtin, Builtin.max_, Builtin.max2, hx, hy, Sem.run_bind, Result.andThen]
    split <;> omega) h
theorem at_ob {I : Im} {g : Nat} {cs : List Value} {t : TypeId} (h : I g = some (Ob cs t)) : At I g 0 cs := ⟨cs.toArray, t, (0, 0), h, fun j u hu => by simpa using hu⟩
end
theorem freeze_at {B : World} {I : Im} {w : World} {L L' : List (Nat × Obj)} {g : Nat} {cs : List Value} {e : TypeId} (k : Nat) (hk : L[k]? = some (g, Ob cs e)) (h : Hp B I w L) (hL : L.eraseIdx k = L') : ∃ I', Le I I' ∧ Hp B I' w L' ∧ At I' g 0 cs := by
  subst hL
  have hp : ∀ (l : List (Nat × Obj)) (k : Nat) (p : Nat × Obj), l[k]? = some p → (p :: l.eraseIdx k).Perm l := by
    intro l
    induction l with
    | nil => intro k p h; simp at h
    | cons a l ih =>
      intro k p h
      cases k with
      | zero =>
        simp only [List.getElem?_cons_zero, Option.some.injEq] at h
        subst h
        exact List.Perm.refl _
      | succ k => exact (List.Perm.swap _ _ _).trans ((ih k p (by simpa using h)).cons a)
  have h1 := h.perm (hp L k _ hk)
  have hg : I g = none := h1.sep (g, Ob cs e) (List.mem_cons_self ..)
  exact ⟨_, Im.le_put hg, Hp.freeze h1, at_ob (Im.at_put I g (Ob cs e))⟩
end Go.Proofs.YtghmjnbpkobooaaGreatDoor
