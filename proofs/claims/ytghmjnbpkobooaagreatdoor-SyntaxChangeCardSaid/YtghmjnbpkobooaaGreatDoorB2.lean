/-
  The operations, one law each, over slots as lists and memory in two parts. Plain theorems over whatever program.
-/
import Derived.Test.YtghmjnbpkobooaaGreatDoorB1
import Derived.Maps.AppendAt
set_option linter.unusedVariables false
set_option linter.unusedSimpArgs false
namespace Go.Proofs.YtghmjnbpkobooaaGreatDoor
open Go Go.RowKit

def aggD : TypeDesc → Bool
  | .struct _ => true
  | .array _ _ => true
  | _ => false
/-- A type's row: its size in cells, whether it is a struct or an array, its zero value, its bytes. -/
structure Ty (P : Program) (t : TypeId) (sz : Nat) (ag : Bool) (z : Value) (by_ : Nat) : Prop where
  info : (P.info? t).map (fun i => (i.size, i.zero, i.bytes)) = some (sz, some z, by_)
  und : (P.underlying t).map aggD = some ag
/-- Field f of the struct type s: where it begins, its type. -/
def Fd (P : Program) (s f off : Nat) (ft : TypeId) : Prop := ∃ fs fd, P.underlying s = some (.struct fs) ∧ fs[f]? = some fd ∧ fd.offset = off ∧ fd.type = ft
def rdv (ag : Bool) (cs : List Value) (off sz : Nat) : Value := bif ag then .agg ((cs.drop off).take sz).toArray else (cs.drop off).headD undef
def mkv (ag : Bool) (us : List Value) : Value := bif ag then .agg us.toArray else us.headD undef
def vcs : Value → List Value
  | .agg a => a.toList
  | v => [v]
def wr (cs : List Value) (off : Nat) (us : List Value) : List Value := cs.take off ++ (us ++ cs.drop (off + us.length))
def one : Value → Bool
  | .agg _ => false
  | .tuple _ => false
  | _ => true

section
variable {P : Program} {B : World} {I : Im} {L : List (Nat × Obj)} {n : Nat} {m : Sl} {w : World} {X : Sl → World → Prop} {Q : List PanicEntry → World → Prop}
variable {d : Nat} {t ty : TypeId} {pos : String} {aft : Array Edge} {gd : Option (Nat × Bool)} {x y : Operand}

theorem Ty.parts {t : TypeId} {sz : Nat} {ag : Bool} {z : Value} {by_ : Nat} (h : Ty P t sz ag z by_) : ∃ i, P.info? t = some i ∧ i.size = sz ∧ i.zero = some z ∧ i.bytes = by_ := by
  obtain ⟨i, hi, he⟩ := Option.map_eq_some_iff.1 h.info
  simp only [Prod.mk.injEq] at he
  exact ⟨i, hi, he⟩
theorem Ty.size {t : TypeId} {sz : Nat} {ag : Bool} {z : Value} {by_ : Nat} (h : Ty P t sz ag z by_) (w : World) : (sizeOf t).run P w = .ok sz w := by
  obtain ⟨i, hi, h1, _⟩ := h.parts
  simp [sizeOf, typeInfo, program, Sem.run, hi, h1]
theorem Ty.zero {t : TypeId} {sz : Nat} {ag : Bool} {z : Value} {by_ : Nat} (h : Ty P t sz ag z by_) (w : World) : (zeroValue t).run P w = .ok z w := by
  obtain ⟨i, hi, _, h2, _⟩ := h.parts
  simp [zeroValue, typeInfo, program, Sem.run, hi, h2]
theorem Ty.agg {t : TypeId} {sz : Nat} {ag : Bool} {z : Value} {by_ : Nat} (h : Ty P t sz ag z by_) (w : World) : (isAgg t).run P w = .ok ag w := by
  obtain ⟨D, hD, ha⟩ := Option.map_eq_some_iff.1 h.und
  cases D <;> simp [aggD] at ha <;> subst ha <;> simp [isAgg, underlying, program, Sem.run, hD]

/-! ### Loads and stores of several cells -/
theorem run_loadCellsFrom (w : World) (a : Addr) : ∀ (us : List Value) (i : Nat) (acc : Array Value), (∀ j u, us[j]? = some u → w.cell? (a.add (i + j)) = some u) → (loadCellsFrom a i us.length acc).run P w = .ok (acc ++ us.toArray) w
  | [], i, acc, _ => by simp [loadCellsFrom, Sem.run]
  | u :: us, i, acc, h => by
    have h0 := h 0 u rfl
    have ih := run_loadCellsFrom w a us (i + 1) (acc.push u) (fun j v hj => by
      have := h (j + 1) v (by simpa using hj)
      rwa [show i + 1 + j = i + (j + 1) by omega])
    simp only [List.length_cons, loadCellsFrom, load, Sem.run_bind]
    simp only [Sem.run, Nat.add_zero] at h0 ⊢
    rw [h0]
    simp only [Sem.run, Result.andThen]
    rw [ih]
    simp
theorem run_loadVar {t : TypeId} {sz : Nat} {ag : Bool} {z : Value} {by_ : Nat} (ht : Ty P t sz ag z by_) {a : Addr} {us : List Value} (hl : us.length = sz) (h1 : ag = false → sz = 1) (h : ∀ j u, us[j]? = some u → w.cell? (a.add j) = some u) :
    (loadVar t a).run P w = .ok (mkv ag us) w := by
  cases ag with
  | true =>
    have := run_loadCellsFrom (P := P) w a us 0 #[] (fun j u hj => by rw [Nat.zero_add]; exact h j u hj)
    rw [hl] at this
    simp [loadVar, Sem.run_bind, ht.agg, ht.size, Result.andThen, loadCells, this, mkv, Sem.run]
  | false =>
    obtain ⟨u, rfl⟩ : ∃ u, us = [u] := List.length_eq_one_iff.1 (hl.trans (h1 rfl))
    have := h 0 u rfl
    simp [loadVar, Sem.run_bind, ht.agg, Result.andThen, load, Sem.run, mkv] at this ⊢
    simp [Addr.add] at this
    rw [this]
theorem add_mk (g off j : Nat) : (⟨g, off, none⟩ : Addr).add j = ⟨g, off + j, none⟩ := by
  unfold Addr.add
  split
  · rename_i h
    subst h
    rfl
  · rfl
theorem cell_Ob {w : World} {g : Nat} {cs : List Value} {e : TypeId} (h : w.heap[g]? = some (Ob cs e)) (j : Nat) : w.cell? ⟨g, j, none⟩ = cs[j]? := by
  simp [World.cell?, h]
theorem frozen_Ob {w : World} {g : Nat} {cs : List Value} {e : TypeId} (h : w.heap[g]? = some (Ob cs e)) (j : Nat) : w.frozen? ⟨g, j, none⟩ = false := by
  simp [World.frozen?, h]
theorem cell_At {w : World} (H : Hp B I w L) {b off : Nat} {us : List Value} (ha : At I b off us) : ∀ j u, us[j]? = some u → w.cell? ((⟨b, off, none⟩ : Addr).add j) = some u := by
  obtain ⟨cs, e, fz, hb, hc⟩ := ha
  intro j u hu
  rw [add_mk]
  simpa [World.cell?, H.imm _ _ hb] using hc j u hu

theorem ow_val {o : Oper} {v : Value} {w' : World} (hr : (execOp (ev n m) o).run P w = .ok (.value v) w') (h : X (pt o.dst v m) w') : Ow P n o X Q m w := by
  unfold Ow
  rw [hr]
  exact h
theorem ow_move {v : Value} (hx : ev n m x = v) (h : X ((d, v) :: m) w) : Ow P n ⟨some d, .move x, ty, pos, aft, gd⟩ X Q m w :=
  ow_val (v := v) (w' := w) (by simp [execOp, hx]) h
theorem ow_assign {v : Value} (hx : ev n m x = v) (h : X ((d, v) :: m) w) : Ow P n ⟨some d, .assign x, ty, pos, aft, gd⟩ X Q m w :=
  ow_val (v := v) (w' := w) (by simp [execOp, hx]) h
theorem ow_alloc {sz : Nat} {ag : Bool} {z : Value} {by_ : Nat} (ht : Ty P t sz ag z by_) (H : Hp B I w L) (cs : List Value) (hz : z.cells = cs.toArray) (h : ∀ g w', Hp B I w' ((g, Ob cs t) :: L) → X ((d, .pointer (some ⟨g, 0, none⟩)) :: m) w') :
    Ow P n ⟨some d, .alloc t, ty, pos, aft, gd⟩ X Q m w :=
  ow_val (v := .pointer (some ⟨w.heap.size, 0, none⟩)) (w' := w.alloc (Ob cs t))
    (by simp [execOp, Instr.alloc, Sem.run_bind, ht.zero, Result.andThen, newVar, newRow, newObj, Sem.run, hz]) (h _ _ (H.alloc _))
theorem ow_box (H : Hp B I w L) {v : Value} (hx : ev n m x = v) (cs : List Value) (hz : v.cells = cs.toArray) (h : ∀ g w', Hp B I w' ((g, Ob cs t) :: L) → X ((d, .pointer (some ⟨g, 0, none⟩)) :: m) w') :
    Ow P n ⟨some d, .box t x, ty, pos, aft, gd⟩ X Q m w :=
  ow_val (v := .pointer (some ⟨w.heap.size, 0, none⟩)) (w' := w.alloc (Ob cs t))
    (by simp [execOp, Instr.box, Sem.run_bind, Result.andThen, newVar, newRow, newObj, Sem.run, hx, hz]) (h _ _ (H.alloc _))
/-- A load out of a block of the call's own. -/
theorem ow_load {sz : Nat} {ag : Bool} {z : Value} {by_ : Nat} (ht : Ty P t sz ag z by_) (H : Hp B I w L) {g off : Nat} (hx : ev n m x = .pointer (some ⟨g, off, none⟩)) {cs : List Value} {e : TypeId} (k : Nat) (hk : L[k]? = some (g, Ob cs e))
    (hl : Nat.ble (off + sz) cs.length = true) (h1 : (ag || Nat.beq sz 1) = true) {v : Value} (hv : rdv ag cs off sz = v) (h : X ((d, v) :: m) w) : Ow P n ⟨some d, .load t x, ty, pos, aft, gd⟩ X Q m w := by
  have hg := H.own _ (List.mem_of_getElem? hk)
  have hl' : off + sz ≤ cs.length := Nat.le_of_ble_eq_true hl
  have := run_loadVar (w := w) ht (a := ⟨g, off, none⟩) (us := (cs.drop off).take sz) (by simp; omega) (fun e0 => by subst e0; exact Nat.eq_of_beq_eq_true (by simpa using h1)) (fun j u hu => by
    rw [add_mk, cell_Ob hg]
    rw [List.getElem?_take] at hu
    split at hu
    · rwa [List.getElem?_drop] at hu
    · cases hu)
  have hv' : mkv ag ((cs.drop off).take sz) = v := by
    rw [← hv]
    cases ag with
    | true => rfl
    | false =>
      have : sz = 1 := Nat.eq_of_beq_eq_true (by simpa using h1)
      subst this
      unfold mkv rdv
      cases cs.drop off <;> rfl
  exact ow_val (v := v) (w' := w) (by simp [execOp, Instr.loadAt, Instr.sureAddr, Sem.run_bind, hx, Result.andThen, this, hv']) h
/-- A load of data that turn no more. -/
theorem ow_loadI {sz : Nat} {ag : Bool} {z : Value} {by_ : Nat} (ht : Ty P t sz ag z by_) (H : Hp B I w L) {g off : Nat} (hx : ev n m x = .pointer (some ⟨g, off, none⟩)) {us : List Value} (ha : At I g off us)
    (hl : us.length = sz) (h1 : (ag || Nat.beq sz 1) = true) {v : Value} (hv : mkv ag us = v) (h : X ((d, v) :: m) w) : Ow P n ⟨some d, .load t x, ty, pos, aft, gd⟩ X Q m w := by
  have := run_loadVar (w := w) ht (a := ⟨g, off, none⟩) (us := us) hl (fun e0 => by subst e0; exact Nat.eq_of_beq_eq_true (by simpa using h1)) (cell_At H ha)
  exact ow_val (v := v) (w' := w) (by simp [execOp, Instr.loadAt, Instr.sureAddr, Sem.run_bind, hx, Result.andThen, this, hv]) h
theorem run_storeCells (g : Nat) (e : TypeId) : ∀ (us : List Value) (i off : Nat) (w : World) (cs : List Value), w.heap[g]? = some (Ob cs e) → off + i + us.length ≤ cs.length → us.all one = true →
    ∃ w', (storeCells ⟨g, off, none⟩ us i).run P w = .ok () w' ∧ w'.heap[g]? = some (Ob (wr cs (off + i) us) e) ∧ (∀ j, j ≠ g → w'.heap[j]? = w.heap[j]?) ∧ w'.os = w.os ∧ w'.output = w.output
  | [], i, off, w, cs, hg, _, _ => ⟨w, by simp [storeCells, Sem.run], by simpa [wr] using hg, fun _ _ => rfl, rfl, rfl⟩
  | u :: us, i, off, w, cs, hg, hl, h1 => by
    simp only [List.all_cons, Bool.and_eq_true] at h1
    simp only [List.length_cons] at hl
    have hc : w.cell? ⟨g, off + i, none⟩ = some (cs[off + i]'(by omega)) := by
      rw [cell_Ob hg]
      exact List.getElem?_eq_getElem _
    have hstore : (store ((⟨g, off, none⟩ : Addr).add i) u).run P w = .ok () (w.setCell ⟨g, off + i, none⟩ u) := by
      rw [add_mk]
      have hf := frozen_Ob hg (off + i)
      cases u <;> simp [one] at h1 <;> simp [store, Sem.run, hc, hf]
    have hg2 : (w.setCell ⟨g, off + i, none⟩ u).heap[g]? = some (Ob (cs.set (off + i) u) e) := by
      simp [World.setCell, Array.getElem?_modify, hg]
    obtain ⟨w', hr, hg', hj, ho, hout⟩ := run_storeCells g e us (i + 1) off (w.setCell ⟨g, off + i, none⟩ u) (cs.set (off + i) u) hg2 (by simp; omega) h1.2
    refine ⟨w', by simp [storeCells, Sem.run_bind, hstore, Result.andThen, hr], ?_, fun j hne => (hj j hne).trans (by simp [World.setCell, Array.getElem?_modify, Ne.symm hne]), ho, hout⟩
    rw [hg']
    congr 2
    unfold wr
    apply List.ext_getElem?
    intro j
    simp only [List.getElem?_append, List.getElem?_take, List.length_take, List.length_set, List.getElem?_drop, List.getElem?_set, List.length_cons, List.cons_append, List.length_append]
    have e1 : min (off + (i + 1)) cs.length = off + i + 1 := by omega
    have e2 : min (off + i) cs.length = off + i := by omega
    simp only [e1, e2]
    rcases Nat.lt_trichotomy j (off + i) with h | h | h
    · simp [h, show j < off + i + 1 by omega, show ¬ off + i = j by omega, show j < off + (i + 1) by omega]
    · subst h
      simp [show off + i < off + i + 1 by omega, show off + i < off + (i + 1) by omega, show off + i < cs.length by omega]
    · have h3 : ¬ j < off + i := by omega
      have h4 : ¬ j < off + i + 1 := by omega
      obtain ⟨q, rfl⟩ : ∃ q, j = off + i + 1 + q := ⟨j - (off + i + 1), by omega⟩
      have h5 : off + i + 1 + q - (off + i) = q + 1 := by omega
      have h6 : off + i + 1 + q - (off + i + 1) = q := by omega
      simp only [h3, h4, if_false, h5, h6, List.getElem?_cons_succ, Nat.add_lt_add_iff_right]
      by_cases h7 : q < us.length
      · rw [List.getElem?_append_left h7]
        simp [h7]
      · simp only [h7, if_false]
        rw [List.getElem?_append_right (by omega), List.getElem?_drop]
        rw [if_neg (by omega)]
        congr 1
        omega
theorem ow_store {sz : Nat} {ag : Bool} {z : Value} {by_ : Nat} (ht : Ty P t sz ag z by_) (H : Hp B I w L) {g off : Nat} (hx : ev n m x = .pointer (some ⟨g, off, none⟩)) {v : Value} (hy : ev n m y = v) (us : List Value) (hu : v.cells = us.toArray)
    (hsz : Nat.beq us.length sz = true) (h1 : us.all one = true) {cs : List Value} {e : TypeId} (k : Nat) (hk : L[k]? = some (g, Ob cs e)) (hl : Nat.ble (off + sz) cs.length = true)
    (h : ∀ w', Hp B I w' (L.set k (g, Ob (wr cs off us) e)) → X m w') : Ow P n ⟨none, .store t x y, ty, pos, aft, gd⟩ X Q m w := by
  have hg := H.own _ (List.mem_of_getElem? hk)
  have hsz' : us.length = sz := Nat.eq_of_beq_eq_true hsz
  have hl' : off + sz ≤ cs.length := Nat.le_of_ble_eq_true hl
  obtain ⟨w', hr, hg', hj, ho, hout⟩ := run_storeCells (P := P) g e us 0 off w cs hg (by omega) h1
  have H' : Hp B I w' (L.set k (g, Ob (wr cs off us) e)) := H.turn hk hg' (fun j _ hne => hj j hne) ho hout
  have hv : v.cells.size = sz := by rw [hu]; simpa using hsz'
  unfold Ow
  have : (execOp (ev n m) ⟨none, .store t x y, ty, pos, aft, gd⟩).run P w = .ok .skip w' := by
    simp [execOp, Instr.storeAt, Instr.sureAddr, storeVar, Sem.run_bind, hx, hy, Result.andThen, ht.size, hu, hsz', hr]
  rw [this]
  exact h _ H'
theorem ow_fieldAddr {f off : Nat} {ft : TypeId} {sz : Nat} {ag : Bool} {z : Value} {by_ : Nat} (hf : Fd P t f off ft) (hft : Ty P ft sz ag z by_) (hpos : Nat.blt 0 sz = true) {g o : Nat} (hx : ev n m x = .pointer (some ⟨g, o, none⟩)) {r : Nat} (hr : o + off = r)
    (h : X ((d, .pointer (some ⟨g, r, none⟩)) :: m) w) : Ow P n ⟨some d, .fieldAddr t x f, ty, pos, aft, gd⟩ X Q m w := by
  obtain ⟨fs, fd, hu, hfd, h1, h2⟩ := hf
  have hne : sz ≠ 0 := by
    have := Nat.le_of_ble_eq_true hpos
    omega
  refine ow_val (v := .pointer (some ⟨g, r, none⟩)) (w' := w) ?_ h
  simp [execOp, Instr.fieldAt, Instr.sureAddr, underlying, program, fieldPlace, Sem.run_bind, Sem.run, hx, hu, hfd, Result.andThen, h1, h2, hft.size, hne, add_mk, hr]
theorem ow_field {f off : Nat} {ft : TypeId} {sz : Nat} {ag : Bool} {z : Value} {by_ : Nat} (hf : Fd P t f off ft) (hft : Ty P ft sz ag z by_) {us : List Value} (hx : ev n m x = .agg us.toArray) (hl : Nat.ble (off + sz) us.length = true) (h1 : (ag || Nat.beq sz 1) = true) {v : Value}
    (hv : rdv ag us off sz = v) (h : X ((d, v) :: m) w) : Ow P n ⟨some d, .field t x f, ty, pos, aft, gd⟩ X Q m w := by
  obtain ⟨fs, fd, hu, hfd, h2, h3⟩ := hf
  have hl' : off + sz ≤ us.length := Nat.le_of_ble_eq_true hl
  refine ow_val (v := v) (w' := w) ?_ h
  cases ag with
  | true =>
    have : us.toArray.extract off (off + sz) = ((us.drop off).take sz).toArray := by
      simp [List.extract_eq_take_drop]
    simp [execOp, Instr.field, asAgg, part, underlying, program, Sem.run_bind, Sem.run, hx, hu, hfd, Result.andThen, h2, h3, hft.size, hft.agg, ← hv, rdv]
  | false =>
    have hs : sz = 1 := Nat.eq_of_beq_eq_true (by simpa using h1)
    subst hs
    have : us[off]? = some v := by
      rw [← hv]
      unfold rdv
      rw [List.getElem?_eq_getElem (by omega)]
      simp [List.headD_eq_head?_getD, List.head?_drop, List.getElem?_eq_getElem (show off < us.length by omega)]
    simp [execOp, Instr.field, asAgg, part, underlying, program, Sem.run_bind, Sem.run, hx, hu, hfd, Result.andThen, h2, h3, hft.agg, this]

/-! ### Numbers, strings, truth -/
theorem ow_lss {k : IntKind} {a c : Int} {t' : TypeId} (hx : ev n m x = .int k a) (hy : ev n m y = .int k c) (h : X ((d, .bool (decide (a < c))) :: m) w) : Ow P n ⟨some d, .binOp .lss t x y t', ty, pos, aft, gd⟩ X Q m w :=
  ow_val (v := .bool (decide (a < c))) (w' := w) (by simp [execOp, eqGuard, binOp, Op.intCmp, hx, hy, Sem.run_bind, Result.andThen]) h
theorem ow_leq {k : IntKind} {a c : Int} {t' : TypeId} (hx : ev n m x = .int k a) (hy : ev n m y = .int k c) (h : X ((d, .bool (decide (a ≤ c))) :: m) w) : Ow P n ⟨some d, .binOp .leq t x y t', ty, pos, aft, gd⟩ X Q m w :=
  ow_val (v := .bool (decide (a ≤ c))) (w' := w) (by simp [execOp, eqGuard, binOp, Op.intCmp, hx, hy, Sem.run_bind, Result.andThen]) h
theorem ow_gtr {k : IntKind} {a c : Int} {t' : TypeId} (hx : ev n m x = .int k a) (hy : ev n m y = .int k c) (h : X ((d, .bool (decide (c < a))) :: m) w) : Ow P n ⟨some d, .binOp .gtr t x y t', ty, pos, aft, gd⟩ X Q m w :=
  ow_val (v := .bool (decide (c < a))) (w' := w) (by simp [execOp, eqGuard, binOp, Op.intCmp, hx, hy, Sem.run_bind, Result.andThen]) h
theorem ow_geq {k : IntKind} {a c : Int} {t' : TypeId} (hx : ev n m x = .int k a) (hy : ev n m y = .int k c) (h : X ((d, .bool (decide (c ≤ a))) :: m) w) : Ow P n ⟨some d, .binOp .geq t x y t', ty, pos, aft, gd⟩ X Q m w :=
  ow_val (v := .bool (decide (c ≤ a))) (w' := w) (by simp [execOp, eqGuard, binOp, Op.intCmp, hx, hy, Sem.run_bind, Result.andThen]) h
theorem ow_eql {k : IntKind} {a c : Int} {t' : TypeId} (hx : ev n m x = .int k a) (hy : ev n m y = .int k c) (h : X ((d, .bool (decide (a = c))) :: m) w) : Ow P n ⟨some d, .binOp .eql t x y t', ty, pos, aft, gd⟩ X Q m w :=
  ow_val (v := .bool (decide (a = c))) (w' := w) (by
    have : (a == c) = decide (a = c) := rfl
    simp [execOp, eqGuard, binOp, Op.intCmp, hx, hy, Sem.run_bind, Result.andThen, this]) h
theorem ow_neq {k : IntKind} {a c : Int} {t' : TypeId} (hx : ev n m x = .int k a) (hy : ev n m y = .int k c) (h : X ((d, .bool (!decide (a = c))) :: m) w) : Ow P n ⟨some d, .binOp .neq t x y t', ty, pos, aft, gd⟩ X Q m w :=
  ow_val (v := .bool (!decide (a = c))) (w' := w) (by
    have : (a != c) = !decide (a = c) := rfl
    simp [execOp, eqGuard, binOp, Op.intCmp, hx, hy, Sem.run_bind, Result.andThen, this]) h
theorem ow_add {k : IntKind} {a c r : Int} {t' : TypeId} (hx : ev n m x = .int k a) (hy : ev n m y = .int k c) (hr : k.wrap (a + c) = r) (h : X ((d, .int k r) :: m) w) : Ow P n ⟨some d, .binOp .add t x y t', ty, pos, aft, gd⟩ X Q m w :=
  ow_val (v := .int k r) (w' := w) (by simp [execOp, eqGuard, binOp, Op.intArith, hx, hy, hr, Sem.run_bind, Result.andThen]) h
theorem ow_sub {k : IntKind} {a c r : Int} {t' : TypeId} (hx : ev n m x = .int k a) (hy : ev n m y = .int k c) (hr : k.wrap (a - c) = r) (h : X ((d, .int k r) :: m) w) : Ow P n ⟨some d, .binOp .sub t x y t', ty, pos, aft, gd⟩ X Q m w :=
  ow_val (v := .int k r) (w' := w) (by simp [execOp, eqGuard, binOp, Op.intArith, hx, hy, hr, Sem.run_bind, Result.andThen]) h
theorem ow_mul {k : IntKind} {a c r : Int} {t' : TypeId} (hx : ev n m x = .int k a) (hy : ev n m y = .int k c) (hr : k.wrap (a * c) = r) (h : X ((d, .int k r) :: m) w) : Ow P n ⟨some d, .binOp .mul t x y t', ty, pos, aft, gd⟩ X Q m w :=
  ow_val (v := .int k r) (w' := w) (by simp [execOp, eqGuard, binOp, Op.intArith, hx, hy, hr, Sem.run_bind, Result.andThen]) h
theorem toList_loop (s : ByteArray) : ∀ (i : Nat) (r : List UInt8), ByteArray.toList.loop s i r = r.reverse ++ s.data.toList.drop i := by
  intro i r
  induction hk : s.size - i generalizing i r with
  | zero =>
    rw [ByteArray.toList.loop]
    have : s.data.toList.drop i = [] := List.drop_of_length_le (by simp only [Array.length_toList]; show s.size ≤ i; omega)
    simp [show ¬ i < s.size by omega, this]
  | succ k ih =>
    rw [ByteArray.toList.loop]
    have hi : i < s.size := by omega
    rw [if_pos hi, ih (i + 1) _ (by omega)]
    have hl : i < s.data.toList.length := by simp only [Array.length_toList]; exact hi
    rw [List.drop_eq_getElem_cons hl]
    have hget : s.get! i = s.data.toList[i] := by
      show s.data[i]! = _
      rw [getElem!_pos s.data i hi]
      simp
    simp [hget]
theorem toList_eq (s : ByteArray) : s.toList = s.data.toList := by
  unfold ByteArray.toList
  rw [toList_loop]
  simp
theorem str_inj {a c : ByteArray} : (a.toList == c.toList) = decide (a = c) := by
  rw [toList_eq, toList_eq]
  by_cases h : a = c
  · subst h
    simp
  · rw [decide_eq_false h]
    rw [beq_eq_false_iff_ne]
    intro e
    apply h
    cases a with
    | mk da =>
      cases c with
      | mk dc =>
        congr
        exact Array.toList_inj.1 e
theorem ow_seq {a c : ByteArray} {t' : TypeId} (hx : ev n m x = .string a) (hy : ev n m y = .string c) (h : X ((d, .bool (decide (a = c))) :: m) w) : Ow P n ⟨some d, .binOp .eql t x y t', ty, pos, aft, gd⟩ X Q m w :=
  ow_val (v := .bool (decide (a = c))) (w' := w) (by simp only [execOp, eqGuard, binOp, Op.stringOp, hx, hy, Sem.run_bind, str_inj]; simp [Result.andThen]) h
theorem ow_sne {a c : ByteArray} {t' : TypeId} (hx : ev n m x = .string a) (hy : ev n m y = .string c) (h : X ((d, .bool (!decide (a = c))) :: m) w) : Ow P n ⟨some d, .binOp .neq t x y t', ty, pos, aft, gd⟩ X Q m w :=
  ow_val (v := .bool (!decide (a = c))) (w' := w) (by simp only [execOp, eqGuard, binOp, Op.stringOp, hx, hy, Sem.run_bind, str_inj]; simp [Result.andThen]) h
theorem ow_cat {a c : ByteArray} {t' : TypeId} (hx : ev n m x = .string a) (hy : ev n m y = .string c) (hb : a.size + c.size ≤ 9223372036854775807) (h : X ((d, .string (a ++ c)) :: m) w) : Ow P n ⟨some d, .binOp .add t x y t', ty, pos, aft, gd⟩ X Q m w :=
  ow_val (v := .string (a ++ c)) (w' := w) (by
    have : ¬ ((a.size + c.size : Nat) : Int) > IntKind.i64.max := by
      simp only [IntKind.max, IntKind.signed, IntKind.bits]
      omega
    simp only [execOp, eqGuard, binOp, Op.stringOp, hx, hy, Sem.run_bind, if_neg this]
    simp [Result.andThen]) h
theorem ow_not {a : Bool} (hx : ev n m x = .bool a) (h : X ((d, .bool (!a)) :: m) w) : Ow P n ⟨some d, .unOp .not t x, ty, pos, aft, gd⟩ X Q m w :=
  ow_val (v := .bool (!a)) (w' := w) (by simp [execOp, Op.unary, hx, Sem.run_bind, Result.andThen]) h
theorem ow_pick {c : Operand} {a : Bool} {v : Value} (hc : ev n m c = .bool a) (hv : (bif a then ev n m x else ev n m y) = v) (h : X ((d, v) :: m) w) : Ow P n ⟨some d, .pick c x y, ty, pos, aft, gd⟩ X Q m w :=
  ow_val (v := v) (w' := w) (by cases a <;> simp_all [execOp, asBool, Sem.run_bind, Result.andThen]) h
theorem ow_extract {vs : List Value} {ix : Nat} {v : Value} (hx : ev n m x = .tuple vs.toArray) (hv : vs[ix]? = some v) (h : X ((d, v) :: m) w) : Ow P n ⟨some d, .extract x ix, ty, pos, aft, gd⟩ X Q m w :=
  ow_val (v := v) (w' := w) (by simp [execOp, Instr.extract, hx, hv, Sem.run_bind, Result.andThen]) h
theorem ow_lenS {e : TypeId} (ht : P.underlying t = some (.slice e)) {A : Option Addr} {l c : Nat} {ats : Array TypeId} (ha : ats = #[t]) (hx : ev n m x = .slice A l c) (h : X ((d, .int .i64 (l : Int)) :: m) w) :
    Ow P n ⟨some d, .call { callee := .builtin .len, args := #[x], argTypes := ats }, ty, pos, aft, gd⟩ X Q m w :=
  ow_val (v := .int .i64 (l : Int)) (w' := w) (by subst ha; simp [execOp, resolve, invoke, builtin, Builtin.len_, underlying, program, Sem.run, goInt, hx, ht, Sem.run_bind, Result.andThen]) h
theorem ow_lenT (ht : P.underlying t = some .string) {s : ByteArray} {ats : Array TypeId} (ha : ats = #[t]) (hx : ev n m x = .string s) (h : X ((d, .int .i64 (s.size : Int)) :: m) w) :
    Ow P n ⟨some d, .call { callee := .builtin .len, args := #[x], argTypes := ats }, ty, pos, aft, gd⟩ X Q m w :=
  ow_val (v := .int .i64 (s.size : Int)) (w' := w) (by subst ha; simp [execOp, resolve, invoke, builtin, Builtin.len_, underlying, program, Sem.run, goInt, hx, ht, Sem.run_bind, Result.andThen]) h
theorem ow_makeFunc {fn : Fn} {first cap : List Operand} {fv cv : List Value} (hf : first.map (ev n m) = fv) (hc : cap.map (ev n m) = cv) (h : X ((d, .func fn fv.toArray cv.toArray) :: m) w) : Ow P n ⟨some d, .makeFunc fn first.toArray cap.toArray, ty, pos, aft, gd⟩ X Q m w :=
  ow_val (v := .func fn fv.toArray cv.toArray) (w' := w) (by simp [execOp, Instr.makeFunc, hf, hc, Sem.run_bind, Result.andThen]) h
theorem ow_iface {D : TypeDesc} (ht : P.underlying t = some D) (hD : (match D with | .interface _ => false | _ => true) = true) {v : Value} (hx : ev n m x = v) (h : X ((d, .iface t v) :: m) w) : Ow P n ⟨some d, .makeInterface t x, ty, pos, aft, gd⟩ X Q m w :=
  ow_val (v := .iface t v) (w' := w) (by cases D <;> simp at hD <;> simp [execOp, Instr.makeInterface, underlying, program, Sem.run, ht, hx, Sem.run_bind, Result.andThen]) h
/-- A struct built of its parts: by a closed fact. -/
theorem ow_build {parts : List (Nat × Operand)} {ps : List (Nat × Value)} {v : Value} (hp : parts.map (fun p => (p.1, ev n m p.2)) = ps) (hr : ∀ w, (Instr.build t ps.toArray).run P w = .ok v w) (h : X ((d, v) :: m) w) :
    Ow P n ⟨some d, .build t parts.toArray, ty, pos, aft, gd⟩ X Q m w :=
  ow_val (v := v) (w' := w) (by
    have hp' : parts.map (fun (i, x) => (i, ev n m x)) = ps := hp
    simp [execOp, hp', hr, Sem.run_bind, Result.andThen]) h
theorem ow_buildSlice (H : Hp B I w L) {e : TypeId} {len : Nat} {parts : List (Nat × Operand)} {ps : List (Nat × Value)} (hp : parts.map (fun p => (p.1, ev n m p.2)) = ps) (cs : List Value)
    (hr : ∀ w : World, (Instr.buildSlice t len ps.toArray).run P w = .ok (.slice (some ⟨w.heap.size, 0, none⟩) len len) (w.alloc (Ob cs e))) (h : ∀ g w', Hp B I w' ((g, Ob cs e) :: L) → X ((d, .slice (some ⟨g, 0, none⟩) len len) :: m) w') :
    Ow P n ⟨some d, .buildSlice t len parts.toArray, ty, pos, aft, gd⟩ X Q m w :=
  ow_val (v := .slice (some ⟨w.heap.size, 0, none⟩) len len) (w' := w.alloc (Ob cs e)) (by
    have hp' : parts.map (fun (i, x) => (i, ev n m x)) = ps := hp
    simp [execOp, hp', hr, Sem.run_bind, Result.andThen]) (h _ _ (H.alloc _))
/-- The address of a slice's element. -/
theorem ow_indexAddr {e : TypeId} {sz : Nat} {ag : Bool} {z : Value} {by_ : Nat} (ht : P.underlying t = some (.slice e)) (he : Ty P e sz ag z by_) {b o l c : Nat} {k : IntKind} {i : Int} (hx : ev n m x = .slice (some ⟨b, o, none⟩) l c) (hy : ev n m y = .int k i) (h0 : 0 ≤ i) (h1 : i < (l : Int)) {r : Nat} (hr : o + i.toNat * sz = r)
    (h : X ((d, .pointer (some ⟨b, r, none⟩)) :: m) w) : Ow P n ⟨some d, .indexAddr t x y, ty, pos, aft, gd⟩ X Q m w :=
  ow_val (v := .pointer (some ⟨b, r, none⟩)) (w' := w) (by
    simp [execOp, Instr.indexAt, asIntOf, underlying, program, Sem.run, hx, hy, ht, Sem.run_bind, Result.andThen, h0, h1, he.size, add_mk, hr]) h
theorem ow_indexAddrA {e : TypeId} {sz : Nat} {ag : Bool} {z : Value} {by_ : Nat} (ht : P.underlying t = some (.slice e)) (he : Ty P e sz ag z by_) {A : Option Addr} {b o l c : Nat} (hA : A = some ⟨b, o, none⟩) {k : IntKind} {i : Int} (hx : ev n m x = .slice A l c) (hy : ev n m y = .int k i) (h0 : 0 ≤ i) (h1 : i < (l : Int)) {r : Nat} (hr : o + i.toNat * sz = r)
    (h : X ((d, .pointer (some ⟨b, r, none⟩)) :: m) w) : Ow P n ⟨some d, .indexAddr t x y, ty, pos, aft, gd⟩ X Q m w := by
  subst hA
  exact ow_indexAddr ht he hx hy h0 h1 hr h
theorem ow_indexT (ht : P.underlying t = some .string) {s : ByteArray} {k : IntKind} {i : Int} (hx : ev n m x = .string s) (hy : ev n m y = .int k i) (h0 : 0 ≤ i) {u : UInt8} (hu : s[i.toNat]? = some u)
    (h : X ((d, .int .u8 (u.toNat : Int)) :: m) w) : Ow P n ⟨some d, .index t x y, ty, pos, aft, gd⟩ X Q m w :=
  ow_val (v := .int .u8 (u.toNat : Int)) (w' := w) (by
    simp [execOp, Instr.index, asIntOf, underlying, program, Sem.run, hx, hy, ht, Sem.run_bind, Result.andThen, h0, hu]) h
theorem ow_panic {u : TypeId} {v : Value} (hx : ev n m x = .iface u v) (h : Q [{ v := .iface u v, recovered := false }] w) : Ow P n ⟨none, .panic x, ty, pos, aft, gd⟩ X Q m w := by
  unfold Ow
  have : (execOp (ev n m) ⟨none, .panic x, ty, pos, aft, gd⟩).run P w = .halt (.panic (.iface u v)) w := by
    simp [execOp, Instr.panic, goPanic, hx, Sem.run_bind, Sem.run, Result.andThen]
  rw [this]
  exact h

/-! ### Calls -/
theorem ow_enter {o : Oper} {f : FuncId} {args : Array Value} {R : Ending → World → Prop} (hr : (execOp (ev n m) o).run P w = .ok (.enter f args) w) (hc : Calls P f args w R)
    (h : ∀ v w', R (.returned v) w' → X (pt o.dst v m) w') (hq : ∀ ch w', R (.panicked ch) w' → Q ch w') (ho : ∀ w', ¬ R .outgrown w') : Ow P n o X Q m w := by
  unfold Ow
  rw [hr]
  refine Calls.mono hc fun e w' hR => ?_
  cases e with
  | returned v => exact h v w' hR
  | panicked ch => exact hq ch w' hR
  | outgrown => exact ho w' hR
theorem run_callF {f : FuncId} (hE : Ent P f) {xs : List Operand} {args : List Value} (ha : xs.map (ev n m) = args) {ats : Array TypeId} {dst : Option Nat} :
    (execOp (ev n m) ⟨dst, .call { callee := .value (.func f), args := xs.toArray, argTypes := ats }, ty, pos, aft, gd⟩).run P w = .ok (.enter f args.toArray) w := by
  have := hE args.toArray w
  simp [execOp, resolve, Deferred.ofValue, ev, ha, invoke, Sem.run_bind, Result.andThen, this]
theorem run_callV {f : FuncId} (hE : Ent P f) {g : Operand} {first cap : List Value} (hg : ev n m g = .func (.func f) first.toArray cap.toArray) {xs : List Operand} {args : List Value} (ha : first ++ (xs.map (ev n m) ++ cap) = args) {ats : Array TypeId} {dst : Option Nat} :
    (execOp (ev n m) ⟨dst, .call { callee := .value g, args := xs.toArray, argTypes := ats }, ty, pos, aft, gd⟩).run P w = .ok (.enter f args.toArray) w := by
  have := hE args.toArray w
  subst ha
  simp [execOp, resolve, Deferred.ofValue, hg, invoke, Sem.run_bind, Result.andThen] at this ⊢
  exact this
/-- A call that always returns. -/
theorem ow_call {f : FuncId} (hE : Ent P f) {xs : List Operand} {args : List Value} (ha : xs.map (ev n m) = args) {ats : Array TypeId} {R : Value → World → Prop} (hc : Calls P f args.toArray w (Rt R)) (h : ∀ v w', R v w' → X ((d, v) :: m) w') :
    Ow P n ⟨some d, .call { callee := .value (.func f), args := xs.toArray, argTypes := ats }, ty, pos, aft, gd⟩ X Q m w :=
  ow_enter (run_callF hE ha) hc (fun v w' ⟨v', e, hR⟩ => by cases e; exact h _ _ hR) (fun ch w' ⟨v', e, _⟩ => by cases e) (fun w' ⟨v', e, _⟩ => by cases e)
theorem ow_callV {f : FuncId} (hE : Ent P f) {g : Operand} {first cap : List Value} (hg : ev n m g = .func (.func f) first.toArray cap.toArray) {xs : List Operand} {args : List Value} (ha : first ++ (xs.map (ev n m) ++ cap) = args) {ats : Array TypeId} {R : Value → World → Prop} (hc : Calls P f args.toArray w (Rt R))
    (h : ∀ v w', R v w' → X ((d, v) :: m) w') : Ow P n ⟨some d, .call { callee := .value g, args := xs.toArray, argTypes := ats }, ty, pos, aft, gd⟩ X Q m w :=
  ow_enter (run_callV hE hg ha) hc (fun v w' ⟨v', e, hR⟩ => by cases e; exact h _ _ hR) (fun ch w' ⟨v', e, _⟩ => by cases e) (fun w' ⟨v', e, _⟩ => by cases e)
/-- It returns, and R holds; or it panics, and S holds. -/
def Rp (R : Value → World → Prop) (S : List PanicEntry → World → Prop) : Ending → World → Prop
  | .returned v, w' => R v w'
  | .panicked ch, w' => S ch w'
  | .outgrown, _ => False
theorem ow_callp {f : FuncId} (hE : Ent P f) {xs : List Operand} {args : List Value} (ha : xs.map (ev n m) = args) {ats : Array TypeId} {R : Value → World → Prop} {S : List PanicEntry → World → Prop} (hc : Calls P f args.toArray w (Rp R S)) (h : ∀ v w', R v w' → X ((d, v) :: m) w')
    (hq : ∀ ch w', S ch w' → Q ch w') : Ow P n ⟨some d, .call { callee := .value (.func f), args := xs.toArray, argTypes := ats }, ty, pos, aft, gd⟩ X Q m w :=
  ow_enter (run_callF hE ha) hc h hq (fun _ h => h)
theorem ow_callVp {f : FuncId} (hE : Ent P f) {g : Operand} {first cap : List Value} (hg : ev n m g = .func (.func f) first.toArray cap.toArray) {xs : List Operand} {args : List Value} (ha : first ++ (xs.map (ev n m) ++ cap) = args) {ats : Array TypeId} {R : Value → World → Prop} {S : List PanicEntry → World → Prop}
    (hc : Calls P f args.toArray w (Rp R S)) (h : ∀ v w', R v w' → X ((d, v) :: m) w') (hq : ∀ ch w', S ch w' → Q ch w') : Ow P n ⟨some d, .call { callee := .value g, args := xs.toArray, argTypes := ats }, ty, pos, aft, gd⟩ X Q m w :=
  ow_enter (run_callV hE hg ha) hc h hq (fun _ h => h)

/-! ### Slices of strings and of slices -/
theorem ow_cutT {lo hi : Option Operand} (ht : P.underlying t = some .string) {s : ByteArray} (hx : ev n m x = .string s) {a c : Nat} (hlo : (lo.map (ev n m) = none ∧ a = 0) ∨ ∃ k, lo.map (ev n m) = some (.int k (a : Int))) (hhi : (hi.map (ev n m) = none ∧ c = s.size) ∨ ∃ k, hi.map (ev n m) = some (.int k (c : Int)))
    (h1 : a ≤ c) (h2 : c ≤ s.size) (h : X ((d, .string (s.extract a c)) :: m) w) : Ow P n ⟨some d, .slice t x lo hi none, ty, pos, aft, gd⟩ X Q m w := by
  refine ow_val (v := .string (s.extract a c)) (w' := w) ?_ h
  have h1' : (a : Int) ≤ (c : Int) := by omega
  have h2' : (c : Int) ≤ (s.size : Int) := by omega
  rcases hlo with ⟨e1, rfl⟩ | ⟨k1, e1⟩ <;> rcases hhi with ⟨e2, rfl⟩ | ⟨k2, e2⟩ <;>
    simp [execOp, Instr.sliceAt, Instr.slice, Instr.sliceBounds, Instr.sliceBound, asIntOf, underlying, program, Sem.run, hx, ht, e1, e2, Sem.run_bind, Result.andThen, h1, h2]
theorem ow_cutS {lo hi : Option Operand} {e : TypeId} {sz : Nat} {ag : Bool} {z : Value} {by_ : Nat} (ht : P.underlying t = some (.slice e)) (he : Ty P e sz ag z by_) {A : Option Addr} {l cp : Nat} (hx : ev n m x = .slice A l cp) {a c : Nat} (hlo : (lo.map (ev n m) = none ∧ a = 0) ∨ ∃ k, lo.map (ev n m) = some (.int k (a : Int))) (hhi : (hi.map (ev n m) = none ∧ c = l) ∨ ∃ k, hi.map (ev n m) = some (.int k (c : Int)))
    (h1 : a ≤ c) (h2 : c ≤ l) (h3 : l ≤ cp) (h : X ((d, .slice (if cp = a then A else A.map (·.add (a * sz))) (c - a) (cp - a)) :: m) w) : Ow P n ⟨some d, .slice t x lo hi none, ty, pos, aft, gd⟩ X Q m w := by
  refine ow_val (v := .slice (if cp = a then A else A.map (·.add (a * sz))) (c - a) (cp - a)) (w' := w) ?_ h
  have h4 : (c : Int) ≤ (cp : Int) := by omega
  have h5 : (a : Int) ≤ (l : Int) := by omega
  have h6 : a ≤ l := by omega
  have h7 : c ≤ cp := by omega
  rcases hlo with ⟨e1, rfl⟩ | ⟨k1, e1⟩ <;> rcases hhi with ⟨e2, rfl⟩ | ⟨k2, e2⟩ <;>
    simp [execOp, Instr.sliceAt, Instr.slice, Instr.sliceBounds, Instr.sliceBound, asIntOf, underlying, program, Sem.run, hx, ht, e1, e2, Sem.run_bind, Result.andThen, h1, h2, h3, h6, h7, he.size]
theorem rep_cut {I : Im} {sz : Nat} {xs : List (List Dat)} {A : Option Addr} {cp : Nat} (h : Rep I (.row sz xs) (.slice A xs.length cp)) (a c : Nat) (h1 : a ≤ c) (h2 : c ≤ xs.length) :
    Rep I (.row sz ((xs.take c).drop a)) (.slice (if cp = a then A else A.map (·.add (a * sz))) (c - a) (cp - a)) := by
  simp only [Rep] at h ⊢
  obtain ⟨A', c', he, h3, h4, h5⟩ := h
  cases he
  have hl : ((xs.take c).drop a).length = c - a := by simp; omega
  refine ⟨_, _, by rw [hl], by rw [hl]; omega, by omega, ?_⟩
  by_cases hz : c - a = 0
  · have : (xs.take c).drop a = [] := List.eq_nil_of_length_eq_zero (by omega)
    rw [this]
    simp only [RepRow]
  · rw [if_neg (by omega)]
    have hx0 : xs[0]? = some (xs[0]'(by omega)) := List.getElem?_eq_getElem _
    obtain ⟨b, off, us, rfl, _⟩ := h5.get hx0
    rw [Option.map_some, add_mk]
    refine RepRow.of fun j x hx => ?_
    rw [List.getElem?_drop, List.getElem?_take] at hx
    split at hx
    · obtain ⟨b', off', us, hA, hat, hlen, hr⟩ := h5.get hx
      cases hA
      refine ⟨us, ?_, hlen, hr⟩
      rw [show off + a * sz + (0 + j) * sz = off + (0 + (a + j)) * sz by rw [Nat.zero_add, Nat.zero_add, Nat.add_mul]; omega]
      exact hat
    · cases hx

/-! ### append -/
theorem run_append_acc {t e : TypeId} {sz : Nat} {ag : Bool} {z : Value} {by_ : Nat} (ht : P.underlying t = some (.slice e)) (he : Ty P e sz ag z by_) (hzs : z.cells.size = sz) (hpos : 0 < sz) {v : Value} {cs : List Value} {xs : List (List Dat)} (H : Hp B I w (rowL v cs e ++ L)) (ha : Acc I sz v cs xs)
    {a : Addr} {c : Nat} {news : List Value} {ys : List (List Dat)} (hl : news.length = ys.length * sz) (hn : ∀ j u, news[j]? = some u → w.cell? (a.add j) = some u) (h1 : news.all one = true) (hr : ∀ j y, ys[j]? = some y → RepL I y ((news.drop (j * sz)).take sz))
    (hb : (xs.length + ys.length) * by_ ≤ 140737488355328) (h63 : xs.length + ys.length ≤ 9223372036854775807) (ty : TypeId) :
    ∃ v' w' cs', (Builtin.append_ #[t, t] ty #[v, .slice (some a) ys.length c]).run P w = .ok v' w' ∧ Hp B I w' (rowL v' cs' e ++ L) ∧ Acc I sz v' cs' (xs ++ ys) := by
  obtain ⟨i, hi, hi1, hi2, hi3⟩ := he.parts
  have hone : ∀ u ∈ news, u.oneCell' = true := by
    intro u hu
    have := List.all_eq_true.1 h1 u hu
    cases u <;> simp_all [one, Value.oneCell']
  have hown : w.ownsRow 0 e sz v xs.length (cs.take (xs.length * sz)) := by
    rcases ha with ⟨rfl, rfl⟩ | ⟨g, cap, rfl, h2, h3, h4, _⟩
    · exact ⟨by simp, .inl ⟨rfl, rfl⟩⟩
    · have hle : xs.length * sz ≤ cs.length := by rw [h4]; exact Nat.mul_le_mul_right _ h2
      exact ⟨by simp; omega, .inr ⟨g, cap, cs.toArray, rfl, Nat.zero_le _, H.own (g, Ob cs e) (List.mem_cons_self ..), h2, by simpa [maxLen] using h3, by simpa using h4, by simp⟩⟩
  obtain ⟨v', w', hrun, hown', hg, hnil, hat⟩ := run_append_own_at (P := P) w 0 t ty e i z sz by_ ht hi hi2 hi1 hi3 hzs hpos v xs.length _ hown a ys.length c news hl hn hone (by simpa [maxLen] using h63) hb (Nat.zero_le _)
  have hlen : (xs ++ ys).length = xs.length + ys.length := by simp
  have helem : ∀ (pre : List Value), pre = cs.take (xs.length * sz) → ∀ j x, (xs ++ ys)[j]? = some x → RepL I x (((pre ++ news).drop (j * sz)).take sz) := by
    rintro pre rfl j x hx
    have hpl : (cs.take (xs.length * sz)).length = xs.length * sz := hown.1
    by_cases hj : j < xs.length
    · rw [List.getElem?_append_left hj] at hx
      rcases ha with ⟨_, rfl⟩ | ⟨g, cap, _, h2, _, h4, h5⟩
      · simp at hj
      · have h6 := h5 j x hx
        have h7 : j * sz + sz ≤ xs.length * sz := by rw [← Nat.succ_mul]; exact Nat.mul_le_mul_right _ hj
        rw [List.drop_append_of_le_length (by omega), List.take_append_of_le_length (by rw [List.length_drop]; omega)]
        rw [List.drop_take, List.take_take]
        rwa [Nat.min_eq_left (by omega)]
    · obtain ⟨q, rfl⟩ : ∃ q, j = xs.length + q := ⟨j - xs.length, by omega⟩
      rw [List.getElem?_append_right (by omega)] at hx
      have := hr q x (by simpa using hx)
      rw [show (xs.length + q) * sz = (cs.take (xs.length * sz)).length + q * sz by rw [hpl, Nat.add_mul], ← List.drop_drop, List.drop_left]
      exact this
  rcases hown'.2 with ⟨rfl, h0⟩ | ⟨g', cap', cur, rfl, _, hgg, h2, h3, h4, h5⟩
  · obtain ⟨rfl, hm⟩ := hnil.1 rfl
    have hx0 : xs = [] := List.eq_nil_of_length_eq_zero (by omega)
    have hy0 : ys = [] := List.eq_nil_of_length_eq_zero (by omega)
    subst hx0 hy0
    refine ⟨_, w', cs, hrun, ?_, .inl ⟨rfl, rfl⟩⟩
    have hb2 : Below w.heap.size w w' := ⟨hg.os, hg.tape, hg.output, hg.size, fun k hk => hg.block k hk (by simp [Value.ownBlock])⟩
    exact H.below hb2
  · have hcur : cur = cur.toList.toArray := by simp
    have hAcc : Acc I sz (.slice (some ⟨g', 0, none⟩) (xs.length + ys.length) cap') cur.toList (xs ++ ys) := by
      refine .inr ⟨g', cap', by rw [hlen], by rw [hlen]; exact h2, by simpa [maxLen] using h3, by simpa using h4, fun j x hx => ?_⟩
      have h6 := helem _ rfl j x hx
      rw [← h5] at h6
      have hj : j < (xs ++ ys).length := (List.getElem?_eq_some_iff.1 hx).1
      have h7 : j * sz + sz ≤ (xs.length + ys.length) * sz := by rw [← Nat.succ_mul]; exact Nat.mul_le_mul_right _ (by omega)
      rw [List.drop_take, List.take_take, Nat.min_eq_left (by omega)] at h6
      exact h6
    refine ⟨_, w', cur.toList, hrun, ?_, hAcc⟩
    have hgo : w'.heap[g']? = some (Ob cur.toList e) := hgg
    by_cases hsame : v.ownBlock = some g'
    · rcases ha with ⟨rfl, _⟩ | ⟨g, cap, rfl, _⟩
      · simp [Value.ownBlock] at hsame
      · obtain rfl : g = g' := by simpa [Value.ownBlock] using hsame
        exact H.turn (k := 0) (o := Ob cs e) rfl hgo (fun j hj hne => hg.block j hj (by simp [Value.ownBlock]; exact hne)) hg.os hg.output
    · have hnew : g' = w.heap.size := by
        rcases hat with e1 | e1
        · exact absurd (by simpa [Value.ownBlock] using e1.symm) hsame
        · simpa [Value.ownBlock] using e1
      subst hnew
      have HL : Hp B I w L := by
        have := H.drop (rowL v cs e).length
        simpa using this
      have hne : ∀ j, j < w.heap.size → (I j ≠ none ∨ ∃ p ∈ L, p.1 = j) → w'.heap[j]? = w.heap[j]? := by
        intro j hj hor
        refine hg.block j hj ?_
        intro ej
        rcases ha with ⟨rfl, _⟩ | ⟨g, cap, rfl, _⟩
        · simp [Value.ownBlock] at ej
        · obtain rfl : j = g := by simpa [Value.ownBlock] using ej
          rcases hor with h8 | ⟨p, hp, e3⟩
          · exact h8 (H.sep (j, Ob cs e) (List.mem_cons_self ..))
          · have := (List.nodup_cons.1 H.nd).1
            exact this (List.mem_map.2 ⟨p, by simpa [rowL] using hp, e3⟩)
      refine ⟨fun j o hj => ?_, fun p hp => ?_, fun p hp => ?_, ?_, hg.os.trans H.os, hg.output.trans H.out⟩
      · exact (hne j (lt_of_at (H.imm j o hj)) (.inl (by rw [hj]; simp))).trans (H.imm j o hj)
      · rcases List.mem_cons.1 hp with rfl | hp
        · exact hgo
        · exact (hne p.1 (lt_of_at (HL.own p hp)) (.inr ⟨p, hp, rfl⟩)).trans (HL.own p hp)
      · rcases List.mem_cons.1 hp with rfl | hp
        · exact HL.fresh
        · exact HL.sep p hp
      · show (w.heap.size :: L.map (·.1)).Nodup
        rw [List.nodup_cons]
        refine ⟨fun hm => ?_, HL.nd⟩
        obtain ⟨p, hp, e3⟩ := List.mem_map.1 hm
        exact absurd (lt_of_at (HL.own p hp)) (by rw [e3]; exact Nat.lt_irrefl _)
/-! ### What is returned -/
/-- A result variable reads as v. -/
def ResV (P : Program) (n : Nat) (m : Sl) (w : World) : ResultVar → Value → Prop
  | .tmp t, v => ev n m (.tmp t) = v
  | .cell a t, v => ∃ ad, ev n m (.tmp a) = .pointer (some ad) ∧ (loadVar t ad).run P w = .ok v w
def ResL (P : Program) (n : Nat) (m : Sl) (w : World) : List ResultVar → List Value → Prop
  | [], vs => vs = []
  | r :: rs, vs => ∃ v vs', vs = v :: vs' ∧ ResV P n m w r v ∧ ResL P n m w rs vs'
def packed : List Value → Value
  | [v] => v
  | vs => .tuple vs.toArray
theorem fr_getD (n : Nat) (m : Sl) (t : Nat) : (fr n m).getD t undef = ev n m (.tmp t) := fr_get n m t
theorem res_mapM (g : ResultVar → Sem Value) (g1 : ∀ t, g (.tmp t) = pure ((fr n m).getD t undef)) (g2 : ∀ a t, g (.cell a t) = (do loadVar t (← asAddr ((fr n m).getD a undef)))) {rs : List ResultVar} : ∀ {vs : List Value}, ResL P n m w rs vs → (rs.mapM g).run P w = .ok vs w := by
  induction rs with
  | nil =>
    intro vs h
    simp only [ResL] at h
    subst h
    simp
  | cons r rs ih =>
    intro vs h
    simp only [ResL] at h
    obtain ⟨v, vs', rfl, h1, h2⟩ := h
    rw [List.mapM_cons]
    have h3 := ih h2
    cases r with
    | tmp t =>
      simp only [ResV] at h1
      simp only [g1, fr_getD, h1, Sem.run_bind, Sem.run_pure, Result.andThen] at h3 ⊢
      rw [h3]
    | cell a t =>
      simp only [ResV] at h1
      obtain ⟨ad, h4, h5⟩ := h1
      simp only [g2, fr_getD, h4, asAddr, Sem.run_bind, Sem.run_pure, Result.andThen, h5] at h3 ⊢
      rw [h3]
theorem res_run {fn : Func} {rs : List ResultVar} {vs : List Value} (hf : fn.results = rs.toArray) (h : ResL P n m w rs vs) : (results fn (fr n m)).run P w = .ok (packed vs) w := by
  unfold results
  rw [hf, List.mapM_toArray, Sem.run_bind, Sem.run_map, res_mapM _ (fun _ => rfl) (fun _ _ => rfl) h]
  match vs with
  | [] => simp [packed, Result.andThen]
  | [v] => simp [packed, Result.andThen]
  | v :: u :: vs => simp [packed, Result.andThen]
theorem resV_own {sz : Nat} {ag : Bool} {z : Value} {by_ : Nat} {a : Nat} (ht : Ty P t sz ag z by_) (H : Hp B I w L) {g off : Nat} (hx : ev n m (.tmp a) = .pointer (some ⟨g, off, none⟩)) {cs : List Value} {e : TypeId} (k : Nat) (hk : L[k]? = some (g, Ob cs e))
    (hl : Nat.ble (off + sz) cs.length = true) (h1 : (ag || Nat.beq sz 1) = true) {v : Value} (hv : rdv ag cs off sz = v) : ResV P n m w (.cell a t) v := by
  refine ⟨_, hx, ?_⟩
  have hg := H.own _ (List.mem_of_getElem? hk)
  have hl' : off + sz ≤ cs.length := Nat.le_of_ble_eq_true hl
  have := run_loadVar (w := w) ht (a := ⟨g, off, none⟩) (us := (cs.drop off).take sz) (by simp; omega) (fun e0 => by subst e0; exact Nat.eq_of_beq_eq_true (by simpa using h1)) (fun j u hu => by
    rw [add_mk, cell_Ob hg]
    rw [List.getElem?_take] at hu
    split at hu
    · rwa [List.getElem?_drop] at hu
    · cases hu)
  rw [this]
  congr 1
  rw [← hv]
  cases ag with
  | true => rfl
  | false =>
    have : sz = 1 := Nat.eq_of_beq_eq_true (by simpa using h1)
    subst this
    unfold mkv rdv
    cases cs.drop off <;> rfl
end

/-! ### Ways that meet again; loops -/
section
variable {P : Program} {G : Gd P} {b : Frame} {n : Nat} {m : Sl} {ds : List Deferred} {k : List Item} {cs : List Frame} {w : World} {ops : Array Oper} {l : List Oper} {i : Nat}
theorem st_cut {x : Item} (Inv : Sl → World → Prop) (h1 : (∀ m' w', Inv m' w' → St G b n m' ds k cs w') → St G b n m ds (x :: k) cs w) (h2 : ∀ m' w', Inv m' w' → St G b n m' ds k cs w') : St G b n m ds (x :: k) cs w := h1 h2
theorem sr_cut (j : Nat) (Inv : Sl → World → Prop) (h1 : (∀ m' w', Inv m' w' → Sr G b n m' ds ops (l.drop j) (i + j) k cs w') → Sr G b n m ds ops l i k cs w) (h2 : ∀ m' w', Inv m' w' → Sr G b n m' ds ops (l.drop j) (i + j) k cs w') : Sr G b n m ds ops l i k cs w := h1 h2
theorem sr_live (ts : List Nat) (h : Sr G b n (ts.map (fun t => (t, lk m t)) ++ m) ds ops l i k cs w) : Sr G b n m ds ops l i k cs w := fun hl => st_live ts (h hl)
theorem st_ind (Inv : Nat → Sl → World → Prop) (d : Nat) (h0 : Inv d m w) (step : ∀ d m w, Inv d m w → (∀ d' m' w', d' < d → Inv d' m' w' → St G b n m' ds k cs w') → St G b n m ds k cs w) : St G b n m ds k cs w := by
  have key : ∀ N d m w, d < N → Inv d m w → St G b n m ds k cs w := by
    intro N
    induction N with
    | zero => intro d m w hd; omega
    | succ N ih => exact fun d m w hd hi => step d m w hi fun d' m' w' hd' hi' => ih d' m' w' (by omega) hi'
  exact key (d + 1) d m w (by omega) h0
end
end Go.Proofs.YtghmjnbpkobooaaGreatDoor
