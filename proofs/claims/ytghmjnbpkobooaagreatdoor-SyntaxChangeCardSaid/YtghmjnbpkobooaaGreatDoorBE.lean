/-
  A region that draws its order, of which a first part is not ordered among itself: each operation of it only adds to memory. Plain theorems over whatever program.
-/
import Derived.Test.YtghmjnbpkobooaaGreatDoorB3
set_option linter.unusedVariables false
set_option linter.unusedSimpArgs false
namespace Go.Proofs.YtghmjnbpkobooaaGreatDoor
open Go Go.RowKit

def AllB {α : Type} (Q : α → Prop) : List α → Prop
  | [] => True
  | i :: l => Q i ∧ AllB Q l
theorem AllB.mem {α : Type} {Q : α → Prop} : ∀ {l : List α}, AllB Q l → ∀ i ∈ l, Q i
  | i :: l, h, j, hj => by
    rcases List.mem_cons.1 hj with rfl | hj
    · exact h.1
    · exact h.2.mem j hj
def unordOk (ops : Array Oper) (N1 : Nat) : Bool :=
  Nat.ble N1 ops.size &&
  (List.range ops.size).all (fun i => (ops[i]?).any fun o => !isDf o.op && !isSel o.op && o.guard.isNone && o.after.all (fun e => Nat.blt e.on i)) &&
  (List.range ops.size).all (fun i => Nat.blt i N1 || (List.range i).all (fun j => edgeAt ops i j)) &&
  (List.range N1).all (fun i => (dstOf ops i).isSome) &&
  (List.range ops.size).all (fun i => (List.range ops.size).all fun j => (ops[i]?).any fun o => match dstOf ops j with
    | none => true
    | some d => (!(tmpsOf o).contains d || edgeOn o j) && (Nat.beq i j || dstOf ops i != some d))
def notDst (ops : Array Oper) (N1 t : Nat) : Bool := (List.range N1).all fun j => dstOf ops j != some t
section
variable {P : Program} {G : Gd P} {b : Frame} {n : Nat} {m : Sl} {ds : List Deferred} {k : List Item} {cs : List Frame} {w : World} {id : Nat}
variable {B : World} {I0 : Im} {L0 : List (Nat × Obj)}
/-- Slots that are known are laid in front. -/
theorem lk_known : ∀ (E : Sl), AllB (fun q => lk m q.1 = q.2) E → ∀ t, lk m t = lk (E ++ m) t
  | [], _, t => rfl
  | q :: E, h, t => by
    show _ = lk ((q.1, q.2) :: (E ++ m)) t
    rw [lk_cons]
    split
    · rename_i e
      rw [← e, h.1]
    · exact lk_known E h.2 t
theorem sr_known {ops : Array Oper} {l : List Oper} {i : Nat} (E : Sl) (hE : AllB (fun q => lk m q.1 = q.2) E) (h : Sr G b n (E ++ m) ds ops l i k cs w) : Sr G b n m ds ops l i k cs w := by
  intro hl
  have h1 := h hl
  exact St.congr (fun t _ => lk_known E hE t) h1
/-- What is asked of an operation that stands in no order to some others. -/
def Un (P : Program) (B : World) (n : Nat) (m : Sl) (I0 : Im) (L0 : List (Nat × Obj)) (l : List Oper) (N1 : Nat) (K : Nat → Value → Im → Prop) (own : Nat → Value → List (Nat × Obj)) (i : Nat) : Prop :=
  ∃ o d, l[i]? = some o ∧ o.dst = some d ∧ ∀ I Lx M w, Le I0 I → Hp B I w (Lx ++ L0) →
    (∀ j dj, Nat.blt j N1 = true → edgeOn o j = true → dstOf l.toArray j = some dj → K j (lk M dj) I) → (∀ t, notDst l.toArray N1 t = true → lk M t = lk m t) →
    ∃ E : Sl, AllB (fun t => lk M t = lk E t) (tmpsOf o) ∧ Ow P n o (fun M' w' => ∃ v I', M' = (d, v) :: E ∧ Le I I' ∧ Hp B I' w' (own i v ++ (Lx ++ L0)) ∧ K i v I') (fun _ _ => False) E w
structure UFacts (ops : Array Oper) (N1 : Nat) : Prop where
  le : N1 ≤ ops.size
  op : ∀ i, i < ops.size → ∃ o, ops[i]? = some o ∧ isDf o.op = false ∧ isSel o.op = false ∧ o.guard = none ∧ ∀ e ∈ o.after, e.on < i
  late : ∀ i, i < ops.size → i < N1 ∨ ∀ j, j < i → edgeAt ops i j = true
  dst : ∀ i, i < N1 → ∃ d, dstOf ops i = some d
  rd : ∀ i j, i < ops.size → j < ops.size → ∀ o, ops[i]? = some o → ∀ d, dstOf ops j = some d → (d ∈ tmpsOf o → edgeOn o j = true) ∧ (i = j ∨ dstOf ops i ≠ some d)
theorem unord_facts {ops : Array Oper} {N1 : Nat} (h : unordOk ops N1 = true) : UFacts ops N1 := by
  simp only [unordOk, Bool.and_eq_true, List.all_eq_true, List.mem_range] at h
  obtain ⟨⟨⟨⟨h1, h2⟩, h3⟩, h4⟩, h5⟩ := h
  refine ⟨Nat.le_of_ble_eq_true h1, fun i hi => ?_, fun i hi => ?_, fun i hi => ?_, fun i j hi hj o ho d hd => ?_⟩
  · obtain ⟨o, ho, h⟩ := (Option.any_eq_true _ _).1 (h2 i hi)
    simp only [Bool.and_eq_true, Bool.not_eq_true', Option.isNone_iff_eq_none] at h
    exact ⟨o, ho, h.1.1.1, h.1.1.2, h.1.2, fun e he => by
      have := Array.all_eq_true'.1 h.2 e he
      simpa [Nat.blt_eq] using this⟩
  · have h := h3 i hi
    simp only [Bool.or_eq_true, List.all_eq_true, List.mem_range] at h
    rcases h with h | h
    · exact .inl (by simpa [Nat.blt_eq] using h)
    · exact .inr h
  · exact Option.isSome_iff_exists.1 (h4 i hi)
  · have h := h5 i hi j hj
    rw [ho, hd] at h
    simp only [Option.any_some, Bool.and_eq_true, Bool.or_eq_true, Bool.not_eq_true'] at h
    refine ⟨fun hm => ?_, ?_⟩
    · rcases h.1 with h2 | h2
      · rw [List.contains_iff_mem.2 hm] at h2
        cases h2
      · exact h2
    · rcases h.2 with h2 | h2
      · exact .inl (Nat.eq_of_beq_eq_true h2)
      · exact .inr (by simpa using h2)
theorem edge_listed {ops : Array Oper} {md : Region.Mode} {i j : Nat} {listed : Array Bool} (he : edgeAt ops i j = true) (hr : ((ops[i]?).map (·.after.all fun e => !Region.binds md e || listed.getD e.on false)).getD false = true) : listed.getD j false = true := by
  unfold edgeAt at he
  cases ho : ops[i]? with
  | none => rw [ho] at he; cases he
  | some o =>
    rw [ho] at he hr
    simp only [Option.map_some, Option.getD_some] at he hr
    obtain ⟨e, hem, h2⟩ := Array.any_eq_true'.1 he
    simp only [Bool.and_eq_true] at h2
    have h3 := Array.all_eq_true'.1 hr e hem
    rw [binds_any h2.1] at h3
    rw [Nat.eq_of_beq_eq_true h2.2] at h3
    simpa using h3
theorem getD_ft {a : Array Bool} {i : Nat} (h : i < a.size) : a.getD i true = a.getD i false := by
  simp only [Array.getD_eq_getD_getElem?, Array.getElem?_eq_getElem h, Option.getD_some]
theorem sched_tail {ops : Array Oper} {N1 : Nat} (hu : UFacts ops N1) (md : Region.Mode) : ∀ (fuel t c : Nat) (listed : Array Bool), N1 ≤ c → c + fuel = ops.size → listed.size = ops.size → (∀ i, i < ops.size → (listed.getD i false = true ↔ i < c)) → sched md ops fuel t listed = List.range' c fuel
  | 0, t, c, listed, _, _, _, _ => rfl
  | fuel + 1, t, c, listed, hc, hf, hs, hl => by
    unfold sched
    dsimp only
    generalize hrs : (List.range ops.size).filter (fun i => !listed.getD i true && ((ops[i]?).map (·.after.all fun e => !Region.binds md e || listed.getD e.on false)).getD false) = rs
    have hcs : c < ops.size := by omega
    have honly : ∀ i ∈ rs, i = c := by
      intro i hi
      rw [← hrs, List.mem_filter] at hi
      obtain ⟨hir, hp⟩ := hi
      have hi := List.mem_range.1 hir
      simp only [Bool.and_eq_true, Bool.not_eq_true'] at hp
      have h1 : ¬ i < c := by
        intro h
        have := (hl i hi).2 h
        rw [getD_ft (by omega), this] at hp
        cases hp.1
      by_cases h2 : i = c
      · exact h2
      · exfalso
        rcases hu.late i hi with h3 | h3
        · omega
        · have h4 := edge_listed (h3 c (by omega)) hp.2
          have := (hl c hcs).1 h4
          omega
    have hne : c ∈ rs := by
      rw [← hrs, List.mem_filter]
      refine ⟨List.mem_range.2 hcs, ?_⟩
      obtain ⟨o, ho, _, _, _, he⟩ := hu.op c hcs
      have h1 : listed.getD c false = false := by
        rw [Bool.eq_false_iff]
        intro h
        have := (hl c hcs).1 h
        omega
      rw [getD_ft (by omega), h1, ho]
      simp only [Bool.not_false, Bool.true_and, Option.map_some, Option.getD_some, Array.all_eq_true']
      intro e hem
      rw [(hl e.on (by have := he e hem; omega)).2 (he e hem)]
      simp
    have hlen : 0 < rs.length := List.length_pos_of_mem hne
    have hlt : t % rs.length < rs.length := Nat.mod_lt _ hlen
    rw [List.getElem?_eq_getElem hlt, honly _ (List.getElem_mem hlt)]
    dsimp only
    rw [sched_tail hu md fuel _ (c + 1) _ (by omega) (by omega) (by simpa using hs) (fun i hi => ?_), List.range'_succ]
    rw [getD_set (by omega)]
    split
    · rename_i e
      simp [← e]
    · rename_i e
      rw [hl i hi]
      omega
theorem nblt {a c : Nat} (h : Nat.blt a c = true) : a < c := by simpa [Nat.blt_eq] using h
def ownsL (own : Nat → Value → List (Nat × Obj)) (ops : Array Oper) (M : Sl) (listed : Array Bool) (N1 : Nat) : List (Nat × Obj) := ((List.range N1).filter fun i => listed.getD i false).flatMap fun i => own i (lk M ((dstOf ops i).getD 0))
theorem unord_go {md : Region.Mode} {l : List Oper} {N1 : Nat} {K : Nat → Value → Im → Prop} {own : Nat → Value → List (Nat × Obj)} (hu : UFacts l.toArray N1) (hK : ∀ i v I I', Le I I' → K i v I → K i v I') (hop : ∀ i, i < N1 → Un P B n m I0 L0 l N1 K own i)
    (hend : ∀ I Lx M w, Le I0 I → Hp B I w (Lx ++ L0) → Lx.Perm ((List.range N1).flatMap fun i => own i (lk M ((dstOf l.toArray i).getD 0))) → (∀ j dj, Nat.blt j N1 = true → dstOf l.toArray j = some dj → K j (lk M dj) I) → (∀ t, notDst l.toArray N1 t = true → lk M t = lk m t) → Sr G b n M ds l.toArray (l.drop N1) N1 k cs w) :
    ∀ (fuel t : Nat) (listed : Array Bool) (M : Sl) (w : World) (I : Im) (Lx : List (Nat × Obj)), listed.size = l.toArray.size → (List.range l.toArray.size).countP (fun i => !listed.getD i true) = fuel → (∀ i, N1 ≤ i → listed.getD i false = false) →
      Le I0 I → Hp B I w (Lx ++ L0) → Lx.Perm (ownsL own l.toArray M listed N1) → (∀ j dj, j < N1 → listed.getD j false = true → dstOf l.toArray j = some dj → K j (lk M dj) I) → (∀ t, notDst l.toArray N1 t = true → lk M t = lk m t) →
      St G b n M ds (.inRegion l.toArray (sched md l.toArray fuel t listed) :: k) cs w := by
  intro fuel
  induction fuel with
  | zero =>
    intro t listed M w I Lx hs hc hlate hle H hp hk hm
    have hall : ∀ i, i < l.toArray.size → listed.getD i false = true := by
      intro i hi
      have h1 := List.countP_eq_zero.1 hc i (List.mem_range.2 hi)
      rw [getD_ft (by omega)] at h1
      simpa using h1
    have hN : N1 = l.toArray.size := by
      have := hu.le
      by_cases h : N1 < l.toArray.size
      · have h1 := hall N1 h
        rw [hlate N1 (Nat.le_refl _)] at h1
        cases h1
      · omega
    have hf : (List.range N1).filter (fun i => listed.getD i false) = List.range N1 := List.filter_eq_self.2 fun i hi => hall i (by have := List.mem_range.1 hi; omega)
    unfold ownsL at hp
    rw [hf] at hp
    have h := hend I Lx M w hle H hp (fun j dj hj => hk j dj (nblt hj) (hall j (by have := nblt hj; omega))) hm
    have hd : l.drop N1 = [] := List.drop_of_length_le (by rw [hN]; simp)
    rw [hd] at h
    have h2 := h (fun j => by rw [hN]; simp)
    exact h2
  | succ fuel ih =>
    intro t listed M w I Lx hs hc hlate hle H hp hk hm
    by_cases hall : ∀ i, i < N1 → listed.getD i false = true
    · -- what is left stands in one order
      have hf : (List.range N1).filter (fun i => listed.getD i false) = List.range N1 := List.filter_eq_self.2 fun i hi => hall i (List.mem_range.1 hi)
      have hcount : N1 + (fuel + 1) = l.toArray.size := by
        have hle1 := hu.le
        have key : ∀ q, q ≤ l.toArray.size → (List.range q).countP (fun i => !listed.getD i true) = q - N1 := by
          intro q
          induction q with
          | zero => intro _; simp
          | succ q ihq =>
            intro hq
            rw [List.range_succ, List.countP_append, ihq (by omega), List.countP_singleton, getD_ft (by omega)]
            by_cases hqN : q < N1
            · rw [hall q hqN]
              simp
              omega
            · rw [hlate q (by omega)]
              simp
              omega
        rw [key _ (Nat.le_refl _)] at hc
        omega
      rw [sched_tail hu md (fuel + 1) t N1 listed (Nat.le_refl _) hcount hs (fun i hi => ?_)]
      rotate_left
      · constructor
        · intro h
          by_cases h2 : i < N1
          · exact h2
          · rw [hlate i (by omega)] at h
            cases h
        · exact hall i
      unfold ownsL at hp
      rw [hf] at hp
      have h := hend I Lx M w hle H hp (fun j dj hj => hk j dj (nblt hj) (hall j (nblt hj))) hm
      have h2 := h (fun j => by simp)
      have hlen : (l.drop N1).length = fuel + 1 := by
        rw [List.length_drop]
        have : l.toArray.size = l.length := by simp
        omega
      rw [hlen] at h2
      exact h2
    · obtain ⟨i1, hi1⟩ := Classical.not_forall.1 hall
      obtain ⟨hi1N, hi1l⟩ := Classical.not_imp.1 hi1
      have hi1f : listed.getD i1 false = false := by simpa using hi1l
      have hle1 := hu.le
      unfold sched
      dsimp only
      generalize hrs : (List.range l.toArray.size).filter (fun i => !listed.getD i true && ((l.toArray[i]?).map (·.after.all fun e => !Region.binds md e || listed.getD e.on false)).getD false) = rs
      -- the first that is left is ready
      have hne : rs ≠ [] := by
        have hex : ∀ q, listed.getD q false = false → q < l.toArray.size → ∃ i, i ∈ rs := by
          intro q
          induction q using Nat.strongRecOn with
          | ind q ihq =>
            intro hq hqs
            by_cases hq2 : ∃ q', q' < q ∧ listed.getD q' false = false
            · obtain ⟨q', h1, h2⟩ := hq2
              exact ihq q' h1 h2 (by omega)
            · refine ⟨q, ?_⟩
              rw [← hrs, List.mem_filter]
              refine ⟨List.mem_range.2 hqs, ?_⟩
              obtain ⟨o, ho, _, _, _, he⟩ := hu.op q hqs
              rw [getD_ft (by omega), hq, ho]
              simp only [Bool.not_false, Bool.true_and, Option.map_some, Option.getD_some, Array.all_eq_true']
              intro e hem
              have h3 : listed.getD e.on false = true := by
                cases h4 : listed.getD e.on false with
                | true => rfl
                | false => exact absurd ⟨e.on, he e hem, h4⟩ hq2
              rw [h3]
              simp
        obtain ⟨i, hi⟩ := hex i1 hi1f (by omega)
        exact List.ne_nil_of_mem hi
      have hlen : 0 < rs.length := List.length_pos_iff.2 hne
      have hlt : t % rs.length < rs.length := Nat.mod_lt _ hlen
      rw [List.getElem?_eq_getElem hlt]
      dsimp only
      have hmem : rs[t % rs.length] ∈ rs := List.getElem_mem hlt
      generalize rs[t % rs.length] = i at hmem
      rw [← hrs, List.mem_filter] at hmem
      obtain ⟨hir, hi2⟩ := hmem
      have hi : i < l.toArray.size := List.mem_range.1 hir
      simp only [Bool.and_eq_true, Bool.not_eq_true'] at hi2
      obtain ⟨hun, hpre⟩ := hi2
      have hunf : listed.getD i false = false := by rw [← getD_ft (by omega)]; exact hun
      have hiN : i < N1 := by
        rcases hu.late i hi with h | h
        · exact h
        · by_cases h2 : i < N1
          · exact h2
          · have := edge_listed (h i1 (by omega)) hpre
            rw [hi1f] at this
            cases this
      obtain ⟨o, ho, hdf, hsel, hg, hafter⟩ := hu.op i hi
      obtain ⟨o', d, ho', hd, hU⟩ := hop i hiN
      obtain rfl : o = o' := by
        have : l.toArray[i]? = l[i]? := by simp
        rw [this, ho'] at ho
        exact (Option.some.inj ho).symm
      have hdi : dstOf l.toArray i = some d := by unfold dstOf; rw [ho]; exact hd
      obtain ⟨E, hE, hO⟩ := hU I Lx M w hle H (fun j dj hj he hdj => hk j dj (by simpa [Nat.blt_eq] using hj) (edge_listed (i := i) (by unfold edgeAt; rw [ho]; simpa using he) hpre) hdj) hm
      have hev : ∀ x ∈ o.op.operands, ev n M x = ev n E x := ev_agree fun t ht => hE.mem t (mem_tmpsOf ht)
      refine st_op ho (by simp [Region.wanted, hg]) hdf ?_
      refine Ow.transfer hsel hev hO (fun v w' hx => ?_) (fun ch w' hf => hf.elim)
      obtain ⟨v', I', hx1, hle', H', hKv⟩ := hx
      rw [hd] at hx1 ⊢
      obtain rfl : v = v' := by
        have h3 : (d, v) :: E = (d, v') :: E := hx1
        exact (Prod.mk.inj (List.cons.inj h3).1).2
      have hsz : i < listed.size := by omega
      have hgs : ∀ j z, (listed.setIfInBounds i true).getD j z = if i = j then true else listed.getD j z := fun j z => getD_set hsz
      have hother : ∀ j dj, j < l.toArray.size → dstOf l.toArray j = some dj → j ≠ i → lk ((d, v) :: M) dj = lk M dj := by
        intro j dj hj hdj hji
        rw [lk_cons, if_neg]
        rintro rfl
        rcases (hu.rd i j hi hj o ho d hdj).2 with h | h
        · exact hji h.symm
        · exact h hdi
      have hcount : (List.range l.toArray.size).countP (fun j => !(listed.setIfInBounds i true).getD j true) = fuel := by
        have key : ∀ L : List Nat, L.Nodup → i ∈ L → L.countP (fun j => !listed.getD j true) = L.countP (fun j => !(listed.setIfInBounds i true).getD j true) + 1 := by
          intro L
          induction L with
          | nil => intro _ h; cases h
          | cons a L ihL =>
            intro hnd hin
            rw [List.nodup_cons] at hnd
            rw [List.countP_cons, List.countP_cons, hgs]
            by_cases ha : i = a
            · subst ha
              have : L.countP (fun j => !listed.getD j true) = L.countP (fun j => !(listed.setIfInBounds i true).getD j true) := by
                apply List.countP_congr
                intro j hj
                have hij : i ≠ j := by
                  rintro rfl
                  exact hnd.1 hj
                rw [hgs, if_neg hij]
              rw [this, hun]
              simp
            · rcases List.mem_cons.1 hin with h | h
              · exact absurd h ha
              · rw [ihL hnd.2 h, if_neg ha]
                omega
        have := key _ List.nodup_range hir
        omega
      refine ih _ _ _ _ I' (own i v ++ Lx) (by simpa using hs) hcount (fun j hj => ?_) (hle.trans hle') (by rw [List.append_assoc]; exact H') ?_ (fun j dj hj hlj hdj => ?_) (fun t ht => ?_)
      · rw [hgs, if_neg (by omega)]
        exact hlate j hj
      · -- what is owned
        have hflat : ∀ L : List Nat, L.Nodup → (∀ j ∈ L, j < N1) → (∀ Ly, Ly.Perm ((L.filter fun j => listed.getD j false).flatMap fun j => own j (lk M ((dstOf l.toArray j).getD 0))) → (if i ∈ L then own i v ++ Ly else Ly).Perm ((L.filter fun j => (listed.setIfInBounds i true).getD j false).flatMap fun j => own j (lk ((d, v) :: M) ((dstOf l.toArray j).getD 0)))) := by
          intro L
          induction L with
          | nil =>
            intro _ _ Ly hL
            simpa using hL
          | cons a L ihL =>
            intro hnd hlt Ly hL
            rw [List.nodup_cons] at hnd
            have hih := ihL hnd.2 fun j hj => hlt j (List.mem_cons_of_mem _ hj)
            by_cases ha : i = a
            · subst ha
              have hni : ¬ i ∈ L := hnd.1
              rw [if_pos (List.mem_cons_self ..)]
              rw [List.filter_cons, hunf] at hL
              simp only [Bool.false_eq_true, if_false] at hL
              have h1 := hih Ly hL
              rw [if_neg hni] at h1
              rw [List.filter_cons, hgs, if_pos rfl]
              simp only [if_true, List.flatMap_cons, hdi, Option.getD_some, lk_cons]
              refine List.Perm.append_left _ ?_
              simpa only [lk_cons] using h1
            · have hda : ∃ da, dstOf l.toArray a = some da := hu.dst a (hlt a (List.mem_cons_self ..))
              obtain ⟨da, hda⟩ := hda
              have hoa := hother a da (by have := hlt a (List.mem_cons_self ..); omega) hda (fun e => ha e.symm)
              rw [List.filter_cons] at hL
              rw [List.filter_cons, hgs, if_neg ha]
              have hmem : (i ∈ a :: L) ↔ (i ∈ L) := by simp [ha]
              cases hla : listed.getD a false with
              | false =>
                rw [hla] at hL
                simp only [Bool.false_eq_true, if_false] at hL ⊢
                have h1 := hih Ly hL
                simpa only [hmem] using h1
              | true =>
                rw [hla] at hL
                simp only [if_true, List.flatMap_cons] at hL ⊢
                rw [hda] at hL ⊢
                simp only [Option.getD_some] at hL ⊢
                rw [hoa]
                have h1 := hih _ (List.Perm.refl _)
                by_cases hiL : i ∈ L
                · rw [if_pos (hmem.2 hiL)]
                  rw [if_pos hiL] at h1
                  refine (List.Perm.append_left _ hL).trans ?_
                  refine List.Perm.trans ?_ (List.Perm.append_left _ h1)
                  rw [← List.append_assoc, ← List.append_assoc]
                  exact List.perm_append_comm.append_right _
                · rw [if_neg (fun h => hiL (hmem.1 h))]
                  rw [if_neg hiL] at h1
                  exact hL.trans (List.Perm.append_left _ h1)
        have h := hflat (List.range N1) List.nodup_range (fun j hj => List.mem_range.1 hj) Lx hp
        rw [if_pos (List.mem_range.2 hiN)] at h
        exact h
      · rw [hgs] at hlj
        by_cases hji : i = j
        · subst hji
          rw [hdi] at hdj
          cases hdj
          rw [lk_pt_same]
          exact hKv
        · rw [if_neg hji] at hlj
          rw [show lk (pt (some d) v M) dj = lk M dj from hother j dj (by omega) hdj (fun e => hji e.symm)]
          exact hK _ _ _ _ hle' (hk j dj hj hlj hdj)
      · show lk ((d, v) :: M) t = _
        rw [lk_cons, if_neg]
        · exact hm t ht
        · rintro rfl
          unfold notDst at ht
          have := List.all_eq_true.1 ht i (List.mem_range.2 hiN)
          rw [hdi] at this
          simp at this
/-- A region whose first N1 operations stand in whatever order, each of which only adds to memory; the rest stand in one order behind them. -/
theorem st_drawU {l : List Oper} (N1 : Nat) (K : Nat → Value → Im → Prop) (own : Nat → Value → List (Nat × Obj)) (hok : unordOk l.toArray N1 = true) (hK : ∀ i v I I', Le I I' → K i v I → K i v I') (H : Hp B I0 w L0) (is : List Nat) (his : List.range N1 = is) (hop : AllB (Un P B n m I0 L0 l N1 K own) is)
    (hend : ∀ I Lx M w, Le I0 I → Hp B I w (Lx ++ L0) → Lx.Perm (is.flatMap fun i => own i (lk M ((dstOf l.toArray i).getD 0))) → (∀ j dj, Nat.blt j N1 = true → dstOf l.toArray j = some dj → K j (lk M dj) I) → (∀ t, notDst l.toArray N1 t = true → lk M t = lk m t) → Sr G b n M ds l.toArray (l.drop N1) N1 k cs w) :
    St G b n m ds (.code (.region id l.toArray true) :: k) cs w := by
  have hu := unord_facts hok
  subst his
  refine G.back _ _ stepR_region_draw ?_
  obtain ⟨md, t', hsch, _⟩ := schedule_modes (ops := l.toArray) (P.follows .mixedOrders) (w.tape w.drawn (.order b.fn id))
  rw [hsch]
  have hz : ∀ i z, (Array.replicate l.toArray.size false).getD i z = true → z = true := by
    intro i z h
    simp only [Array.getD_eq_getD_getElem?, Array.getElem?_replicate] at h
    split at h
    · cases h
    · simpa using h
  have hz0 : ∀ i, (Array.replicate l.toArray.size false).getD i false = false := fun i => by
    cases h : (Array.replicate l.toArray.size false).getD i false with
    | false => rfl
    | true => cases hz i false h
  refine unord_go hu hK (fun i hi => hop.mem i (List.mem_range.2 hi)) hend l.toArray.size _ _ m w.drew I0 [] (by simp) ?_ (fun i _ => hz0 i) (Le.refl _) H.drew ?_ (fun j dj _ hj => by rw [hz0] at hj; cases hj) (fun t _ => rfl)
  · rw [List.countP_eq_length_filter]
    have : (List.range l.toArray.size).filter (fun i => !(Array.replicate l.toArray.size false).getD i true) = List.range l.toArray.size := by
      apply List.filter_eq_self.2
      intro i hi
      have hi' := List.mem_range.1 hi
      simp only [Array.getD_eq_getD_getElem?, Array.getElem?_replicate, if_pos hi']
      rfl
    rw [this, List.length_range]
  · unfold ownsL
    have : (List.range N1).filter (fun i => (Array.replicate l.toArray.size false).getD i false) = [] := List.filter_eq_nil_iff.2 fun i _ => by rw [hz0]; decide
    rw [this]
    exact List.Perm.refl _
end
/-! ### As it is used -/
def kn : List (Value → Im → Prop) → Nat → Value → Im → Prop
  | [], _, _, _ => True
  | f :: _, 0, v, I => f v I
  | _ :: l, i + 1, v, I => kn l i v I
def on : List (Value → List (Nat × Obj)) → Nat → Value → List (Nat × Obj)
  | [], _, _ => []
  | f :: _, 0, v => f v
  | _ :: l, i + 1, v => on l i v
def Mono (f : Value → Im → Prop) : Prop := ∀ v I I', Le I I' → f v I → f v I'
theorem kn_mono : ∀ {ks : List (Value → Im → Prop)}, AllB Mono ks → ∀ i v I I', Le I I' → kn ks i v I → kn ks i v I'
  | [], _, _, _, _, _, _, _ => trivial
  | f :: l, h, 0, v, I, I', hle, hk => h.1 v I I' hle hk
  | f :: l, h, i + 1, v, I, I', hle, hk => kn_mono (ks := l) h.2 i v I I' hle hk
def kVal (t : Value) : Value → Im → Prop := fun v _ => v = t
def kDat (D : List Dat) : Value → Im → Prop := fun v I => ∃ us, v = .agg us.toArray ∧ RepL I D us
def kSl (sz : Nat) (xs : List (List Dat)) (n : Nat) : Value → Im → Prop := fun v I => ∃ A, v = .slice A n n ∧ Rep I (.row sz xs) (.slice A n n)
def kPtr : Value → Im → Prop := fun v _ => ∃ g, v = .pointer (some ⟨g, 0, none⟩)
theorem kVal_mono (t : Value) : Mono (kVal t) := fun _ _ _ _ h => h
theorem kDat_mono (D : List Dat) : Mono (kDat D) := fun _ _ _ hle ⟨us, e, h⟩ => ⟨us, e, h.mono hle⟩
theorem kSl_mono (sz : Nat) (xs : List (List Dat)) (n : Nat) : Mono (kSl sz xs n) := fun _ _ _ hle ⟨A, e, h⟩ => ⟨A, e, h.mono hle⟩
theorem kPtr_mono : Mono kPtr := fun _ _ _ _ h => h
def oNo : Value → List (Nat × Obj) := fun _ => []
def oPtr (cs : List Value) (t : TypeId) : Value → List (Nat × Obj)
  | .pointer (some a) => [(a.block, Ob cs t)]
  | _ => []
end Go.Proofs.YtghmjnbpkobooaaGreatDoor
