/-
  Walks: the reference of policies: names, form, equality.
-/
import Derived.Test.YtbbflenaeihmeaaDoorP12
set_option linter.unusedVariables false
set_option linter.unusedSimpArgs false
set_option maxRecDepth 10000
set_option maxHeartbeats 4000000
namespace Go.Proofs.YtbbflenaeihmeaaDoor
open Go Go.RowKit

mutual
def allX (g : Ex → Bool) : Ex → Bool
  | ⟨k, n, no, nm, l⟩ => g ⟨k, n, no, nm, l⟩ && allXs g l
def allXs (g : Ex → Bool) : List Ex → Bool
  | [] => true
  | x :: l => allX g x && allXs g l
end
theorem allX_eq (g : Ex → Bool) (x : Ex) : allX g x = (g x && allXs g x.l) := by
  cases x
  simp only [allX]
theorem allXs_all (g : Ex → Bool) : ∀ l : List Ex, allXs g l = l.all (allX g)
  | [] => rfl
  | x :: l => by simp only [allXs, List.all_cons, allXs_all g l]
mutual
theorem parts_all (g : Ex → Bool) : ∀ (x : Ex) (d : Nat), (partsX x d).all (fun q => g q.1) = allX g x
  | ⟨k, n, no, nm, l⟩, d => by simp only [partsX, allX, List.all_cons, partss_all g l (d + 1)]
theorem partss_all (g : Ex → Bool) : ∀ (l : List Ex) (d : Nat), (partsXs l d).all (fun q => g q.1) = allXs g l
  | [], _ => rfl
  | x :: l, d => by simp only [partsXs, allXs, List.all_append, parts_all g x d, partss_all g l d]
end
def offG (off : List ByteArray) (x : Ex) : Bool := !isNamed x.kind || decide (0 ≤ idx off x.name)
def partG (up : Bool) (x : Ex) : Bool := kindOk x && (up || !decide (x.kind = 4))
theorem namedX_all (off : List ByteArray) (x : Ex) : namedX off x = allX (offG off) x := parts_all (offG off) x 1
theorem form_all (up : Bool) (x : Ex) : (partsX x 1).all (partOk up) = allX (partG up) x := parts_all (partG up) x 1
theorem off_no {off : List ByteArray} {x : Ex} (h : (isNamed x.kind && decide (idx off x.name < 0)) = true) : offG off x = false := by
  unfold offG
  simp only [Bool.and_eq_true, decide_eq_true_eq] at h
  rw [h.1]
  simp
  omega
theorem off_yes {off : List ByteArray} {x : Ex} (h : (isNamed x.kind && decide (idx off x.name < 0)) = false) : offG off x = true := by
  unfold offG
  cases hn : isNamed x.kind with
  | false => rfl
  | true =>
    rw [hn] at h
    simp at h
    simp
    omega
theorem named_c {B : World} {off : List ByteArray} : ∀ (d : Nat) {x : Ex} {I : Im} {L : List (Nat × Obj)} {w : World} {vo : Value} {us : List Value}, x.pc ≤ d → Hp B I w L → RepS encS I 1 off vo → RepL I (encEx x) us → Calls Tryd.prog 104 #[vo, .agg us.toArray] w (Rt fun r w' => r = .bool (allX (offG off) x) ∧ Hp B I w' L) := by
  intro d
  induction d with
  | zero =>
    intro x _ _ _ _ _ h0
    have := x.pc_eq
    omega
  | succ d ih =>
  intro x I L w vo us hd H ho hx
  obtain ⟨v, rfl, hxk, hxn, hxo, hxs, hxl⟩ := ex_iff.1 hx
  obtain ⟨A, c, rfl, hlc, hcm, hxl⟩ := RepS.open_ hxl
  have ho0 := ho
  obtain ⟨Ao, co, rfl, hol, hom, ho⟩ := RepS.open_ ho
  refine calls_st (n := 36) Tryd.func104 rfl rfl rfl ?_
  intro G bF cs hb hfn hR hP
  simp only [ini]
  refine st_seq ?_
  refine st_region ?_
  refine sr_op rfl rfl (ow_box H (v := .agg #[.int .i64 x.kind, .int .i64 x.n, .int .i64 x.no, .string x.name, .slice A x.l.length c]) rfl [.int .i64 x.kind, .int .i64 x.n, .int .i64 x.no, .string x.name, .slice A x.l.length c] rfl (fun g1 _ H => ?_))
  refine sr_op rfl rfl (ow_assign (v := .bool false) rfl ?_)
  refine sr_nil ?_
  refine st_seq ?_
  refine st_seq ?_
  refine st_region ?_
  refine sr_op rfl rfl (ow_fieldAddr fd26_0 ty3 rfl rfl (r := 0) rfl ?_)
  refine sr_op rfl rfl (ow_load (v := .int .i64 x.kind) ty3 H rfl 0 rfl rfl rfl rfl ?_)
  refine sr_op rfl rfl (ow_eql rfl rfl ?_)
  refine sr_op rfl rfl (ow_move (v := .bool (decide (x.kind = 1))) rfl ?_)
  refine sr_cut 4 (fun m_ w_ => ∃ (r_ : Sl) (v_ : Bool), m_ = (13, .bool v_) :: (0, .slice Ao off.length co) :: (3, .pointer (some ⟨g1, 0, none⟩)) :: (4, .bool false) :: r_ ∧ Hp B I w_ ((g1, Ob [.int .i64 x.kind, .int .i64 x.n, .int .i64 x.no, .string x.name, .slice A x.l.length c] 26) :: L) ∧ v_ = ((decide (x.kind = 1)) || (decide (x.kind = 2)))) (fun again => ?_) ?_
  · rcases hg : decide (x.kind = 1) with _ | _
    · refine sr_want rfl (j := 3) (d := 9) rfl rfl rfl (v := false) rfl rfl (ow_fieldAddr fd26_0 ty3 rfl rfl (r := 0) rfl ?_)
      refine sr_want rfl (j := 3) (d := 9) rfl rfl rfl (v := false) rfl rfl (ow_load (v := .int .i64 x.kind) ty3 H rfl 0 rfl rfl rfl rfl ?_)
      refine sr_want rfl (j := 3) (d := 9) rfl rfl rfl (v := false) rfl rfl (ow_eql rfl rfl ?_)
      refine sr_op rfl rfl (ow_pick (v := .bool (decide (x.kind = 2))) rfl rfl ?_)
      exact sr_live [13, 0, 3, 4] (again _ _ ⟨_, _, rfl, H, by rw [hg] <;> rfl⟩)
    · refine sr_pass rfl (j := 3) (d := 9) rfl rfl rfl (u := true) (v := false) rfl rfl ?_
      refine sr_pass rfl (j := 3) (d := 9) rfl rfl rfl (u := true) (v := false) rfl rfl ?_
      refine sr_pass rfl (j := 3) (d := 9) rfl rfl rfl (u := true) (v := false) rfl rfl ?_
      refine sr_op rfl rfl (ow_pick (v := .bool true) rfl rfl ?_)
      exact sr_live [13, 0, 3, 4] (again _ _ ⟨_, _, rfl, H, by rw [hg] <;> rfl⟩)
  rintro _ _ ⟨r, _, rfl, H, rfl⟩
  refine sr_op rfl rfl (ow_move (v := .bool ((decide (x.kind = 1)) || (decide (x.kind = 2)))) rfl ?_)
  refine sr_cut 6 (fun m_ w_ => ∃ (r_ : Sl) (v_ : Bool), m_ = (20, .bool v_) :: (0, .slice Ao off.length co) :: (3, .pointer (some ⟨g1, 0, none⟩)) :: (4, .bool false) :: r_ ∧ Hp B I w_ ((g1, Ob [.int .i64 x.kind, .int .i64 x.n, .int .i64 x.no, .string x.name, .slice A x.l.length c] 26) :: L) ∧ v_ = (((decide (x.kind = 1)) || (decide (x.kind = 2))) && (decide (idx off x.name < 0)))) (fun again => ?_) ?_
  · rcases hg : (decide (x.kind = 1)) || (decide (x.kind = 2)) with _ | _
    · refine sr_pass rfl (j := 8) (d := 14) rfl rfl rfl (u := false) (v := true) rfl rfl ?_
      refine sr_pass rfl (j := 8) (d := 14) rfl rfl rfl (u := false) (v := true) rfl rfl ?_
      refine sr_pass rfl (j := 8) (d := 14) rfl rfl rfl (u := false) (v := true) rfl rfl ?_
      refine sr_pass rfl (j := 8) (d := 14) rfl rfl rfl (u := false) (v := true) rfl rfl ?_
      refine sr_pass rfl (j := 8) (d := 14) rfl rfl rfl (u := false) (v := true) rfl rfl ?_
      refine sr_op rfl rfl (ow_pick (v := .bool false) rfl rfl ?_)
      exact sr_live [20, 0, 3, 4] (again _ _ ⟨_, _, rfl, H, by rw [hg] <;> rfl⟩)
    · refine sr_want rfl (j := 8) (d := 14) rfl rfl rfl (v := true) rfl rfl (ow_move (v := .slice Ao off.length co) rfl ?_)
      refine sr_want rfl (j := 8) (d := 14) rfl rfl rfl (v := true) rfl rfl (ow_fieldAddr fd26_3 ty9 rfl rfl (r := 3) rfl ?_)
      refine sr_want rfl (j := 8) (d := 14) rfl rfl rfl (v := true) rfl rfl (ow_load (v := .string x.name) ty9 H rfl 0 rfl rfl rfl rfl ?_)
      refine sr_want rfl (j := 8) (d := 14) rfl rfl rfl (v := true) rfl rfl (ow_call en106 rfl (refIndex_c H ho x.name) ?_)
      rintro _ _ ⟨rfl, H⟩
      refine sr_want rfl (j := 8) (d := 14) rfl rfl rfl (v := true) rfl rfl (ow_lss rfl rfl ?_)
      refine sr_op rfl rfl (ow_pick (v := .bool (decide (idx off x.name < 0))) rfl rfl ?_)
      exact sr_live [20, 0, 3, 4] (again _ _ ⟨_, _, rfl, H, by rw [hg] <;> rfl⟩)
  rintro _ _ ⟨r, _, rfl, H, rfl⟩
  refine sr_nil ?_
  refine st_cond (((decide (x.kind = 1)) || (decide (x.kind = 2))) && (decide (idx off x.name < 0))) rfl (fun hc2 => ?_) (fun hc2 => ?_)
  · refine st_seq ?_
    refine st_region ?_
    refine sr_op rfl rfl (ow_assign (v := .bool false) rfl ?_)
    refine sr_nil ?_
    refine st_ret hb (hR _ _ (.bool false) (res_run (vs := [.bool false]) Tryd.results104 ⟨_, _, rfl, rfl, rfl⟩) ?_)
    exact ⟨_, rfl, by rw [allX_eq, off_no hc2]; rfl, H.drop 1⟩
  · refine st_skip ?_
    refine st_seq ?_
    refine st_seq ?_
    refine st_region ?_
    refine sr_op rfl rfl (ow_assign (v := .int .i64 0) rfl ?_)
    refine sr_nil ?_
    refine st_block ?_
    refine st_loop ?_
    refine st_live [0, 3, 5] ?_
    refine st_ind (fun d_ m_ w_ => ∃ (i : Nat) (r_ : Sl), d_ = x.l.length - i ∧ m_ = (0, .slice Ao off.length co) :: (3, .pointer (some ⟨g1, 0, none⟩)) :: (5, .int .i64 (i : Int)) :: r_ ∧ Hp B I w_ ((g1, Ob [.int .i64 x.kind, .int .i64 x.n, .int .i64 x.no, .string x.name, .slice A x.l.length c] 26) :: L) ∧ i ≤ x.l.length ∧ (x.l.take i).all (allX (offG off)) = true) _ ⟨0, _, rfl, rfl, H, Nat.zero_le _, rfl⟩ ?_
    rintro _ _ _ ⟨i, r3, rfl, rfl, H, hi, ha⟩ ih4
    refine st_seq ?_
    refine st_seq ?_
    refine st_region ?_
    refine sr_op rfl rfl (ow_move (v := .int .i64 (i : Int)) rfl ?_)
    refine sr_op rfl rfl (ow_fieldAddr fd26_4 ty24 rfl rfl (r := 4) rfl ?_)
    refine sr_op rfl rfl (ow_load (v := .slice A x.l.length c) ty24 H rfl 0 rfl rfl rfl rfl ?_)
    refine sr_op rfl rfl (ow_lenS sl24 rfl rfl ?_)
    refine sr_op rfl rfl (ow_lss rfl rfl ?_)
    refine sr_nil ?_
    refine st_cond (decide ((i : Int) < (x.l.length : Int))) rfl (fun hc5 => ?_) (fun hc5 => ?_)
    · have hc5 := of_decide_eq_true hc5
      refine st_skip ?_
      refine st_seq ?_
      refine st_block ?_
      refine st_seq ?_
      refine st_region ?_
      refine sr_op rfl rfl (ow_move (v := .slice Ao off.length co) rfl ?_)
      refine sr_op rfl rfl (ow_fieldAddr fd26_4 ty24 rfl rfl (r := 4) rfl ?_)
      refine sr_op rfl rfl (ow_load (v := .slice A x.l.length c) ty24 H rfl 0 rfl rfl rfl rfl ?_)
      refine sr_op rfl rfl (ow_move (v := .int .i64 (i : Int)) rfl ?_)
      obtain ⟨y6, he6⟩ : ∃ q_, x.l[i]? = some q_ := ⟨_, List.getElem?_eq_getElem (by omega)⟩
      obtain ⟨b6, o6, us6, hA6, hat6, hul6, hr6⟩ := RepS.get hxl he6
      obtain ⟨v6, rfl, y6k, y6n, y6o, y6s, y6l⟩ := ex_iff.1 hr6
      obtain ⟨A6, c6, rfl, y6c, y6m, y6l⟩ := RepS.open_ y6l
      refine sr_op rfl rfl (ow_indexAddrA sl24 ty26 hA6 rfl rfl (by omega) (by omega) (r := o6 + i * 5) rfl ?_)
      refine sr_op rfl rfl (ow_loadI (v := .agg #[.int .i64 y6.kind, .int .i64 y6.n, .int .i64 y6.no, .string y6.name, .slice A6 y6.l.length c6]) ty26 H rfl hat6 rfl rfl rfl ?_)
      refine sr_op rfl rfl (ow_call en104 rfl (ih (x := y6) (by have := Ex.pc_at he6; omega) H ho0 (ex_iff.2 ⟨_, rfl, y6k, y6n, y6o, y6s, y6l⟩)) ?_)
      rintro _ _ ⟨rfl, H⟩
      refine sr_op rfl rfl (ow_not rfl ?_)
      refine sr_nil ?_
      refine st_cond (!(allX (offG off) y6)) rfl (fun hc7 => ?_) (fun hc7 => ?_)
      · refine st_seq ?_
        refine st_region ?_
        refine sr_op rfl rfl (ow_assign (v := .bool false) rfl ?_)
        refine sr_nil ?_
        refine st_ret hb (hR _ _ (.bool false) (res_run (vs := [.bool false]) Tryd.results104 ⟨_, _, rfl, rfl, rfl⟩) ?_)
        exact ⟨_, rfl, by rw [allX_eq, allXs_all, all_bad he6 (bnt hc7), Bool.and_false], H.drop 1⟩
      · refine st_skip ?_
        refine st_inBlock ?_
        refine st_region ?_
        refine sr_op rfl rfl (ow_move (v := .int .i64 (i : Int)) rfl ?_)
        refine sr_op rfl rfl (ow_add (r := ((i + 1 : Nat) : Int)) rfl rfl (inc_i64 (by omega)) ?_)
        refine sr_op rfl rfl (ow_assign (v := .int .i64 ((i + 1 : Nat) : Int)) rfl ?_)
        refine sr_nil ?_
        exact st_inLoop (st_live [0, 3, 5] (ih4 _ _ _ (by omega) ⟨i + 1, _, rfl, rfl, H, by omega, all_take he6 ha (bnf hc7)⟩))
    · have hc5 := of_decide_eq_false hc5
      refine st_exit rfl ?_
      refine st_seq ?_
      refine st_region ?_
      refine sr_op rfl rfl (ow_assign (v := .bool true) rfl ?_)
      refine sr_nil ?_
      refine st_ret hb (hR _ _ (.bool true) (res_run (vs := [.bool true]) Tryd.results104 ⟨_, _, rfl, rfl, rfl⟩) ?_)
      have ht : x.l.take i = x.l := List.take_of_length_le (by omega)
      rw [ht] at ha
      exact ⟨_, rfl, by rw [allX_eq, allXs_all, ha, off_yes hc2]; rfl, H.drop 1⟩
theorem k3_assoc {a b c d e : Bool} : ((((a && b) && c) && d) && e) = ((a && (b && c)) && (d && e)) := by cases a <;> cases b <;> cases c <;> cases d <;> cases e <;> rfl
theorem k4_assoc {u a b d e : Bool} : ((((u && a) && b) && d) && e) = (((a && b) && (d && e)) && (u || !true)) := by cases u <;> cases a <;> cases b <;> cases d <;> cases e <;> rfl
theorem partG1 {up : Bool} {x : Ex} (h : x.kind = 1) : partG up x = k1B x.n x.name x.l.length := by rw [partG, kindOk1 h, h]; simp
theorem partG2 {up : Bool} {x : Ex} (h : x.kind = 2) : partG up x = k2B x.n x.name x.l.length := by rw [partG, kindOk2 h, h]; simp
theorem partG3 {up : Bool} {x : Ex} (h : x.kind = 3) : partG up x = k3B x.n x.name x.l.length := by rw [partG, kindOk3 h, h]; simp
theorem partG4 {up : Bool} {x : Ex} (h : x.kind = 4) : partG up x = (k4B x.n x.name x.l.length && (up || !true)) := by rw [partG, kindOk4 h, h]; simp
theorem partG0 {up : Bool} {x : Ex} (h1 : ¬ x.kind = 1) (h2 : ¬ x.kind = 2) (h3 : ¬ x.kind = 3) (h4 : ¬ x.kind = 4) : partG up x = false := by simp [partG, kindOk, h1, h2, h3, h4]
theorem formedExpr_c {B : World} (up : Bool) : ∀ (d : Nat) {x : Ex} {I : Im} {L : List (Nat × Obj)} {w : World} {us : List Value}, x.pc ≤ d → Hp B I w L → RepL I (encEx x) us → Calls Tryd.prog 105 #[.agg us.toArray, .bool up] w (Rt fun r w' => r = .bool (allX (partG up) x) ∧ Hp B I w' L) := by
  intro d
  induction d with
  | zero =>
    intro x _ _ _ _ h0
    have := x.pc_eq
    omega
  | succ d ih =>
  intro x I L w us hd H hx
  obtain ⟨v, rfl, hxk, hxn, hxo, hxs, hxl⟩ := ex_iff.1 hx
  obtain ⟨A, c, rfl, hlc, hcm, hxl⟩ := RepS.open_ hxl
  refine calls_st (n := 104) Tryd.func105 rfl rfl rfl ?_
  intro G bF cs hb hfn hR hP
  simp only [ini]
  refine st_seq ?_
  refine st_region ?_
  refine sr_op rfl rfl (ow_box H (v := .agg #[.int .i64 x.kind, .int .i64 x.n, .int .i64 x.no, .string x.name, .slice A x.l.length c]) rfl [.int .i64 x.kind, .int .i64 x.n, .int .i64 x.no, .string x.name, .slice A x.l.length c] rfl (fun g1 _ H => ?_))
  refine sr_op rfl rfl (ow_assign (v := .bool false) rfl ?_)
  refine sr_nil ?_
  refine st_seq ?_
  refine st_seq ?_
  refine st_region ?_
  refine sr_op rfl rfl (ow_assign (v := .int .i64 0) rfl ?_)
  refine sr_nil ?_
  refine st_block ?_
  refine st_loop ?_
  refine st_live [1, 2, 5] ?_
  refine st_ind (fun d_ m_ w_ => ∃ (i : Nat) (r_ : Sl), d_ = x.l.length - i ∧ m_ = (1, .bool up) :: (2, .pointer (some ⟨g1, 0, none⟩)) :: (5, .int .i64 (i : Int)) :: r_ ∧ Hp B I w_ ((g1, Ob [.int .i64 x.kind, .int .i64 x.n, .int .i64 x.no, .string x.name, .slice A x.l.length c] 26) :: L) ∧ i ≤ x.l.length ∧ (x.l.take i).all (allX (partG up)) = true) _ ⟨0, _, rfl, rfl, H, Nat.zero_le _, rfl⟩ ?_
  rintro _ _ _ ⟨i, r2, rfl, rfl, H, hi, ha⟩ ih3
  refine st_seq ?_
  refine st_seq ?_
  refine st_region ?_
  refine sr_op rfl rfl (ow_move (v := .int .i64 (i : Int)) rfl ?_)
  refine sr_op rfl rfl (ow_fieldAddr fd26_4 ty24 rfl rfl (r := 4) rfl ?_)
  refine sr_op rfl rfl (ow_load (v := .slice A x.l.length c) ty24 H rfl 0 rfl rfl rfl rfl ?_)
  refine sr_op rfl rfl (ow_lenS sl24 rfl rfl ?_)
  refine sr_op rfl rfl (ow_lss rfl rfl ?_)
  refine sr_nil ?_
  refine st_cond (decide ((i : Int) < (x.l.length : Int))) rfl (fun hc4 => ?_) (fun hc4 => ?_)
  · have hc4 := of_decide_eq_true hc4
    refine st_skip ?_
    refine st_seq ?_
    refine st_block ?_
    refine st_seq ?_
    refine st_region ?_
    refine sr_op rfl rfl (ow_fieldAddr fd26_4 ty24 rfl rfl (r := 4) rfl ?_)
    refine sr_op rfl rfl (ow_load (v := .slice A x.l.length c) ty24 H rfl 0 rfl rfl rfl rfl ?_)
    refine sr_op rfl rfl (ow_move (v := .int .i64 (i : Int)) rfl ?_)
    obtain ⟨y5, he5⟩ : ∃ q_, x.l[i]? = some q_ := ⟨_, List.getElem?_eq_getElem (by omega)⟩
    obtain ⟨b5, o5, us5, hA5, hat5, hul5, hr5⟩ := RepS.get hxl he5
    obtain ⟨v5, rfl, y5k, y5n, y5o, y5s, y5l⟩ := ex_iff.1 hr5
    obtain ⟨A5, c5, rfl, y5c, y5m, y5l⟩ := RepS.open_ y5l
    refine sr_op rfl rfl (ow_indexAddrA sl24 ty26 hA5 rfl rfl (by omega) (by omega) (r := o5 + i * 5) rfl ?_)
    refine sr_op rfl rfl (ow_loadI (v := .agg #[.int .i64 y5.kind, .int .i64 y5.n, .int .i64 y5.no, .string y5.name, .slice A5 y5.l.length c5]) ty26 H rfl hat5 rfl rfl rfl ?_)
    refine sr_op rfl rfl (ow_move (v := .bool up) rfl ?_)
    refine sr_op rfl rfl (ow_call en105 rfl (ih (x := y5) (by have := Ex.pc_at he5; omega) H (ex_iff.2 ⟨_, rfl, y5k, y5n, y5o, y5s, y5l⟩)) ?_)
    rintro _ _ ⟨rfl, H⟩
    refine sr_op rfl rfl (ow_not rfl ?_)
    refine sr_nil ?_
    refine st_cond (!(allX (partG up) y5)) rfl (fun hc6 => ?_) (fun hc6 => ?_)
    · refine st_seq ?_
      refine st_region ?_
      refine sr_op rfl rfl (ow_assign (v := .bool false) rfl ?_)
      refine sr_nil ?_
      refine st_ret hb (hR _ _ (.bool false) (res_run (vs := [.bool false]) Tryd.results105 ⟨_, _, rfl, rfl, rfl⟩) ?_)
      exact ⟨_, rfl, by rw [allX_eq, allXs_all, all_bad he5 (bnt hc6), Bool.and_false], H.drop 1⟩
    · refine st_skip ?_
      refine st_inBlock ?_
      refine st_region ?_
      refine sr_op rfl rfl (ow_move (v := .int .i64 (i : Int)) rfl ?_)
      refine sr_op rfl rfl (ow_add (r := ((i + 1 : Nat) : Int)) rfl rfl (inc_i64 (by omega)) ?_)
      refine sr_op rfl rfl (ow_assign (v := .int .i64 ((i + 1 : Nat) : Int)) rfl ?_)
      refine sr_nil ?_
      exact st_inLoop (st_live [1, 2, 5] (ih3 _ _ _ (by omega) ⟨i + 1, _, rfl, rfl, H, by omega, all_take he5 ha (bnf hc6)⟩))
  · have hc4 := of_decide_eq_false hc4
    refine st_exit rfl ?_
    refine st_seq ?_
    refine st_seq ?_
    refine st_region ?_
    refine sr_op rfl rfl (ow_fieldAddr fd26_0 ty3 rfl rfl (r := 0) rfl ?_)
    refine sr_op rfl rfl (ow_load (v := .int .i64 x.kind) ty3 H rfl 0 rfl rfl rfl rfl ?_)
    refine sr_nil ?_
    refine st_block ?_
    refine st_seq ?_
    refine st_region ?_
    refine sr_op rfl rfl (ow_eql rfl rfl ?_)
    refine sr_op rfl rfl (ow_assign (v := .bool (decide (x.kind = 1))) rfl ?_)
    refine sr_nil ?_
    refine st_cond (decide (x.kind = 1)) rfl (fun hc7 => ?_) (fun hc7 => ?_)
    · have hc7 := of_decide_eq_true hc7
      refine st_seq ?_
      refine st_region ?_
      refine sr_op rfl rfl (ow_fieldAddr fd26_1 ty3 rfl rfl (r := 1) rfl ?_)
      refine sr_op rfl rfl (ow_load (v := .int .i64 x.n) ty3 H rfl 0 rfl rfl rfl rfl ?_)
      refine sr_op rfl rfl (ow_eql rfl rfl ?_)
      refine sr_op rfl rfl (ow_move (v := .bool (decide (x.n = 0))) rfl ?_)
      refine sr_cut 5 (fun m_ w_ => ∃ (r_ : Sl) (v_ : Bool), m_ = (33, .bool v_) :: r_ ∧ Hp B I w_ ((g1, Ob [.int .i64 x.kind, .int .i64 x.n, .int .i64 x.no, .string x.name, .slice A x.l.length c] 26) :: L) ∧ v_ = ((decide (x.n = 0)) && (decide ((x.l.length : Int) = 0)))) (fun again => ?_) ?_
      · rcases hg : decide (x.n = 0) with _ | _
        · refine sr_pass rfl (j := 3) (d := 28) rfl rfl rfl (u := false) (v := true) rfl rfl ?_
          refine sr_pass rfl (j := 3) (d := 28) rfl rfl rfl (u := false) (v := true) rfl rfl ?_
          refine sr_pass rfl (j := 3) (d := 28) rfl rfl rfl (u := false) (v := true) rfl rfl ?_
          refine sr_pass rfl (j := 3) (d := 28) rfl rfl rfl (u := false) (v := true) rfl rfl ?_
          refine sr_op rfl rfl (ow_pick (v := .bool false) rfl rfl ?_)
          exact sr_live [33] (again _ _ ⟨_, _, rfl, H, by rw [hg] <;> rfl⟩)
        · refine sr_want rfl (j := 3) (d := 28) rfl rfl rfl (v := true) rfl rfl (ow_fieldAddr fd26_4 ty24 rfl rfl (r := 4) rfl ?_)
          refine sr_want rfl (j := 3) (d := 28) rfl rfl rfl (v := true) rfl rfl (ow_load (v := .slice A x.l.length c) ty24 H rfl 0 rfl rfl rfl rfl ?_)
          refine sr_want rfl (j := 3) (d := 28) rfl rfl rfl (v := true) rfl rfl (ow_lenS sl24 rfl rfl ?_)
          refine sr_want rfl (j := 3) (d := 28) rfl rfl rfl (v := true) rfl rfl (ow_eql rfl rfl ?_)
          refine sr_op rfl rfl (ow_pick (v := .bool (decide ((x.l.length : Int) = 0))) rfl rfl ?_)
          exact sr_live [33] (again _ _ ⟨_, _, rfl, H, by rw [hg] <;> rfl⟩)
      rintro _ _ ⟨r, _, rfl, H, rfl⟩
      refine sr_op rfl rfl (ow_assign (v := .bool ((decide (x.n = 0)) && (decide ((x.l.length : Int) = 0)))) rfl ?_)
      refine sr_nil ?_
      refine st_ret hb (hR _ _ (.bool ((decide (x.n = 0)) && (decide ((x.l.length : Int) = 0)))) (res_run (vs := [.bool ((decide (x.n = 0)) && (decide ((x.l.length : Int) = 0)))]) Tryd.results105 ⟨_, _, rfl, rfl, rfl⟩) ?_)
      have ht : x.l.take i = x.l := List.take_of_length_le (by omega)
      rw [ht] at ha
      exact ⟨_, rfl, by rw [allX_eq, allXs_all, ha, Bool.and_true, partG1 hc7]; rfl, H.drop 1⟩
    · have hc7 := of_decide_eq_false hc7
      refine st_seq ?_
      refine st_region ?_
      refine sr_op rfl rfl (ow_eql rfl rfl ?_)
      refine sr_op rfl rfl (ow_assign (v := .bool (decide (x.kind = 2))) rfl ?_)
      refine sr_nil ?_
      refine st_cond (decide (x.kind = 2)) rfl (fun hc8 => ?_) (fun hc8 => ?_)
      · have hc8 := of_decide_eq_true hc8
        refine st_seq ?_
        refine st_region ?_
        refine sr_op rfl rfl (ow_fieldAddr fd26_1 ty3 rfl rfl (r := 1) rfl ?_)
        refine sr_op rfl rfl (ow_load (v := .int .i64 x.n) ty3 H rfl 0 rfl rfl rfl rfl ?_)
        refine sr_op rfl rfl (ow_geq rfl rfl ?_)
        refine sr_op rfl rfl (ow_move (v := .bool (decide (1 ≤ x.n))) rfl ?_)
        refine sr_cut 4 (fun m_ w_ => ∃ (r_ : Sl) (v_ : Bool), m_ = (43, .bool v_) :: (2, .pointer (some ⟨g1, 0, none⟩)) :: r_ ∧ Hp B I w_ ((g1, Ob [.int .i64 x.kind, .int .i64 x.n, .int .i64 x.no, .string x.name, .slice A x.l.length c] 26) :: L) ∧ v_ = ((decide (1 ≤ x.n)) && (decide (x.n ≤ 4096)))) (fun again => ?_) ?_
        · rcases hg : decide (1 ≤ x.n) with _ | _
          · refine sr_pass rfl (j := 3) (d := 39) rfl rfl rfl (u := false) (v := true) rfl rfl ?_
            refine sr_pass rfl (j := 3) (d := 39) rfl rfl rfl (u := false) (v := true) rfl rfl ?_
            refine sr_pass rfl (j := 3) (d := 39) rfl rfl rfl (u := false) (v := true) rfl rfl ?_
            refine sr_op rfl rfl (ow_pick (v := .bool false) rfl rfl ?_)
            exact sr_live [43, 2] (again _ _ ⟨_, _, rfl, H, by rw [hg] <;> rfl⟩)
          · refine sr_want rfl (j := 3) (d := 39) rfl rfl rfl (v := true) rfl rfl (ow_fieldAddr fd26_1 ty3 rfl rfl (r := 1) rfl ?_)
            refine sr_want rfl (j := 3) (d := 39) rfl rfl rfl (v := true) rfl rfl (ow_load (v := .int .i64 x.n) ty3 H rfl 0 rfl rfl rfl rfl ?_)
            refine sr_want rfl (j := 3) (d := 39) rfl rfl rfl (v := true) rfl rfl (ow_leq rfl rfl ?_)
            refine sr_op rfl rfl (ow_pick (v := .bool (decide (x.n ≤ 4096))) rfl rfl ?_)
            exact sr_live [43, 2] (again _ _ ⟨_, _, rfl, H, by rw [hg] <;> rfl⟩)
        rintro _ _ ⟨r, _, rfl, H, rfl⟩
        refine sr_op rfl rfl (ow_move (v := .bool ((decide (1 ≤ x.n)) && (decide (x.n ≤ 4096)))) rfl ?_)
        refine sr_cut 5 (fun m_ w_ => ∃ (r_ : Sl) (v_ : Bool), m_ = (49, .bool v_) :: r_ ∧ Hp B I w_ ((g1, Ob [.int .i64 x.kind, .int .i64 x.n, .int .i64 x.no, .string x.name, .slice A x.l.length c] 26) :: L) ∧ v_ = (((decide (1 ≤ x.n)) && (decide (x.n ≤ 4096))) && (decide ((x.l.length : Int) = 0)))) (fun again => ?_) ?_
        · rcases hg : (decide (1 ≤ x.n)) && (decide (x.n ≤ 4096)) with _ | _
          · refine sr_pass rfl (j := 8) (d := 44) rfl rfl rfl (u := false) (v := true) rfl rfl ?_
            refine sr_pass rfl (j := 8) (d := 44) rfl rfl rfl (u := false) (v := true) rfl rfl ?_
            refine sr_pass rfl (j := 8) (d := 44) rfl rfl rfl (u := false) (v := true) rfl rfl ?_
            refine sr_pass rfl (j := 8) (d := 44) rfl rfl rfl (u := false) (v := true) rfl rfl ?_
            refine sr_op rfl rfl (ow_pick (v := .bool false) rfl rfl ?_)
            exact sr_live [49] (again _ _ ⟨_, _, rfl, H, by rw [hg] <;> rfl⟩)
          · refine sr_want rfl (j := 8) (d := 44) rfl rfl rfl (v := true) rfl rfl (ow_fieldAddr fd26_4 ty24 rfl rfl (r := 4) rfl ?_)
            refine sr_want rfl (j := 8) (d := 44) rfl rfl rfl (v := true) rfl rfl (ow_load (v := .slice A x.l.length c) ty24 H rfl 0 rfl rfl rfl rfl ?_)
            refine sr_want rfl (j := 8) (d := 44) rfl rfl rfl (v := true) rfl rfl (ow_lenS sl24 rfl rfl ?_)
            refine sr_want rfl (j := 8) (d := 44) rfl rfl rfl (v := true) rfl rfl (ow_eql rfl rfl ?_)
            refine sr_op rfl rfl (ow_pick (v := .bool (decide ((x.l.length : Int) = 0))) rfl rfl ?_)
            exact sr_live [49] (again _ _ ⟨_, _, rfl, H, by rw [hg] <;> rfl⟩)
        rintro _ _ ⟨r, _, rfl, H, rfl⟩
        refine sr_op rfl rfl (ow_assign (v := .bool (((decide (1 ≤ x.n)) && (decide (x.n ≤ 4096))) && (decide ((x.l.length : Int) = 0)))) rfl ?_)
        refine sr_nil ?_
        refine st_ret hb (hR _ _ (.bool (((decide (1 ≤ x.n)) && (decide (x.n ≤ 4096))) && (decide ((x.l.length : Int) = 0)))) (res_run (vs := [.bool (((decide (1 ≤ x.n)) && (decide (x.n ≤ 4096))) && (decide ((x.l.length : Int) = 0)))]) Tryd.results105 ⟨_, _, rfl, rfl, rfl⟩) ?_)
        have ht : x.l.take i = x.l := List.take_of_length_le (by omega)
        rw [ht] at ha
        exact ⟨_, rfl, by rw [allX_eq, allXs_all, ha, Bool.and_true, partG2 hc8]; rfl, H.drop 1⟩
      · have hc8 := of_decide_eq_false hc8
        refine st_seq ?_
        refine st_region ?_
        refine sr_op rfl rfl (ow_eql rfl rfl ?_)
        refine sr_op rfl rfl (ow_assign (v := .bool (decide (x.kind = 3))) rfl ?_)
        refine sr_nil ?_
        refine st_cond (decide (x.kind = 3)) rfl (fun hc9 => ?_) (fun hc9 => ?_)
        · have hc9 := of_decide_eq_true hc9
          refine st_seq ?_
          refine st_region ?_
          refine sr_op rfl rfl (ow_fieldAddr fd26_3 ty9 rfl rfl (r := 3) rfl ?_)
          refine sr_op rfl rfl (ow_load (v := .string x.name) ty9 H rfl 0 rfl rfl rfl rfl ?_)
          refine sr_op rfl rfl (ow_seq rfl rfl ?_)
          refine sr_op rfl rfl (ow_move (v := .bool (decide (x.name = ⟨#[]⟩))) rfl ?_)
          refine sr_cut 5 (fun m_ w_ => ∃ (r_ : Sl) (v_ : Bool), m_ = (60, .bool v_) :: (2, .pointer (some ⟨g1, 0, none⟩)) :: r_ ∧ Hp B I w_ ((g1, Ob [.int .i64 x.kind, .int .i64 x.n, .int .i64 x.no, .string x.name, .slice A x.l.length c] 26) :: L) ∧ v_ = ((decide (x.name = ⟨#[]⟩)) && (decide (1 ≤ (x.l.length : Int))))) (fun again => ?_) ?_
          · rcases hg : decide (x.name = ⟨#[]⟩) with _ | _
            · refine sr_pass rfl (j := 3) (d := 55) rfl rfl rfl (u := false) (v := true) rfl rfl ?_
              refine sr_pass rfl (j := 3) (d := 55) rfl rfl rfl (u := false) (v := true) rfl rfl ?_
              refine sr_pass rfl (j := 3) (d := 55) rfl rfl rfl (u := false) (v := true) rfl rfl ?_
              refine sr_pass rfl (j := 3) (d := 55) rfl rfl rfl (u := false) (v := true) rfl rfl ?_
              refine sr_op rfl rfl (ow_pick (v := .bool false) rfl rfl ?_)
              exact sr_live [60, 2] (again _ _ ⟨_, _, rfl, H, by rw [hg] <;> rfl⟩)
            · refine sr_want rfl (j := 3) (d := 55) rfl rfl rfl (v := true) rfl rfl (ow_fieldAddr fd26_4 ty24 rfl rfl (r := 4) rfl ?_)
              refine sr_want rfl (j := 3) (d := 55) rfl rfl rfl (v := true) rfl rfl (ow_load (v := .slice A x.l.length c) ty24 H rfl 0 rfl rfl rfl rfl ?_)
              refine sr_want rfl (j := 3) (d := 55) rfl rfl rfl (v := true) rfl rfl (ow_lenS sl24 rfl rfl ?_)
              refine sr_want rfl (j := 3) (d := 55) rfl rfl rfl (v := true) rfl rfl (ow_geq rfl rfl ?_)
              refine sr_op rfl rfl (ow_pick (v := .bool (decide (1 ≤ (x.l.length : Int)))) rfl rfl ?_)
              exact sr_live [60, 2] (again _ _ ⟨_, _, rfl, H, by rw [hg] <;> rfl⟩)
          rintro _ _ ⟨r, _, rfl, H, rfl⟩
          refine sr_op rfl rfl (ow_move (v := .bool ((decide (x.name = ⟨#[]⟩)) && (decide (1 ≤ (x.l.length : Int))))) rfl ?_)
          refine sr_cut 5 (fun m_ w_ => ∃ (r_ : Sl) (v_ : Bool), m_ = (66, .bool v_) :: (2, .pointer (some ⟨g1, 0, none⟩)) :: r_ ∧ Hp B I w_ ((g1, Ob [.int .i64 x.kind, .int .i64 x.n, .int .i64 x.no, .string x.name, .slice A x.l.length c] 26) :: L) ∧ v_ = (((decide (x.name = ⟨#[]⟩)) && (decide (1 ≤ (x.l.length : Int)))) && (decide ((x.l.length : Int) ≤ 16)))) (fun again => ?_) ?_
          · rcases hg : (decide (x.name = ⟨#[]⟩)) && (decide (1 ≤ (x.l.length : Int))) with _ | _
            · refine sr_pass rfl (j := 9) (d := 61) rfl rfl rfl (u := false) (v := true) rfl rfl ?_
              refine sr_pass rfl (j := 9) (d := 61) rfl rfl rfl (u := false) (v := true) rfl rfl ?_
              refine sr_pass rfl (j := 9) (d := 61) rfl rfl rfl (u := false) (v := true) rfl rfl ?_
              refine sr_pass rfl (j := 9) (d := 61) rfl rfl rfl (u := false) (v := true) rfl rfl ?_
              refine sr_op rfl rfl (ow_pick (v := .bool false) rfl rfl ?_)
              exact sr_live [66, 2] (again _ _ ⟨_, _, rfl, H, by rw [hg] <;> rfl⟩)
            · refine sr_want rfl (j := 9) (d := 61) rfl rfl rfl (v := true) rfl rfl (ow_fieldAddr fd26_4 ty24 rfl rfl (r := 4) rfl ?_)
              refine sr_want rfl (j := 9) (d := 61) rfl rfl rfl (v := true) rfl rfl (ow_load (v := .slice A x.l.length c) ty24 H rfl 0 rfl rfl rfl rfl ?_)
              refine sr_want rfl (j := 9) (d := 61) rfl rfl rfl (v := true) rfl rfl (ow_lenS sl24 rfl rfl ?_)
              refine sr_want rfl (j := 9) (d := 61) rfl rfl rfl (v := true) rfl rfl (ow_leq rfl rfl ?_)
              refine sr_op rfl rfl (ow_pick (v := .bool (decide ((x.l.length : Int) ≤ 16))) rfl rfl ?_)
              exact sr_live [66, 2] (again _ _ ⟨_, _, rfl, H, by rw [hg] <;> rfl⟩)
          rintro _ _ ⟨r, _, rfl, H, rfl⟩
          refine sr_op rfl rfl (ow_move (v := .bool (((decide (x.name = ⟨#[]⟩)) && (decide (1 ≤ (x.l.length : Int)))) && (decide ((x.l.length : Int) ≤ 16)))) rfl ?_)
          refine sr_cut 4 (fun m_ w_ => ∃ (r_ : Sl) (v_ : Bool), m_ = (71, .bool v_) :: (2, .pointer (some ⟨g1, 0, none⟩)) :: r_ ∧ Hp B I w_ ((g1, Ob [.int .i64 x.kind, .int .i64 x.n, .int .i64 x.no, .string x.name, .slice A x.l.length c] 26) :: L) ∧ v_ = ((((decide (x.name = ⟨#[]⟩)) && (decide (1 ≤ (x.l.length : Int)))) && (decide ((x.l.length : Int) ≤ 16))) && (decide (1 ≤ x.n)))) (fun again => ?_) ?_
          · rcases hg : ((decide (x.name = ⟨#[]⟩)) && (decide (1 ≤ (x.l.length : Int)))) && (decide ((x.l.length : Int) ≤ 16)) with _ | _
            · refine sr_pass rfl (j := 15) (d := 67) rfl rfl rfl (u := false) (v := true) rfl rfl ?_
              refine sr_pass rfl (j := 15) (d := 67) rfl rfl rfl (u := false) (v := true) rfl rfl ?_
              refine sr_pass rfl (j := 15) (d := 67) rfl rfl rfl (u := false) (v := true) rfl rfl ?_
              refine sr_op rfl rfl (ow_pick (v := .bool false) rfl rfl ?_)
              exact sr_live [71, 2] (again _ _ ⟨_, _, rfl, H, by rw [hg] <;> rfl⟩)
            · refine sr_want rfl (j := 15) (d := 67) rfl rfl rfl (v := true) rfl rfl (ow_fieldAddr fd26_1 ty3 rfl rfl (r := 1) rfl ?_)
              refine sr_want rfl (j := 15) (d := 67) rfl rfl rfl (v := true) rfl rfl (ow_load (v := .int .i64 x.n) ty3 H rfl 0 rfl rfl rfl rfl ?_)
              refine sr_want rfl (j := 15) (d := 67) rfl rfl rfl (v := true) rfl rfl (ow_geq rfl rfl ?_)
              refine sr_op rfl rfl (ow_pick (v := .bool (decide (1 ≤ x.n))) rfl rfl ?_)
              exact sr_live [71, 2] (again _ _ ⟨_, _, rfl, H, by rw [hg] <;> rfl⟩)
          rintro _ _ ⟨r, _, rfl, H, rfl⟩
          refine sr_op rfl rfl (ow_move (v := .bool ((((decide (x.name = ⟨#[]⟩)) && (decide (1 ≤ (x.l.length : Int)))) && (decide ((x.l.length : Int) ≤ 16))) && (decide (1 ≤ x.n)))) rfl ?_)
          refine sr_cut 7 (fun m_ w_ => ∃ (r_ : Sl) (v_ : Bool), m_ = (79, .bool v_) :: r_ ∧ Hp B I w_ ((g1, Ob [.int .i64 x.kind, .int .i64 x.n, .int .i64 x.no, .string x.name, .slice A x.l.length c] 26) :: L) ∧ v_ = (((((decide (x.name = ⟨#[]⟩)) && (decide (1 ≤ (x.l.length : Int)))) && (decide ((x.l.length : Int) ≤ 16))) && (decide (1 ≤ x.n))) && (decide (x.n ≤ (x.l.length : Int))))) (fun again => ?_) ?_
          · rcases hg : (((decide (x.name = ⟨#[]⟩)) && (decide (1 ≤ (x.l.length : Int)))) && (decide ((x.l.length : Int) ≤ 16))) && (decide (1 ≤ x.n)) with _ | _
            · refine sr_pass rfl (j := 20) (d := 72) rfl rfl rfl (u := false) (v := true) rfl rfl ?_
              refine sr_pass rfl (j := 20) (d := 72) rfl rfl rfl (u := false) (v := true) rfl rfl ?_
              refine sr_pass rfl (j := 20) (d := 72) rfl rfl rfl (u := false) (v := true) rfl rfl ?_
              refine sr_pass rfl (j := 20) (d := 72) rfl rfl rfl (u := false) (v := true) rfl rfl ?_
              refine sr_pass rfl (j := 20) (d := 72) rfl rfl rfl (u := false) (v := true) rfl rfl ?_
              refine sr_pass rfl (j := 20) (d := 72) rfl rfl rfl (u := false) (v := true) rfl rfl ?_
              refine sr_op rfl rfl (ow_pick (v := .bool false) rfl rfl ?_)
              exact sr_live [79] (again _ _ ⟨_, _, rfl, H, by rw [hg] <;> rfl⟩)
            · refine sr_want rfl (j := 20) (d := 72) rfl rfl rfl (v := true) rfl rfl (ow_fieldAddr fd26_1 ty3 rfl rfl (r := 1) rfl ?_)
              refine sr_want rfl (j := 20) (d := 72) rfl rfl rfl (v := true) rfl rfl (ow_load (v := .int .i64 x.n) ty3 H rfl 0 rfl rfl rfl rfl ?_)
              refine sr_want rfl (j := 20) (d := 72) rfl rfl rfl (v := true) rfl rfl (ow_fieldAddr fd26_4 ty24 rfl rfl (r := 4) rfl ?_)
              refine sr_want rfl (j := 20) (d := 72) rfl rfl rfl (v := true) rfl rfl (ow_load (v := .slice A x.l.length c) ty24 H rfl 0 rfl rfl rfl rfl ?_)
              refine sr_want rfl (j := 20) (d := 72) rfl rfl rfl (v := true) rfl rfl (ow_lenS sl24 rfl rfl ?_)
              refine sr_want rfl (j := 20) (d := 72) rfl rfl rfl (v := true) rfl rfl (ow_leq rfl rfl ?_)
              refine sr_op rfl rfl (ow_pick (v := .bool (decide (x.n ≤ (x.l.length : Int)))) rfl rfl ?_)
              exact sr_live [79] (again _ _ ⟨_, _, rfl, H, by rw [hg] <;> rfl⟩)
          rintro _ _ ⟨r, _, rfl, H, rfl⟩
          refine sr_op rfl rfl (ow_assign (v := .bool (((((decide (x.name = ⟨#[]⟩)) && (decide (1 ≤ (x.l.length : Int)))) && (decide ((x.l.length : Int) ≤ 16))) && (decide (1 ≤ x.n))) && (decide (x.n ≤ (x.l.length : Int))))) rfl ?_)
          refine sr_nil ?_
          refine st_ret hb (hR _ _ (.bool (((((decide (x.name = ⟨#[]⟩)) && (decide (1 ≤ (x.l.length : Int)))) && (decide ((x.l.length : Int) ≤ 16))) && (decide (1 ≤ x.n))) && (decide (x.n ≤ (x.l.length : Int))))) (res_run (vs := [.bool (((((decide (x.name = ⟨#[]⟩)) && (decide (1 ≤ (x.l.length : Int)))) && (decide ((x.l.length : Int) ≤ 16))) && (decide (1 ≤ x.n))) && (decide (x.n ≤ (x.l.length : Int))))]) Tryd.results105 ⟨_, _, rfl, rfl, rfl⟩) ?_)
          have ht : x.l.take i = x.l := List.take_of_length_le (by omega)
          rw [ht] at ha
          exact ⟨_, rfl, by rw [allX_eq, allXs_all, ha, Bool.and_true, partG3 hc9]; unfold k3B withinB; rw [← k3_assoc], H.drop 1⟩
        · have hc9 := of_decide_eq_false hc9
          refine st_seq ?_
          refine st_region ?_
          refine sr_op rfl rfl (ow_eql rfl rfl ?_)
          refine sr_op rfl rfl (ow_assign (v := .bool (decide (x.kind = 4))) rfl ?_)
          refine sr_nil ?_
          refine st_cond (decide (x.kind = 4)) rfl (fun hc10 => ?_) (fun hc10 => ?_)
          · have hc10 := of_decide_eq_true hc10
            refine st_seq ?_
            refine st_region ?_
            refine sr_op rfl rfl (ow_move (v := .bool up) rfl ?_)
            refine sr_op rfl rfl (ow_move (v := .bool up) rfl ?_)
            refine sr_cut 4 (fun m_ w_ => ∃ (r_ : Sl) (v_ : Bool), m_ = (87, .bool v_) :: (2, .pointer (some ⟨g1, 0, none⟩)) :: r_ ∧ Hp B I w_ ((g1, Ob [.int .i64 x.kind, .int .i64 x.n, .int .i64 x.no, .string x.name, .slice A x.l.length c] 26) :: L) ∧ v_ = (up && (decide (x.name = ⟨#[]⟩)))) (fun again => ?_) ?_
            · rcases hg : up with _ | _
              · refine sr_pass rfl (j := 1) (d := 83) rfl rfl rfl (u := false) (v := true) rfl rfl ?_
                refine sr_pass rfl (j := 1) (d := 83) rfl rfl rfl (u := false) (v := true) rfl rfl ?_
                refine sr_pass rfl (j := 1) (d := 83) rfl rfl rfl (u := false) (v := true) rfl rfl ?_
                refine sr_op rfl rfl (ow_pick (v := .bool false) rfl rfl ?_)
                exact sr_live [87, 2] (again _ _ ⟨_, _, rfl, H, by rw [hg] <;> rfl⟩)
              · refine sr_want rfl (j := 1) (d := 83) rfl rfl rfl (v := true) rfl rfl (ow_fieldAddr fd26_3 ty9 rfl rfl (r := 3) rfl ?_)
                refine sr_want rfl (j := 1) (d := 83) rfl rfl rfl (v := true) rfl rfl (ow_load (v := .string x.name) ty9 H rfl 0 rfl rfl rfl rfl ?_)
                refine sr_want rfl (j := 1) (d := 83) rfl rfl rfl (v := true) rfl rfl (ow_seq rfl rfl ?_)
                refine sr_op rfl rfl (ow_pick (v := .bool (decide (x.name = ⟨#[]⟩))) rfl rfl ?_)
                exact sr_live [87, 2] (again _ _ ⟨_, _, rfl, H, by rw [hg] <;> rfl⟩)
            rintro _ _ ⟨r, _, rfl, H, rfl⟩
            refine sr_op rfl rfl (ow_move (v := .bool (up && (decide (x.name = ⟨#[]⟩)))) rfl ?_)
            refine sr_cut 5 (fun m_ w_ => ∃ (r_ : Sl) (v_ : Bool), m_ = (93, .bool v_) :: (2, .pointer (some ⟨g1, 0, none⟩)) :: r_ ∧ Hp B I w_ ((g1, Ob [.int .i64 x.kind, .int .i64 x.n, .int .i64 x.no, .string x.name, .slice A x.l.length c] 26) :: L) ∧ v_ = ((up && (decide (x.name = ⟨#[]⟩))) && (decide ((x.l.length : Int) = 2)))) (fun again => ?_) ?_
            · rcases hg : up && (decide (x.name = ⟨#[]⟩)) with _ | _
              · refine sr_pass rfl (j := 6) (d := 88) rfl rfl rfl (u := false) (v := true) rfl rfl ?_
                refine sr_pass rfl (j := 6) (d := 88) rfl rfl rfl (u := false) (v := true) rfl rfl ?_
                refine sr_pass rfl (j := 6) (d := 88) rfl rfl rfl (u := false) (v := true) rfl rfl ?_
                refine sr_pass rfl (j := 6) (d := 88) rfl rfl rfl (u := false) (v := true) rfl rfl ?_
                refine sr_op rfl rfl (ow_pick (v := .bool false) rfl rfl ?_)
                exact sr_live [93, 2] (again _ _ ⟨_, _, rfl, H, by rw [hg] <;> rfl⟩)
              · refine sr_want rfl (j := 6) (d := 88) rfl rfl rfl (v := true) rfl rfl (ow_fieldAddr fd26_4 ty24 rfl rfl (r := 4) rfl ?_)
                refine sr_want rfl (j := 6) (d := 88) rfl rfl rfl (v := true) rfl rfl (ow_load (v := .slice A x.l.length c) ty24 H rfl 0 rfl rfl rfl rfl ?_)
                refine sr_want rfl (j := 6) (d := 88) rfl rfl rfl (v := true) rfl rfl (ow_lenS sl24 rfl rfl ?_)
                refine sr_want rfl (j := 6) (d := 88) rfl rfl rfl (v := true) rfl rfl (ow_eql rfl rfl ?_)
                refine sr_op rfl rfl (ow_pick (v := .bool (decide ((x.l.length : Int) = 2))) rfl rfl ?_)
                exact sr_live [93, 2] (again _ _ ⟨_, _, rfl, H, by rw [hg] <;> rfl⟩)
            rintro _ _ ⟨r, _, rfl, H, rfl⟩
            refine sr_op rfl rfl (ow_move (v := .bool ((up && (decide (x.name = ⟨#[]⟩))) && (decide ((x.l.length : Int) = 2)))) rfl ?_)
            refine sr_cut 4 (fun m_ w_ => ∃ (r_ : Sl) (v_ : Bool), m_ = (98, .bool v_) :: (2, .pointer (some ⟨g1, 0, none⟩)) :: r_ ∧ Hp B I w_ ((g1, Ob [.int .i64 x.kind, .int .i64 x.n, .int .i64 x.no, .string x.name, .slice A x.l.length c] 26) :: L) ∧ v_ = (((up && (decide (x.name = ⟨#[]⟩))) && (decide ((x.l.length : Int) = 2))) && (decide (0 ≤ x.n)))) (fun again => ?_) ?_
            · rcases hg : (up && (decide (x.name = ⟨#[]⟩))) && (decide ((x.l.length : Int) = 2)) with _ | _
              · refine sr_pass rfl (j := 12) (d := 94) rfl rfl rfl (u := false) (v := true) rfl rfl ?_
                refine sr_pass rfl (j := 12) (d := 94) rfl rfl rfl (u := false) (v := true) rfl rfl ?_
                refine sr_pass rfl (j := 12) (d := 94) rfl rfl rfl (u := false) (v := true) rfl rfl ?_
                refine sr_op rfl rfl (ow_pick (v := .bool false) rfl rfl ?_)
                exact sr_live [98, 2] (again _ _ ⟨_, _, rfl, H, by rw [hg] <;> rfl⟩)
              · refine sr_want rfl (j := 12) (d := 94) rfl rfl rfl (v := true) rfl rfl (ow_fieldAddr fd26_1 ty3 rfl rfl (r := 1) rfl ?_)
                refine sr_want rfl (j := 12) (d := 94) rfl rfl rfl (v := true) rfl rfl (ow_load (v := .int .i64 x.n) ty3 H rfl 0 rfl rfl rfl rfl ?_)
                refine sr_want rfl (j := 12) (d := 94) rfl rfl rfl (v := true) rfl rfl (ow_geq rfl rfl ?_)
                refine sr_op rfl rfl (ow_pick (v := .bool (decide (0 ≤ x.n))) rfl rfl ?_)
                exact sr_live [98, 2] (again _ _ ⟨_, _, rfl, H, by rw [hg] <;> rfl⟩)
            rintro _ _ ⟨r, _, rfl, H, rfl⟩
            refine sr_op rfl rfl (ow_move (v := .bool (((up && (decide (x.name = ⟨#[]⟩))) && (decide ((x.l.length : Int) = 2))) && (decide (0 ≤ x.n)))) rfl ?_)
            refine sr_cut 4 (fun m_ w_ => ∃ (r_ : Sl) (v_ : Bool), m_ = (103, .bool v_) :: r_ ∧ Hp B I w_ ((g1, Ob [.int .i64 x.kind, .int .i64 x.n, .int .i64 x.no, .string x.name, .slice A x.l.length c] 26) :: L) ∧ v_ = ((((up && (decide (x.name = ⟨#[]⟩))) && (decide ((x.l.length : Int) = 2))) && (decide (0 ≤ x.n))) && (decide (x.n ≤ 1099511627776)))) (fun again => ?_) ?_
            · rcases hg : ((up && (decide (x.name = ⟨#[]⟩))) && (decide ((x.l.length : Int) = 2))) && (decide (0 ≤ x.n)) with _ | _
              · refine sr_pass rfl (j := 17) (d := 99) rfl rfl rfl (u := false) (v := true) rfl rfl ?_
                refine sr_pass rfl (j := 17) (d := 99) rfl rfl rfl (u := false) (v := true) rfl rfl ?_
                refine sr_pass rfl (j := 17) (d := 99) rfl rfl rfl (u := false) (v := true) rfl rfl ?_
                refine sr_op rfl rfl (ow_pick (v := .bool false) rfl rfl ?_)
                exact sr_live [103] (again _ _ ⟨_, _, rfl, H, by rw [hg] <;> rfl⟩)
              · refine sr_want rfl (j := 17) (d := 99) rfl rfl rfl (v := true) rfl rfl (ow_fieldAddr fd26_1 ty3 rfl rfl (r := 1) rfl ?_)
                refine sr_want rfl (j := 17) (d := 99) rfl rfl rfl (v := true) rfl rfl (ow_load (v := .int .i64 x.n) ty3 H rfl 0 rfl rfl rfl rfl ?_)
                refine sr_want rfl (j := 17) (d := 99) rfl rfl rfl (v := true) rfl rfl (ow_leq rfl rfl ?_)
                refine sr_op rfl rfl (ow_pick (v := .bool (decide (x.n ≤ 1099511627776))) rfl rfl ?_)
                exact sr_live [103] (again _ _ ⟨_, _, rfl, H, by rw [hg] <;> rfl⟩)
            rintro _ _ ⟨r, _, rfl, H, rfl⟩
            refine sr_op rfl rfl (ow_assign (v := .bool ((((up && (decide (x.name = ⟨#[]⟩))) && (decide ((x.l.length : Int) = 2))) && (decide (0 ≤ x.n))) && (decide (x.n ≤ 1099511627776)))) rfl ?_)
            refine sr_nil ?_
            refine st_ret hb (hR _ _ (.bool ((((up && (decide (x.name = ⟨#[]⟩))) && (decide ((x.l.length : Int) = 2))) && (decide (0 ≤ x.n))) && (decide (x.n ≤ 1099511627776)))) (res_run (vs := [.bool ((((up && (decide (x.name = ⟨#[]⟩))) && (decide ((x.l.length : Int) = 2))) && (decide (0 ≤ x.n))) && (decide (x.n ≤ 1099511627776)))]) Tryd.results105 ⟨_, _, rfl, rfl, rfl⟩) ?_)
            have ht : x.l.take i = x.l := List.take_of_length_le (by omega)
            rw [ht] at ha
            exact ⟨_, rfl, by rw [allX_eq, allXs_all, ha, Bool.and_true, partG4 hc10]; unfold k4B withinB; rw [← k4_assoc], H.drop 1⟩
          · have hc10 := of_decide_eq_false hc10
            refine st_skip ?_
            refine st_inBlock ?_
            refine st_seq ?_
            refine st_region ?_
            refine sr_op rfl rfl (ow_assign (v := .bool false) rfl ?_)
            refine sr_nil ?_
            refine st_ret hb (hR _ _ (.bool false) (res_run (vs := [.bool false]) Tryd.results105 ⟨_, _, rfl, rfl, rfl⟩) ?_)
            have ht : x.l.take i = x.l := List.take_of_length_le (by omega)
            rw [ht] at ha
            exact ⟨_, rfl, by rw [allX_eq, partG0 hc7 hc8 hc9 hc10]; rfl, H.drop 1⟩
mutual
def sameX : Ex → Ex → Bool
  | ⟨k, n, no, nm, l⟩, ⟨k2, n2, no2, nm2, l2⟩ => (((decide (k = k2) && decide (n = n2)) && decide (no = no2)) && decide (nm = nm2)) && sameXs l l2
def sameXs : List Ex → List Ex → Bool
  | [], [] => true
  | x :: l, y :: m => sameX x y && sameXs l m
  | _, _ => false
end
mutual
theorem sameX_iff : ∀ (x y : Ex), sameX x y = true ↔ x = y
  | ⟨k, n, no, nm, l⟩, ⟨k2, n2, no2, nm2, l2⟩ => by
    simp only [sameX, Bool.and_eq_true, decide_eq_true_eq, sameXs_iff l l2, Ex.mk.injEq]
    constructor
    · rintro ⟨⟨⟨⟨h1, h2⟩, h3⟩, h4⟩, h5⟩
      exact ⟨h1, h2, h3, h4, h5⟩
    · rintro ⟨h1, h2, h3, h4, h5⟩
      exact ⟨⟨⟨⟨h1, h2⟩, h3⟩, h4⟩, h5⟩
theorem sameXs_iff : ∀ (l m : List Ex), sameXs l m = true ↔ l = m
  | [], [] => by simp only [sameXs]
  | x :: l, y :: m => by simp only [sameXs, Bool.and_eq_true, sameX_iff x y, sameXs_iff l m, List.cons.injEq]
  | [], y :: m => by simp [sameXs]
  | x :: l, [] => by simp [sameXs]
end
theorem sameX_eq (x y : Ex) : sameX x y = ((((decide (x.kind = y.kind) && decide (x.n = y.n)) && decide (x.no = y.no)) && decide (x.name = y.name)) && sameXs x.l y.l) := by
  cases x
  cases y
  simp only [sameX]
theorem sameXs_len {l m : List Ex} (h : ¬ (l.length : Int) = (m.length : Int)) : sameXs l m = false := by
  rw [Bool.eq_false_iff]
  intro h2
  rw [sameXs_iff] at h2
  subst h2
  exact h rfl
theorem same_no {a b c d : Bool} {l m : List Ex} (h : ((((!a || !b) || !c) || !d) || !decide ((l.length : Int) = (m.length : Int))) = true) : ((((a && b) && c) && d) && sameXs l m) = false := by
  by_cases hl : (l.length : Int) = (m.length : Int)
  · rw [decide_eq_true hl] at h
    cases a <;> cases b <;> cases c <;> cases d <;> first | rfl | cases h
  · rw [sameXs_len hl, Bool.and_false]
theorem same_yes {a b c d : Bool} {l m : List Ex} (h : ((((!a || !b) || !c) || !d) || !decide ((l.length : Int) = (m.length : Int))) = false) : (((a && b) && c) && d) = true ∧ (l.length : Int) = (m.length : Int) := by
  by_cases hl : (l.length : Int) = (m.length : Int)
  · rw [decide_eq_true hl] at h
    refine ⟨?_, hl⟩
    cases a <;> cases b <;> cases c <;> cases d <;> first | rfl | cases h
  · rw [decide_eq_false hl] at h
    simp at h
theorem SameExpr_c {B : World} : ∀ (d : Nat) {x y : Ex} {I : Im} {L : List (Nat × Obj)} {w : World} {us ws : List Value}, x.pc ≤ d → Hp B I w L → RepL I (encEx x) us → RepL I (encEx y) ws → Calls Tryd.prog 67 #[.agg us.toArray, .agg ws.toArray] w (Rt fun r w' => r = .bool (sameX x y) ∧ Hp B I w' L) := by
  intro d
  induction d with
  | zero =>
    intro x _ _ _ _ _ _ h0
    have := x.pc_eq
    omega
  | succ d ih =>
  intro x y I L w us ws hd H hx hy
  obtain ⟨v, rfl, hxk, hxn, hxo, hxs, hxl⟩ := ex_iff.1 hx
  obtain ⟨A, c, rfl, hlc, hcm, hxl⟩ := RepS.open_ hxl
  obtain ⟨v2, rfl, hyk, hyn, hyo, hys, hyl⟩ := ex_iff.1 hy
  obtain ⟨A2, c2, rfl, hlc2, hcm2, hyl⟩ := RepS.open_ hyl
  refine calls_st (n := 60) Tryd.func67 rfl rfl rfl ?_
  intro G bF cs hb hfn hR hP
  simp only [ini]
  refine st_seq ?_
  refine st_region ?_
  refine sr_op rfl rfl (ow_box H (v := .agg #[.int .i64 x.kind, .int .i64 x.n, .int .i64 x.no, .string x.name, .slice A x.l.length c]) rfl [.int .i64 x.kind, .int .i64 x.n, .int .i64 x.no, .string x.name, .slice A x.l.length c] rfl (fun g1 _ H => ?_))
  refine sr_op rfl rfl (ow_box H (v := .agg #[.int .i64 y.kind, .int .i64 y.n, .int .i64 y.no, .string y.name, .slice A2 y.l.length c2]) rfl [.int .i64 y.kind, .int .i64 y.n, .int .i64 y.no, .string y.name, .slice A2 y.l.length c2] rfl (fun g2 _ H => ?_))
  refine sr_op rfl rfl (ow_assign (v := .bool false) rfl ?_)
  refine sr_nil ?_
  refine st_seq ?_
  refine st_seq ?_
  refine st_region ?_
  refine sr_op rfl rfl (ow_fieldAddr fd26_0 ty3 rfl rfl (r := 0) rfl ?_)
  refine sr_op rfl rfl (ow_load (v := .int .i64 x.kind) ty3 H rfl 1 rfl rfl rfl rfl ?_)
  refine sr_op rfl rfl (ow_fieldAddr fd26_0 ty3 rfl rfl (r := 0) rfl ?_)
  refine sr_op rfl rfl (ow_load (v := .int .i64 y.kind) ty3 H rfl 0 rfl rfl rfl rfl ?_)
  refine sr_op rfl rfl (ow_neq rfl rfl ?_)
  refine sr_op rfl rfl (ow_move (v := .bool (!decide (x.kind = y.kind))) rfl ?_)
  refine sr_cut 6 (fun m_ w_ => ∃ (r_ : Sl) (v_ : Bool), m_ = (17, .bool v_) :: (2, .pointer (some ⟨g1, 0, none⟩)) :: (3, .pointer (some ⟨g2, 0, none⟩)) :: (4, .bool false) :: r_ ∧ Hp B I w_ ((g2, Ob [.int .i64 y.kind, .int .i64 y.n, .int .i64 y.no, .string y.name, .slice A2 y.l.length c2] 26) :: (g1, Ob [.int .i64 x.kind, .int .i64 x.n, .int .i64 x.no, .string x.name, .slice A x.l.length c] 26) :: L) ∧ v_ = ((!decide (x.kind = y.kind)) || (!decide (x.n = y.n)))) (fun again => ?_) ?_
  · rcases hg : !decide (x.kind = y.kind) with _ | _
    · refine sr_want rfl (j := 5) (d := 11) rfl rfl rfl (v := false) rfl rfl (ow_fieldAddr fd26_1 ty3 rfl rfl (r := 1) rfl ?_)
      refine sr_want rfl (j := 5) (d := 11) rfl rfl rfl (v := false) rfl rfl (ow_load (v := .int .i64 x.n) ty3 H rfl 1 rfl rfl rfl rfl ?_)
      refine sr_want rfl (j := 5) (d := 11) rfl rfl rfl (v := false) rfl rfl (ow_fieldAddr fd26_1 ty3 rfl rfl (r := 1) rfl ?_)
      refine sr_want rfl (j := 5) (d := 11) rfl rfl rfl (v := false) rfl rfl (ow_load (v := .int .i64 y.n) ty3 H rfl 0 rfl rfl rfl rfl ?_)
      refine sr_want rfl (j := 5) (d := 11) rfl rfl rfl (v := false) rfl rfl (ow_neq rfl rfl ?_)
      refine sr_op rfl rfl (ow_pick (v := .bool (!decide (x.n = y.n))) rfl rfl ?_)
      exact sr_live [17, 2, 3, 4] (again _ _ ⟨_, _, rfl, H, by rw [hg] <;> rfl⟩)
    · refine sr_pass rfl (j := 5) (d := 11) rfl rfl rfl (u := true) (v := false) rfl rfl ?_
      refine sr_pass rfl (j := 5) (d := 11) rfl rfl rfl (u := true) (v := false) rfl rfl ?_
      refine sr_pass rfl (j := 5) (d := 11) rfl rfl rfl (u := true) (v := false) rfl rfl ?_
      refine sr_pass rfl (j := 5) (d := 11) rfl rfl rfl (u := true) (v := false) rfl rfl ?_
      refine sr_pass rfl (j := 5) (d := 11) rfl rfl rfl (u := true) (v := false) rfl rfl ?_
      refine sr_op rfl rfl (ow_pick (v := .bool true) rfl rfl ?_)
      exact sr_live [17, 2, 3, 4] (again _ _ ⟨_, _, rfl, H, by rw [hg] <;> rfl⟩)
  rintro _ _ ⟨r, _, rfl, H, rfl⟩
  refine sr_op rfl rfl (ow_move (v := .bool ((!decide (x.kind = y.kind)) || (!decide (x.n = y.n)))) rfl ?_)
  refine sr_cut 6 (fun m_ w_ => ∃ (r_ : Sl) (v_ : Bool), m_ = (24, .bool v_) :: (2, .pointer (some ⟨g1, 0, none⟩)) :: (3, .pointer (some ⟨g2, 0, none⟩)) :: (4, .bool false) :: r_ ∧ Hp B I w_ ((g2, Ob [.int .i64 y.kind, .int .i64 y.n, .int .i64 y.no, .string y.name, .slice A2 y.l.length c2] 26) :: (g1, Ob [.int .i64 x.kind, .int .i64 x.n, .int .i64 x.no, .string x.name, .slice A x.l.length c] 26) :: L) ∧ v_ = (((!decide (x.kind = y.kind)) || (!decide (x.n = y.n))) || (!decide (x.no = y.no)))) (fun again => ?_) ?_
  · rcases hg : (!decide (x.kind = y.kind)) || (!decide (x.n = y.n)) with _ | _
    · refine sr_want rfl (j := 12) (d := 18) rfl rfl rfl (v := false) rfl rfl (ow_fieldAddr fd26_2 ty3 rfl rfl (r := 2) rfl ?_)
      refine sr_want rfl (j := 12) (d := 18) rfl rfl rfl (v := false) rfl rfl (ow_load (v := .int .i64 x.no) ty3 H rfl 1 rfl rfl rfl rfl ?_)
      refine sr_want rfl (j := 12) (d := 18) rfl rfl rfl (v := false) rfl rfl (ow_fieldAddr fd26_2 ty3 rfl rfl (r := 2) rfl ?_)
      refine sr_want rfl (j := 12) (d := 18) rfl rfl rfl (v := false) rfl rfl (ow_load (v := .int .i64 y.no) ty3 H rfl 0 rfl rfl rfl rfl ?_)
      refine sr_want rfl (j := 12) (d := 18) rfl rfl rfl (v := false) rfl rfl (ow_neq rfl rfl ?_)
      refine sr_op rfl rfl (ow_pick (v := .bool (!decide (x.no = y.no))) rfl rfl ?_)
      exact sr_live [24, 2, 3, 4] (again _ _ ⟨_, _, rfl, H, by rw [hg] <;> rfl⟩)
    · refine sr_pass rfl (j := 12) (d := 18) rfl rfl rfl (u := true) (v := false) rfl rfl ?_
      refine sr_pass rfl (j := 12) (d := 18) rfl rfl rfl (u := true) (v := false) rfl rfl ?_
      refine sr_pass rfl (j := 12) (d := 18) rfl rfl rfl (u := true) (v := false) rfl rfl ?_
      refine sr_pass rfl (j := 12) (d := 18) rfl rfl rfl (u := true) (v := false) rfl rfl ?_
      refine sr_pass rfl (j := 12) (d := 18) rfl rfl rfl (u := true) (v := false) rfl rfl ?_
      refine sr_op rfl rfl (ow_pick (v := .bool true) rfl rfl ?_)
      exact sr_live [24, 2, 3, 4] (again _ _ ⟨_, _, rfl, H, by rw [hg] <;> rfl⟩)
  rintro _ _ ⟨r, _, rfl, H, rfl⟩
  refine sr_op rfl rfl (ow_move (v := .bool (((!decide (x.kind = y.kind)) || (!decide (x.n = y.n))) || (!decide (x.no = y.no)))) rfl ?_)
  refine sr_cut 6 (fun m_ w_ => ∃ (r_ : Sl) (v_ : Bool), m_ = (31, .bool v_) :: (2, .pointer (some ⟨g1, 0, none⟩)) :: (3, .pointer (some ⟨g2, 0, none⟩)) :: (4, .bool false) :: r_ ∧ Hp B I w_ ((g2, Ob [.int .i64 y.kind, .int .i64 y.n, .int .i64 y.no, .string y.name, .slice A2 y.l.length c2] 26) :: (g1, Ob [.int .i64 x.kind, .int .i64 x.n, .int .i64 x.no, .string x.name, .slice A x.l.length c] 26) :: L) ∧ v_ = ((((!decide (x.kind = y.kind)) || (!decide (x.n = y.n))) || (!decide (x.no = y.no))) || (!decide (x.name = y.name)))) (fun again => ?_) ?_
  · rcases hg : ((!decide (x.kind = y.kind)) || (!decide (x.n = y.n))) || (!decide (x.no = y.no)) with _ | _
    · refine sr_want rfl (j := 19) (d := 25) rfl rfl rfl (v := false) rfl rfl (ow_fieldAddr fd26_3 ty9 rfl rfl (r := 3) rfl ?_)
      refine sr_want rfl (j := 19) (d := 25) rfl rfl rfl (v := false) rfl rfl (ow_load (v := .string x.name) ty9 H rfl 1 rfl rfl rfl rfl ?_)
      refine sr_want rfl (j := 19) (d := 25) rfl rfl rfl (v := false) rfl rfl (ow_fieldAddr fd26_3 ty9 rfl rfl (r := 3) rfl ?_)
      refine sr_want rfl (j := 19) (d := 25) rfl rfl rfl (v := false) rfl rfl (ow_load (v := .string y.name) ty9 H rfl 0 rfl rfl rfl rfl ?_)
      refine sr_want rfl (j := 19) (d := 25) rfl rfl rfl (v := false) rfl rfl (ow_sne rfl rfl ?_)
      refine sr_op rfl rfl (ow_pick (v := .bool (!decide (x.name = y.name))) rfl rfl ?_)
      exact sr_live [31, 2, 3, 4] (again _ _ ⟨_, _, rfl, H, by rw [hg] <;> rfl⟩)
    · refine sr_pass rfl (j := 19) (d := 25) rfl rfl rfl (u := true) (v := false) rfl rfl ?_
      refine sr_pass rfl (j := 19) (d := 25) rfl rfl rfl (u := true) (v := false) rfl rfl ?_
      refine sr_pass rfl (j := 19) (d := 25) rfl rfl rfl (u := true) (v := false) rfl rfl ?_
      refine sr_pass rfl (j := 19) (d := 25) rfl rfl rfl (u := true) (v := false) rfl rfl ?_
      refine sr_pass rfl (j := 19) (d := 25) rfl rfl rfl (u := true) (v := false) rfl rfl ?_
      refine sr_op rfl rfl (ow_pick (v := .bool true) rfl rfl ?_)
      exact sr_live [31, 2, 3, 4] (again _ _ ⟨_, _, rfl, H, by rw [hg] <;> rfl⟩)
  rintro _ _ ⟨r, _, rfl, H, rfl⟩
  refine sr_op rfl rfl (ow_move (v := .bool ((((!decide (x.kind = y.kind)) || (!decide (x.n = y.n))) || (!decide (x.no = y.no))) || (!decide (x.name = y.name)))) rfl ?_)
  refine sr_cut 8 (fun m_ w_ => ∃ (r_ : Sl) (v_ : Bool), m_ = (40, .bool v_) :: (2, .pointer (some ⟨g1, 0, none⟩)) :: (3, .pointer (some ⟨g2, 0, none⟩)) :: (4, .bool false) :: r_ ∧ Hp B I w_ ((g2, Ob [.int .i64 y.kind, .int .i64 y.n, .int .i64 y.no, .string y.name, .slice A2 y.l.length c2] 26) :: (g1, Ob [.int .i64 x.kind, .int .i64 x.n, .int .i64 x.no, .string x.name, .slice A x.l.length c] 26) :: L) ∧ v_ = (((((!decide (x.kind = y.kind)) || (!decide (x.n = y.n))) || (!decide (x.no = y.no))) || (!decide (x.name = y.name))) || (!decide ((x.l.length : Int) = (y.l.length : Int))))) (fun again => ?_) ?_
  · rcases hg : (((!decide (x.kind = y.kind)) || (!decide (x.n = y.n))) || (!decide (x.no = y.no))) || (!decide (x.name = y.name)) with _ | _
    · refine sr_want rfl (j := 26) (d := 32) rfl rfl rfl (v := false) rfl rfl (ow_fieldAddr fd26_4 ty24 rfl rfl (r := 4) rfl ?_)
      refine sr_want rfl (j := 26) (d := 32) rfl rfl rfl (v := false) rfl rfl (ow_load (v := .slice A x.l.length c) ty24 H rfl 1 rfl rfl rfl rfl ?_)
      refine sr_want rfl (j := 26) (d := 32) rfl rfl rfl (v := false) rfl rfl (ow_lenS sl24 rfl rfl ?_)
      refine sr_want rfl (j := 26) (d := 32) rfl rfl rfl (v := false) rfl rfl (ow_fieldAddr fd26_4 ty24 rfl rfl (r := 4) rfl ?_)
      refine sr_want rfl (j := 26) (d := 32) rfl rfl rfl (v := false) rfl rfl (ow_load (v := .slice A2 y.l.length c2) ty24 H rfl 0 rfl rfl rfl rfl ?_)
      refine sr_want rfl (j := 26) (d := 32) rfl rfl rfl (v := false) rfl rfl (ow_lenS sl24 rfl rfl ?_)
      refine sr_want rfl (j := 26) (d := 32) rfl rfl rfl (v := false) rfl rfl (ow_neq rfl rfl ?_)
      refine sr_op rfl rfl (ow_pick (v := .bool (!decide ((x.l.length : Int) = (y.l.length : Int)))) rfl rfl ?_)
      exact sr_live [40, 2, 3, 4] (again _ _ ⟨_, _, rfl, H, by rw [hg] <;> rfl⟩)
    · refine sr_pass rfl (j := 26) (d := 32) rfl rfl rfl (u := true) (v := false) rfl rfl ?_
      refine sr_pass rfl (j := 26) (d := 32) rfl rfl rfl (u := true) (v := false) rfl rfl ?_
      refine sr_pass rfl (j := 26) (d := 32) rfl rfl rfl (u := true) (v := false) rfl rfl ?_
      refine sr_pass rfl (j := 26) (d := 32) rfl rfl rfl (u := true) (v := false) rfl rfl ?_
      refine sr_pass rfl (j := 26) (d := 32) rfl rfl rfl (u := true) (v := false) rfl rfl ?_
      refine sr_pass rfl (j := 26) (d := 32) rfl rfl rfl (u := true) (v := false) rfl rfl ?_
      refine sr_pass rfl (j := 26) (d := 32) rfl rfl rfl (u := true) (v := false) rfl rfl ?_
      refine sr_op rfl rfl (ow_pick (v := .bool true) rfl rfl ?_)
      exact sr_live [40, 2, 3, 4] (again _ _ ⟨_, _, rfl, H, by rw [hg] <;> rfl⟩)
  rintro _ _ ⟨r, _, rfl, H, rfl⟩
  refine sr_nil ?_
  refine st_cond (((((!decide (x.kind = y.kind)) || (!decide (x.n = y.n))) || (!decide (x.no = y.no))) || (!decide (x.name = y.name))) || (!decide ((x.l.length : Int) = (y.l.length : Int)))) rfl (fun hc3 => ?_) (fun hc3 => ?_)
  · refine st_seq ?_
    refine st_region ?_
    refine sr_op rfl rfl (ow_assign (v := .bool false) rfl ?_)
    refine sr_nil ?_
    refine st_ret hb (hR _ _ (.bool false) (res_run (vs := [.bool false]) Tryd.results67 ⟨_, _, rfl, rfl, rfl⟩) ?_)
    exact ⟨_, rfl, by rw [sameX_eq, same_no hc3], H.drop 2⟩
  · obtain ⟨hsc, hlen⟩ := same_yes hc3
    refine st_skip ?_
    refine st_seq ?_
    refine st_seq ?_
    refine st_region ?_
    refine sr_op rfl rfl (ow_assign (v := .int .i64 0) rfl ?_)
    refine sr_nil ?_
    refine st_block ?_
    refine st_loop ?_
    refine st_live [2, 3, 5] ?_
    refine st_ind (fun d_ m_ w_ => ∃ (i : Nat) (r_ : Sl), d_ = x.l.length - i ∧ m_ = (2, .pointer (some ⟨g1, 0, none⟩)) :: (3, .pointer (some ⟨g2, 0, none⟩)) :: (5, .int .i64 (i : Int)) :: r_ ∧ Hp B I w_ ((g2, Ob [.int .i64 y.kind, .int .i64 y.n, .int .i64 y.no, .string y.name, .slice A2 y.l.length c2] 26) :: (g1, Ob [.int .i64 x.kind, .int .i64 x.n, .int .i64 x.no, .string x.name, .slice A x.l.length c] 26) :: L) ∧ i ≤ x.l.length ∧ sameXs x.l y.l = sameXs (x.l.drop i) (y.l.drop i)) _ ⟨0, _, rfl, rfl, H, Nat.zero_le _, rfl⟩ ?_
    rintro _ _ _ ⟨i, r4, rfl, rfl, H, hi, ha⟩ ih5
    refine st_seq ?_
    refine st_seq ?_
    refine st_region ?_
    refine sr_op rfl rfl (ow_move (v := .int .i64 (i : Int)) rfl ?_)
    refine sr_op rfl rfl (ow_fieldAddr fd26_4 ty24 rfl rfl (r := 4) rfl ?_)
    refine sr_op rfl rfl (ow_load (v := .slice A x.l.length c) ty24 H rfl 1 rfl rfl rfl rfl ?_)
    refine sr_op rfl rfl (ow_lenS sl24 rfl rfl ?_)
    refine sr_op rfl rfl (ow_lss rfl rfl ?_)
    refine sr_nil ?_
    refine st_cond (decide ((i : Int) < (x.l.length : Int))) rfl (fun hc6 => ?_) (fun hc6 => ?_)
    · have hc6 := of_decide_eq_true hc6
      refine st_skip ?_
      refine st_seq ?_
      refine st_block ?_
      refine st_seq ?_
      obtain ⟨ea7, he7⟩ : ∃ q_, x.l[i]? = some q_ := ⟨_, List.getElem?_eq_getElem (by omega)⟩
      obtain ⟨b7, o7, us7, hA7, hat7, hul7, hr7⟩ := RepS.get hxl he7
      obtain ⟨v7, rfl, ea7k, ea7n, ea7o, ea7s, ea7l⟩ := ex_iff.1 hr7
      obtain ⟨A7, c7, rfl, ea7c, ea7m, ea7l⟩ := RepS.open_ ea7l
      obtain ⟨eb8, he8⟩ : ∃ q_, y.l[i]? = some q_ := ⟨_, List.getElem?_eq_getElem (by omega)⟩
      obtain ⟨b8, o8, us8, hA8, hat8, hul8, hr8⟩ := RepS.get hyl he8
      obtain ⟨v8, rfl, eb8k, eb8n, eb8o, eb8s, eb8l⟩ := ex_iff.1 hr8
      obtain ⟨A8, c8, rfl, eb8c, eb8m, eb8l⟩ := RepS.open_ eb8l
      refine st_draw (F := (fun w_ => ∃ I2, Le I I2 ∧ Hp B I2 w_ [(g2, Ob [.int .i64 y.kind, .int .i64 y.n, .int .i64 y.no, .string y.name, .slice A2 y.l.length c2] 26), (g1, Ob [.int .i64 x.kind, .int .i64 x.n, .int .i64 x.no, .string x.name, .slice A x.l.length c] 26)])) (p0 := [0, 1, 2, 3, 4, 5, 6, 7, 8, 9]) (plan := [(10, [11], [])]) [] [] [(57, .agg #[.int .i64 eb8.kind, .int .i64 eb8.n, .int .i64 eb8.no, .string eb8.name, .slice A8 eb8.l.length c8]), (56, .pointer (some ⟨b8, o8 + i * 5, none⟩)), (55, .int .i64 (i : Int)), (54, .slice A2 y.l.length c2), (53, .pointer (some ⟨g2, 4, none⟩)), (52, .agg #[.int .i64 ea7.kind, .int .i64 ea7.n, .int .i64 ea7.no, .string ea7.name, .slice A7 ea7.l.length c7]), (51, .pointer (some ⟨b7, o7 + i * 5, none⟩)), (50, .int .i64 (i : Int)), (49, .slice A x.l.length c), (48, .pointer (some ⟨g1, 4, none⟩))] (by kernel_rfl) rfl ?_ ⟨_, Le.refl _, H.drew.pick [0, 1] (by decide)⟩ ?_
      · refine ⟨kn_op rfl rfl (wantB_none rfl) fun _ hF2 => ?_, ?_⟩
        · obtain ⟨_, hle2, H2⟩ := hF2
          refine  (ow_fieldAddr fd26_4 ty24 rfl rfl (r := 4) rfl ?_)
          exact ⟨rfl, rfl⟩
        refine ⟨kn_op rfl rfl (wantB_none rfl) fun _ hF2 => ?_, ?_⟩
        · obtain ⟨_, hle2, H2⟩ := hF2
          refine  (ow_load (v := .slice A x.l.length c) ty24 H2 rfl 1 rfl rfl rfl rfl ?_)
          exact ⟨rfl, rfl⟩
        refine ⟨kn_op rfl rfl (wantB_none rfl) fun _ hF2 => ?_, ?_⟩
        · obtain ⟨_, hle2, H2⟩ := hF2
          refine  (ow_move (v := .int .i64 (i : Int)) rfl ?_)
          exact ⟨rfl, rfl⟩
        refine ⟨kn_op rfl rfl (wantB_none rfl) fun _ hF2 => ?_, ?_⟩
        · obtain ⟨_, hle2, H2⟩ := hF2
          refine  (ow_indexAddrA sl24 ty26 hA7 rfl rfl (by omega) (by omega) (r := o7 + i * 5) rfl ?_)
          exact ⟨rfl, rfl⟩
        refine ⟨kn_op rfl rfl (wantB_none rfl) fun _ hF2 => ?_, ?_⟩
        · obtain ⟨_, hle2, H2⟩ := hF2
          refine  (ow_loadI (v := .agg #[.int .i64 ea7.kind, .int .i64 ea7.n, .int .i64 ea7.no, .string ea7.name, .slice A7 ea7.l.length c7]) ty26 H2 rfl (At.mono hle2 hat7) rfl rfl rfl ?_)
          exact ⟨rfl, rfl⟩
        refine ⟨kn_op rfl rfl (wantB_none rfl) fun _ hF2 => ?_, ?_⟩
        · obtain ⟨_, hle2, H2⟩ := hF2
          refine  (ow_fieldAddr fd26_4 ty24 rfl rfl (r := 4) rfl ?_)
          exact ⟨rfl, rfl⟩
        refine ⟨kn_op rfl rfl (wantB_none rfl) fun _ hF2 => ?_, ?_⟩
        · obtain ⟨_, hle2, H2⟩ := hF2
          refine  (ow_load (v := .slice A2 y.l.length c2) ty24 H2 rfl 0 rfl rfl rfl rfl ?_)
          exact ⟨rfl, rfl⟩
        refine ⟨kn_op rfl rfl (wantB_none rfl) fun _ hF2 => ?_, ?_⟩
        · obtain ⟨_, hle2, H2⟩ := hF2
          refine  (ow_move (v := .int .i64 (i : Int)) rfl ?_)
          exact ⟨rfl, rfl⟩
        refine ⟨kn_op rfl rfl (wantB_none rfl) fun _ hF2 => ?_, ?_⟩
        · obtain ⟨_, hle2, H2⟩ := hF2
          refine  (ow_indexAddrA sl24 ty26 hA8 rfl rfl (by omega) (by omega) (r := o8 + i * 5) rfl ?_)
          exact ⟨rfl, rfl⟩
        refine ⟨kn_op rfl rfl (wantB_none rfl) fun _ hF2 => ?_, ?_⟩
        · obtain ⟨_, hle2, H2⟩ := hF2
          refine  (ow_loadI (v := .agg #[.int .i64 eb8.kind, .int .i64 eb8.n, .int .i64 eb8.no, .string eb8.name, .slice A8 eb8.l.length c8]) ty26 H2 rfl (At.mono hle2 hat8) rfl rfl rfl ?_)
          exact ⟨rfl, rfl⟩
        exact trivial
      have H := H.drew
      refine cw_op rfl (wantB_none rfl) (ow_call en67 rfl (ih (x := ea7) (y := eb8) (by have := Ex.pc_at he7; omega) H (ex_iff.2 ⟨_, rfl, ea7k, ea7n, ea7o, ea7s, ea7l⟩) (ex_iff.2 ⟨_, rfl, eb8k, eb8n, eb8o, eb8s, eb8l⟩)) ?_)
      rintro _ _ ⟨rfl, H⟩
      refine af_some [(59, .bool (!(sameX ea7 eb8)))] (fun w_ => ∃ I2, Le I I2 ∧ Hp B I2 w_ [(g2, Ob [.int .i64 y.kind, .int .i64 y.n, .int .i64 y.no, .string y.name, .slice A2 y.l.length c2] 26), (g1, Ob [.int .i64 x.kind, .int .i64 x.n, .int .i64 x.no, .string x.name, .slice A x.l.length c] 26)]) rfl ⟨_, Le.refl _, H.pick [0, 1] (by decide)⟩ ?_ ?_
      · refine ⟨kn_op rfl rfl (wantB_none rfl) fun _ hF2 => ?_, ?_⟩
        · obtain ⟨_, hle2, H2⟩ := hF2
          refine  (ow_not rfl ?_)
          exact ⟨rfl, rfl⟩
        exact trivial
      refine cw_nil ?_
      refine st_cond (!(sameX ea7 eb8)) rfl (fun hc9 => ?_) (fun hc9 => ?_)
      · refine st_seq ?_
        refine st_region ?_
        refine sr_op rfl rfl (ow_assign (v := .bool false) rfl ?_)
        refine sr_nil ?_
        refine st_ret hb (hR _ _ (.bool false) (res_run (vs := [.bool false]) Tryd.results67 ⟨_, _, rfl, rfl, rfl⟩) ?_)
        exact ⟨_, rfl, by rw [sameX_eq, ha, drop_some he7, drop_some he8, sameXs, bnt hc9, Bool.false_and, Bool.and_false], H.drop 2⟩
      · refine st_skip ?_
        refine st_inBlock ?_
        refine st_region ?_
        refine sr_op rfl rfl (ow_move (v := .int .i64 (i : Int)) rfl ?_)
        refine sr_op rfl rfl (ow_add (r := ((i + 1 : Nat) : Int)) rfl rfl (inc_i64 (by omega)) ?_)
        refine sr_op rfl rfl (ow_assign (v := .int .i64 ((i + 1 : Nat) : Int)) rfl ?_)
        refine sr_nil ?_
        exact st_inLoop (st_live [2, 3, 5] (ih5 _ _ _ (by omega) ⟨i + 1, _, rfl, rfl, H, by omega, by rw [ha, drop_some he7, drop_some he8, sameXs, bnf hc9, Bool.true_and]⟩))
    · have hc6 := of_decide_eq_false hc6
      refine st_exit rfl ?_
      refine st_seq ?_
      refine st_region ?_
      refine sr_op rfl rfl (ow_assign (v := .bool true) rfl ?_)
      refine sr_nil ?_
      refine st_ret hb (hR _ _ (.bool true) (res_run (vs := [.bool true]) Tryd.results67 ⟨_, _, rfl, rfl, rfl⟩) ?_)
      have h1 : x.l.drop i = [] := List.drop_of_length_le (by omega)
      have h2 : y.l.drop i = [] := List.drop_of_length_le (by omega)
      exact ⟨_, rfl, by rw [sameX_eq, ha, h1, h2, hsc]; rfl, H.drop 2⟩
end Go.Proofs.YtbbflenaeihmeaaDoor
