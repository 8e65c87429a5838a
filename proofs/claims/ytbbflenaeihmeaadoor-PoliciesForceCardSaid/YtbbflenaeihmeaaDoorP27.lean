/-
  Walks: the statement PoliciesForce.
-/
import Derived.Test.YtbbflenaeihmeaaDoorP18
import Derived.Test.YtbbflenaeihmeaaDoorP23
set_option linter.unusedVariables false
set_option linter.unusedSimpArgs false
set_option maxRecDepth 10000
set_option maxHeartbeats 4000000
namespace Go.Proofs.YtbbflenaeihmeaaDoor
open Go Go.RowKit

theorem Standing_as {B I L w} (H : Hp B I w L) {l : List Ve} {v : Value} (hl : RepS encVe I 13 l v) (hkd : At I 0 0 kindsV) {at_ kn a e : Int} {b : Bool} (h : standE l at_ kn = (a, b, e)) : Calls Tryd.prog 25 #[v, .int .i64 at_, .int .i64 kn] w (Rt fun r w' => r = .tuple #[.int .i64 a, .bool b, .int .i64 e] ∧ Hp B I w' L) := by
  have h1 := Standing_c H hl hkd at_ kn
  rw [h] at h1
  exact h1
theorem RepS.len {α : Type} {enc : α → List Dat} {I : Im} {sz n : Nat} {l : List α} {A : Option Addr} {c : Nat} (hr : RepS enc I sz l (.slice A n c)) : n = l.length := by
  obtain ⟨A', c', h, _⟩ := RepS.open_ hr
  injection h
theorem Rise.inj : ∀ {l : List Ve} {a : Int}, Rise l a → ∀ x ∈ l, ∀ y ∈ l, x.no = y.no → x = y
  | z :: l, a, h, x, hx, y, hy, e => by
    rcases List.mem_cons.1 hx with rfl | hx'
    · rcases List.mem_cons.1 hy with rfl | hy'
      · rfl
      · have := Rise.mem h.2 y hy'
        omega
    · rcases List.mem_cons.1 hy with rfl | hy'
      · have := Rise.mem h.2 x hx'
        omega
      · exact Rise.inj h.2 x hx' y hy' e
theorem len_ve (v : Ve) : Nat.beq (encVe v).length 13 = true := by
  simp only [encVe, encPo, List.length_cons, List.length_append, Nat.eq_of_beq_eq_true (len_ex v.policy.change)]
  rfl
theorem plain_ve (v : Ve) : (encVe v).all plD = true := by
  simp only [encVe, encPo, List.all_cons, List.all_append, plain_ex]
  rfl
theorem guard5 {a b c d e : Bool} (h : ((((!a || b) || !c) || !d) || !e) = false) : a = true ∧ b = false ∧ c = true ∧ d = true ∧ e = true := by
  cases a <;> cases b <;> cases c <;> cases d <;> cases e <;> simp_all
theorem worse {x y : Ve} (hb : y.at_ ≤ x.at_ ∧ (y.at_ = x.at_ → y.no ≤ x.no)) (h : (decide (x.at_ < y.at_) || (decide (y.at_ = x.at_) && decide (x.no < y.no))) = true) : False := by
  simp only [Bool.or_eq_true, Bool.and_eq_true, decide_eq_true_eq] at h
  omega
theorem PoliciesForce_c {B I L w} (H : Hp B I w L) {l : List Ve} {v : Value} (hl : RepS encVe I 13 l v) (hkd : At I 0 0 kindsV) (at_ kn : Int) : Calls Tryd.prog 8 #[v, .int .i64 at_, .int .i64 kn] w (Rt fun r w' => r = .bool true ∧ Hp B I w' L) := by
  obtain ⟨s0A, s0c, rfl, s0m, s0M, s0⟩ := RepS.open_ hl
  refine calls_st (n := 148) Tryd.func8 rfl rfl rfl ?_
  intro G bF cs hb hfn hR hP
  simp only [ini]
  refine st_seq ?_
  refine st_region ?_
  refine sr_op rfl rfl (ow_assign (v := .bool false) rfl ?_)
  refine sr_nil ?_
  refine st_seq ?_
  refine st_seq ?_
  refine st_region ?_
  refine sr_op rfl rfl (ow_call en17 rfl (sane_c H hkd) ?_)
  rintro _ _ ⟨rfl, H⟩
  refine sr_op rfl rfl (ow_not rfl ?_)
  refine sr_nil ?_
  refine st_no rfl ?_
  refine st_skip ?_
  refine st_seq ?_
  refine st_seq ?_
  refine st_region ?_
  refine sr_op rfl rfl (ow_move (v := .slice s0A l.length s0c) rfl ?_)
  refine sr_op rfl rfl (ow_call en24 rfl (FewVersions_c H s0) ?_)
  rintro _ _ ⟨rfl, H⟩
  refine sr_op rfl rfl (ow_not rfl ?_)
  refine sr_op rfl rfl (ow_move (v := .bool (!(fewVs l))) rfl ?_)
  refine sr_cut 4 (fun m_ w_ => ∃ (r_ : Sl) (v_ : Bool), m_ = (29, .bool v_) :: (0, .slice s0A l.length s0c) :: (1, .int .i64 at_) :: (2, .int .i64 kn) :: (6, .bool false) :: r_ ∧ Hp B I w_ (L) ∧ v_ = ((!(fewVs l)) || (decide (6 < (l.length : Int))))) (fun again => ?_) ?_
  · rcases hg : !(fewVs l) with _ | _
    · refine sr_want rfl (j := 3) (d := 25) rfl rfl rfl (v := false) rfl rfl (ow_move (v := .slice s0A l.length s0c) rfl ?_)
      refine sr_want rfl (j := 3) (d := 25) rfl rfl rfl (v := false) rfl rfl (ow_lenS sl36 rfl rfl ?_)
      refine sr_want rfl (j := 3) (d := 25) rfl rfl rfl (v := false) rfl rfl (ow_gtr rfl rfl ?_)
      refine sr_op rfl rfl (ow_pick (v := .bool (decide (6 < (l.length : Int)))) rfl rfl ?_)
      exact sr_live [29, 0, 1, 2, 6] (again _ _ ⟨_, _, rfl, H, by rw [hg] <;> rfl⟩)
    · refine sr_pass rfl (j := 3) (d := 25) rfl rfl rfl (u := true) (v := false) rfl rfl ?_
      refine sr_pass rfl (j := 3) (d := 25) rfl rfl rfl (u := true) (v := false) rfl rfl ?_
      refine sr_pass rfl (j := 3) (d := 25) rfl rfl rfl (u := true) (v := false) rfl rfl ?_
      refine sr_op rfl rfl (ow_pick (v := .bool true) rfl rfl ?_)
      exact sr_live [29, 0, 1, 2, 6] (again _ _ ⟨_, _, rfl, H, by rw [hg] <;> rfl⟩)
  rintro _ _ ⟨r, _, rfl, H, rfl⟩
  refine sr_op rfl rfl (ow_move (v := .bool ((!(fewVs l)) || (decide (6 < (l.length : Int))))) rfl ?_)
  refine sr_cut 4 (fun m_ w_ => ∃ (r_ : Sl) (v_ : Bool), m_ = (34, .bool v_) :: (0, .slice s0A l.length s0c) :: (1, .int .i64 at_) :: (2, .int .i64 kn) :: (6, .bool false) :: r_ ∧ Hp B I w_ (L) ∧ v_ = (((!(fewVs l)) || (decide (6 < (l.length : Int)))) || (!decide (allE l = 0)))) (fun again => ?_) ?_
  · rcases hg : (!(fewVs l)) || (decide (6 < (l.length : Int))) with _ | _
    · refine sr_want rfl (j := 8) (d := 30) rfl rfl rfl (v := false) rfl rfl (ow_move (v := .slice s0A l.length s0c) rfl ?_)
      refine sr_want rfl (j := 8) (d := 30) rfl rfl rfl (v := false) rfl rfl (ow_call en28 rfl (refCheckAll_c H s0) ?_)
      rintro _ _ ⟨rfl, H⟩
      refine sr_want rfl (j := 8) (d := 30) rfl rfl rfl (v := false) rfl rfl (ow_neq rfl rfl ?_)
      refine sr_op rfl rfl (ow_pick (v := .bool (!decide (allE l = 0))) rfl rfl ?_)
      exact sr_live [34, 0, 1, 2, 6] (again _ _ ⟨_, _, rfl, H, by rw [hg] <;> rfl⟩)
    · refine sr_pass rfl (j := 8) (d := 30) rfl rfl rfl (u := true) (v := false) rfl rfl ?_
      refine sr_pass rfl (j := 8) (d := 30) rfl rfl rfl (u := true) (v := false) rfl rfl ?_
      refine sr_pass rfl (j := 8) (d := 30) rfl rfl rfl (u := true) (v := false) rfl rfl ?_
      refine sr_op rfl rfl (ow_pick (v := .bool true) rfl rfl ?_)
      exact sr_live [34, 0, 1, 2, 6] (again _ _ ⟨_, _, rfl, H, by rw [hg] <;> rfl⟩)
  rintro _ _ ⟨r, _, rfl, H, rfl⟩
  refine sr_op rfl rfl (ow_move (v := .bool (((!(fewVs l)) || (decide (6 < (l.length : Int)))) || (!decide (allE l = 0)))) rfl ?_)
  refine sr_cut 4 (fun m_ w_ => ∃ (r_ : Sl) (v_ : Bool), m_ = (39, .bool v_) :: (0, .slice s0A l.length s0c) :: (1, .int .i64 at_) :: (2, .int .i64 kn) :: (6, .bool false) :: r_ ∧ Hp B I w_ (L) ∧ v_ = ((((!(fewVs l)) || (decide (6 < (l.length : Int)))) || (!decide (allE l = 0))) || (!(withinB at_ 0 1099511627775)))) (fun again => ?_) ?_
  · rcases hg : ((!(fewVs l)) || (decide (6 < (l.length : Int)))) || (!decide (allE l = 0)) with _ | _
    · refine sr_want rfl (j := 13) (d := 35) rfl rfl rfl (v := false) rfl rfl (ow_move (v := .int .i64 at_) rfl ?_)
      refine sr_want rfl (j := 13) (d := 35) rfl rfl rfl (v := false) rfl rfl (ow_call en32 rfl (Time_c H at_) ?_)
      rintro _ _ ⟨rfl, H⟩
      refine sr_want rfl (j := 13) (d := 35) rfl rfl rfl (v := false) rfl rfl (ow_not rfl ?_)
      refine sr_op rfl rfl (ow_pick (v := .bool (!(withinB at_ 0 1099511627775))) rfl rfl ?_)
      exact sr_live [39, 0, 1, 2, 6] (again _ _ ⟨_, _, rfl, H, by rw [hg] <;> rfl⟩)
    · refine sr_pass rfl (j := 13) (d := 35) rfl rfl rfl (u := true) (v := false) rfl rfl ?_
      refine sr_pass rfl (j := 13) (d := 35) rfl rfl rfl (u := true) (v := false) rfl rfl ?_
      refine sr_pass rfl (j := 13) (d := 35) rfl rfl rfl (u := true) (v := false) rfl rfl ?_
      refine sr_op rfl rfl (ow_pick (v := .bool true) rfl rfl ?_)
      exact sr_live [39, 0, 1, 2, 6] (again _ _ ⟨_, _, rfl, H, by rw [hg] <;> rfl⟩)
  rintro _ _ ⟨r, _, rfl, H, rfl⟩
  refine sr_op rfl rfl (ow_move (v := .bool ((((!(fewVs l)) || (decide (6 < (l.length : Int)))) || (!decide (allE l = 0))) || (!(withinB at_ 0 1099511627775)))) rfl ?_)
  refine sr_cut 4 (fun m_ w_ => ∃ (r_ : Sl) (v_ : Bool), m_ = (44, .bool v_) :: (0, .slice s0A l.length s0c) :: (1, .int .i64 at_) :: (2, .int .i64 kn) :: (6, .bool false) :: r_ ∧ Hp B I w_ (L) ∧ v_ = (((((!(fewVs l)) || (decide (6 < (l.length : Int)))) || (!decide (allE l = 0))) || (!(withinB at_ 0 1099511627775))) || (!(withinB kn 0 1099511627775)))) (fun again => ?_) ?_
  · rcases hg : (((!(fewVs l)) || (decide (6 < (l.length : Int)))) || (!decide (allE l = 0))) || (!(withinB at_ 0 1099511627775)) with _ | _
    · refine sr_want rfl (j := 18) (d := 40) rfl rfl rfl (v := false) rfl rfl (ow_move (v := .int .i64 kn) rfl ?_)
      refine sr_want rfl (j := 18) (d := 40) rfl rfl rfl (v := false) rfl rfl (ow_call en32 rfl (Time_c H kn) ?_)
      rintro _ _ ⟨rfl, H⟩
      refine sr_want rfl (j := 18) (d := 40) rfl rfl rfl (v := false) rfl rfl (ow_not rfl ?_)
      refine sr_op rfl rfl (ow_pick (v := .bool (!(withinB kn 0 1099511627775))) rfl rfl ?_)
      exact sr_live [44, 0, 1, 2, 6] (again _ _ ⟨_, _, rfl, H, by rw [hg] <;> rfl⟩)
    · refine sr_pass rfl (j := 18) (d := 40) rfl rfl rfl (u := true) (v := false) rfl rfl ?_
      refine sr_pass rfl (j := 18) (d := 40) rfl rfl rfl (u := true) (v := false) rfl rfl ?_
      refine sr_pass rfl (j := 18) (d := 40) rfl rfl rfl (u := true) (v := false) rfl rfl ?_
      refine sr_op rfl rfl (ow_pick (v := .bool true) rfl rfl ?_)
      exact sr_live [44, 0, 1, 2, 6] (again _ _ ⟨_, _, rfl, H, by rw [hg] <;> rfl⟩)
  rintro _ _ ⟨r, _, rfl, H, rfl⟩
  refine sr_nil ?_
  refine st_cond (((((!(fewVs l)) || (decide (6 < (l.length : Int)))) || (!decide (allE l = 0))) || (!(withinB at_ 0 1099511627775))) || (!(withinB kn 0 1099511627775))) rfl (fun hc1 => ?_) (fun hc1 => ?_)
  · refine st_seq ?_
    refine st_region ?_
    refine sr_op rfl rfl (ow_assign (v := .bool true) rfl ?_)
    refine sr_nil ?_
    refine st_ret hb (hR _ _ (.bool true) (res_run (vs := [.bool true]) Tryd.results8 ⟨_, _, rfl, rfl, rfl⟩) ?_)
    exact ⟨_, rfl, rfl, H⟩
  · obtain ⟨hfv, hl6, hall, hta, htk⟩ := guard5 hc1
    have hl6 := of_decide_eq_false hl6
    have hall := of_decide_eq_true hall
    refine st_skip ?_
    refine st_seq ?_
    refine st_region ?_
    refine sr_op rfl rfl (ow_assign (v := .slice none 0 0) rfl ?_)
    refine sr_nil ?_
    refine st_seq ?_
    refine st_seq ?_
    refine st_region ?_
    refine sr_op rfl rfl (ow_move (v := .slice s0A l.length s0c) rfl ?_)
    refine sr_op rfl rfl (ow_lenS sl36 rfl rfl ?_)
    refine sr_op rfl rfl (ow_move (v := .int .i64 0) rfl ?_)
    refine sr_nil ?_
    refine st_block ?_
    refine st_loop ?_
    refine st_live [0, 1, 2, 6, 7, 45, 46, 47] ?_
    refine st_ind (fun d_ m_ w_ => ∃ (i : Nat) (J2 : Im) (Aa_ : Option Addr) (na_ ca_ : Nat) (cs_ : List Value) (r_ : Sl), d_ = l.length - i ∧ m_ = (0, .slice s0A l.length s0c) :: (1, .int .i64 at_) :: (2, .int .i64 kn) :: (6, .bool false) :: (7, .slice Aa_ na_ ca_) :: (45, .slice s0A l.length s0c) :: (46, .int .i64 (l.length : Int)) :: (47, .int .i64 (i : Int)) :: r_ ∧ Hp B J2 w_ ((rowL (.slice Aa_ na_ ca_) cs_ 52 ++ L)) ∧ Le I J2 ∧ Acc J2 13 (.slice Aa_ na_ ca_) cs_ (((l.take i).filter (countB at_ kn)).map encVe) ∧ i ≤ l.length) _ ⟨0, I, none, 0, 0, [], _, rfl, rfl, H, Le.refl _, Acc.none_ _ _ _, Nat.zero_le _⟩ ?_
    rintro _ _ _ ⟨i, J2, Aa_, na_, ca_, cs_, r3, rfl, rfl, H, hJ2, ha_, hi⟩ ih4
    refine st_seq ?_
    refine st_region ?_
    refine sr_op rfl rfl (ow_lss rfl rfl ?_)
    refine sr_nil ?_
    refine st_seq ?_
    refine st_cond (decide ((i : Int) < (l.length : Int))) rfl (fun hc5 => ?_) (fun hc5 => ?_)
    · have hc5 := of_decide_eq_true hc5
      refine st_skip ?_
      refine st_seq ?_
      refine st_block ?_
      refine st_seq ?_
      refine st_region ?_
      have s0 := (s0.mono hJ2)
      obtain ⟨e6, he6⟩ : ∃ q_, l[i]? = some q_ := ⟨_, List.getElem?_eq_getElem (by omega)⟩
      obtain ⟨b6, o6, us6, hA6, hat6, hul6, hr6⟩ := RepS.get s0 he6
      have d6 := hr6
      obtain ⟨d6v4, d6v5, d6v6, d6v11, rfl, d6_0, d6_1, d6_2, d6_3, d6_4, d6_5, d6_6, d6_7, d6_8, d6_9, d6_10, d6_11, d6_12⟩ := ve_iff2.1 hr6
      obtain ⟨d6A4, d6c4, rfl, d6m4, d6M4, d6_4⟩ := RepS.open_ d6_4
      obtain ⟨d6A5, d6c5, rfl, d6m5, d6M5, d6_5⟩ := RepS.open_ d6_5
      obtain ⟨d6A6, d6c6, rfl, d6m6, d6M6, d6_6⟩ := RepS.open_ d6_6
      obtain ⟨d6A11, d6c11, rfl, d6m11, d6M11, d6_11⟩ := RepS.open_ d6_11
      refine sr_op rfl rfl (ow_indexAddrA sl36 ty52 hA6 rfl rfl (by omega) (by omega) (r := o6 + i * 13) rfl ?_)
      refine sr_op rfl rfl (ow_loadI (v := .agg #[.int .i64 e6.no, .int .i64 e6.at_, .int .i64 e6.known, .string e6.policy.name, .slice d6A4 e6.policy.kinds.length d6c4, .slice d6A5 e6.policy.offices.length d6c5, .slice d6A6 e6.policy.rules.length d6c6, .int .i64 e6.policy.change.kind, .int .i64 e6.policy.change.n, .int .i64 e6.policy.change.no, .string e6.policy.change.name, .slice d6A11 e6.policy.change.l.length d6c11, .int .i64 e6.policy.mode]) ty52 H rfl hat6 rfl rfl rfl ?_)
      refine sr_op rfl rfl (ow_alloc ty52 H [.int .i64 0, .int .i64 0, .int .i64 0, .string ⟨#[]⟩, .slice none 0 0, .slice none 0 0, .slice none 0 0, .int .i64 0, .int .i64 0, .int .i64 0, .string ⟨#[]⟩, .slice none 0 0, .int .i64 0] rfl (fun g7 _ H => ?_))
      refine sr_op rfl rfl (ow_store ty52 H rfl (v := .agg #[.int .i64 e6.no, .int .i64 e6.at_, .int .i64 e6.known, .string e6.policy.name, .slice d6A4 e6.policy.kinds.length d6c4, .slice d6A5 e6.policy.offices.length d6c5, .slice d6A6 e6.policy.rules.length d6c6, .int .i64 e6.policy.change.kind, .int .i64 e6.policy.change.n, .int .i64 e6.policy.change.no, .string e6.policy.change.name, .slice d6A11 e6.policy.change.l.length d6c11, .int .i64 e6.policy.mode]) rfl [.int .i64 e6.no, .int .i64 e6.at_, .int .i64 e6.known, .string e6.policy.name, .slice d6A4 e6.policy.kinds.length d6c4, .slice d6A5 e6.policy.offices.length d6c5, .slice d6A6 e6.policy.rules.length d6c6, .int .i64 e6.policy.change.kind, .int .i64 e6.policy.change.n, .int .i64 e6.policy.change.no, .string e6.policy.change.name, .slice d6A11 e6.policy.change.l.length d6c11, .int .i64 e6.policy.mode] rfl rfl rfl 0 rfl rfl (fun _ H => ?_))
      refine sr_nil ?_
      refine st_seq ?_
      refine st_region ?_
      refine sr_op rfl rfl (ow_fieldAddr fd52_1 ty3 rfl rfl (r := 1) rfl ?_)
      refine sr_op rfl rfl (ow_load (v := .int .i64 e6.at_) ty3 H rfl 0 rfl rfl rfl rfl ?_)
      refine sr_op rfl rfl (ow_move (v := .int .i64 at_) rfl ?_)
      refine sr_op rfl rfl (ow_leq rfl rfl ?_)
      refine sr_op rfl rfl (ow_move (v := .bool (decide (e6.at_ ≤ at_))) rfl ?_)
      refine sr_cut 5 (fun m_ w_ => ∃ (r_ : Sl) (v_ : Bool), m_ = (60, .bool v_) :: (0, .slice s0A l.length s0c) :: (1, .int .i64 at_) :: (2, .int .i64 kn) :: (6, .bool false) :: (7, .slice Aa_ na_ ca_) :: (9, .pointer (some ⟨g7, 0, none⟩)) :: (45, .slice s0A l.length s0c) :: (46, .int .i64 (l.length : Int)) :: (47, .int .i64 (i : Int)) :: r_ ∧ Hp B J2 w_ ((g7, Ob [.int .i64 e6.no, .int .i64 e6.at_, .int .i64 e6.known, .string e6.policy.name, .slice d6A4 e6.policy.kinds.length d6c4, .slice d6A5 e6.policy.offices.length d6c5, .slice d6A6 e6.policy.rules.length d6c6, .int .i64 e6.policy.change.kind, .int .i64 e6.policy.change.n, .int .i64 e6.policy.change.no, .string e6.policy.change.name, .slice d6A11 e6.policy.change.l.length d6c11, .int .i64 e6.policy.mode] 52) :: (rowL (.slice Aa_ na_ ca_) cs_ 52 ++ L)) ∧ v_ = ((decide (e6.at_ ≤ at_)) && (decide (e6.known ≤ kn)))) (fun again => ?_) ?_
      · rcases hg : decide (e6.at_ ≤ at_) with _ | _
        · refine sr_pass rfl (j := 4) (d := 55) rfl rfl rfl (u := false) (v := true) rfl rfl ?_
          refine sr_pass rfl (j := 4) (d := 55) rfl rfl rfl (u := false) (v := true) rfl rfl ?_
          refine sr_pass rfl (j := 4) (d := 55) rfl rfl rfl (u := false) (v := true) rfl rfl ?_
          refine sr_pass rfl (j := 4) (d := 55) rfl rfl rfl (u := false) (v := true) rfl rfl ?_
          refine sr_op rfl rfl (ow_pick (v := .bool false) rfl rfl ?_)
          exact sr_live [60, 0, 1, 2, 6, 7, 9, 45, 46, 47] (again _ _ ⟨_, _, rfl, H, by rw [hg] <;> rfl⟩)
        · refine sr_want rfl (j := 4) (d := 55) rfl rfl rfl (v := true) rfl rfl (ow_fieldAddr fd52_2 ty3 rfl rfl (r := 2) rfl ?_)
          refine sr_want rfl (j := 4) (d := 55) rfl rfl rfl (v := true) rfl rfl (ow_load (v := .int .i64 e6.known) ty3 H rfl 0 rfl rfl rfl rfl ?_)
          refine sr_want rfl (j := 4) (d := 55) rfl rfl rfl (v := true) rfl rfl (ow_move (v := .int .i64 kn) rfl ?_)
          refine sr_want rfl (j := 4) (d := 55) rfl rfl rfl (v := true) rfl rfl (ow_leq rfl rfl ?_)
          refine sr_op rfl rfl (ow_pick (v := .bool (decide (e6.known ≤ kn))) rfl rfl ?_)
          exact sr_live [60, 0, 1, 2, 6, 7, 9, 45, 46, 47] (again _ _ ⟨_, _, rfl, H, by rw [hg] <;> rfl⟩)
      rintro _ _ ⟨r, _, rfl, H, rfl⟩
      refine sr_nil ?_
      refine st_cond ((decide (e6.at_ ≤ at_)) && (decide (e6.known ≤ kn))) rfl (fun hc8 => ?_) (fun hc8 => ?_)
      · have hin := hc8
        refine st_region ?_
        refine sr_op rfl rfl (ow_move (v := .slice Aa_ na_ ca_) rfl ?_)
        refine sr_op rfl rfl (ow_load (v := .agg #[.int .i64 e6.no, .int .i64 e6.at_, .int .i64 e6.known, .string e6.policy.name, .slice d6A4 e6.policy.kinds.length d6c4, .slice d6A5 e6.policy.offices.length d6c5, .slice d6A6 e6.policy.rules.length d6c6, .int .i64 e6.policy.change.kind, .int .i64 e6.policy.change.n, .int .i64 e6.policy.change.no, .string e6.policy.change.name, .slice d6A11 e6.policy.change.l.length d6c11, .int .i64 e6.policy.mode]) ty52 H rfl 0 rfl rfl rfl rfl ?_)
        refine sr_op rfl rfl (ow_buildSlice H (e := 52) (ps := [(0, .agg #[.int .i64 e6.no, .int .i64 e6.at_, .int .i64 e6.known, .string e6.policy.name, .slice d6A4 e6.policy.kinds.length d6c4, .slice d6A5 e6.policy.offices.length d6c5, .slice d6A6 e6.policy.rules.length d6c6, .int .i64 e6.policy.change.kind, .int .i64 e6.policy.change.n, .int .i64 e6.policy.change.no, .string e6.policy.change.name, .slice d6A11 e6.policy.change.l.length d6c11, .int .i64 e6.policy.mode])]) rfl [.int .i64 e6.no, .int .i64 e6.at_, .int .i64 e6.known, .string e6.policy.name, .slice d6A4 e6.policy.kinds.length d6c4, .slice d6A5 e6.policy.offices.length d6c5, .slice d6A6 e6.policy.rules.length d6c6, .int .i64 e6.policy.change.kind, .int .i64 e6.policy.change.n, .int .i64 e6.policy.change.no, .string e6.policy.change.name, .slice d6A11 e6.policy.change.l.length d6c11, .int .i64 e6.policy.mode] (fun _ => by kernel_rfl) (fun g9 _ H => ?_))
        refine sr_op rfl rfl (ow_append1 sl36 ty52 rfl rfl [(g7, Ob [.int .i64 e6.no, .int .i64 e6.at_, .int .i64 e6.known, .string e6.policy.name, .slice d6A4 e6.policy.kinds.length d6c4, .slice d6A5 e6.policy.offices.length d6c5, .slice d6A6 e6.policy.rules.length d6c6, .int .i64 e6.policy.change.kind, .int .i64 e6.policy.change.n, .int .i64 e6.policy.change.no, .string e6.policy.change.name, .slice d6A11 e6.policy.change.l.length d6c11, .int .i64 e6.policy.mode] 52)] (v := .slice Aa_ na_ ca_) (cs := cs_) (L := L) H ha_ rfl rfl (d6) (len_ve _) (plain_ve _) (by simp only [List.length_map]; have := List.length_filter_le (countB at_ kn) (l.take i); rw [List.length_take] at this; omega) (by simp only [List.length_map]; have := List.length_filter_le (countB at_ kn) (l.take i); rw [List.length_take] at this; omega) (fun va10 cs11 _ H ha_ => ?_))
        obtain ⟨Aa12, na12, ca12, rfl⟩ := Acc.form ha_
        refine sr_op rfl rfl (ow_assign (v := .slice Aa12 na12 ca12) rfl ?_)
        refine sr_nil ?_
        refine st_inBlock ?_
        refine st_region ?_
        refine sr_op rfl rfl (ow_add (r := ((i + 1 : Nat) : Int)) rfl rfl (inc_i64 (by omega)) ?_)
        refine sr_op rfl rfl (ow_move (v := .int .i64 ((i + 1 : Nat) : Int)) rfl ?_)
        refine sr_nil ?_
        exact st_inLoop (st_live [0, 1, 2, 6, 7, 45, 46, 47] (ih4 _ _ _ (by omega) ⟨i + 1, J2, _, _, _, _, _, rfl, rfl, H.drop 1, (hJ2), by rw [take_some he6, List.filter_append, show [e6].filter (countB at_ kn) = [e6] from by simp [countB, List.filter_cons, hin], List.map_append]; exact ha_, by omega⟩))
      · have hin := hc8
        refine st_skip ?_
        refine st_inBlock ?_
        refine st_region ?_
        refine sr_op rfl rfl (ow_add (r := ((i + 1 : Nat) : Int)) rfl rfl (inc_i64 (by omega)) ?_)
        refine sr_op rfl rfl (ow_move (v := .int .i64 ((i + 1 : Nat) : Int)) rfl ?_)
        refine sr_nil ?_
        exact st_inLoop (st_live [0, 1, 2, 6, 7, 45, 46, 47] (ih4 _ _ _ (by omega) ⟨i + 1, J2, _, _, _, _, _, rfl, rfl, H.drop 1, (hJ2), by rw [take_some he6, List.filter_append, show [e6].filter (countB at_ kn) = [] from by simp [countB, List.filter_cons, hin], List.append_nil]; exact ha_, by omega⟩))
    · have hc5 := of_decide_eq_false hc5
      obtain ⟨I9, hI9, H9, hr_⟩ := Acc.done ha_ H
      change RepS encVe I9 13 ((l.take i).filter (countB at_ kn)) (.slice Aa_ na_ ca_) at hr_
      rw [List.take_of_length_le (by omega)] at hr_
      obtain rfl := RepS.len hr_
      have H := H9
      obtain ⟨hcE, hst, hz, hri, hbe⟩ := force_law hall hta htk
      obtain ⟨no, ok, hS⟩ : ∃ no ok, standE l at_ kn = (no, ok, 0) := ⟨_, _, Prod.ext rfl (Prod.ext rfl hz)⟩
      have hS2 := hst.symm.trans hS
      rw [hS] at hbe
      simp only at hbe
      have hcl : (l.filter (countB at_ kn)).length ≤ 6 := by have := List.length_filter_le (countB at_ kn) l; omega
      rcases hbe with ⟨hc0, he_⟩ | ⟨x, hx, he_, hbst⟩
      · obtain ⟨rfl, rfl⟩ : no = 0 ∧ ok = false := by simp only [Prod.mk.injEq] at he_; exact ⟨he_.1, he_.2.2⟩
        refine st_exit rfl ?_
        refine st_seq ?_
        refine st_region ?_
        refine sr_op rfl rfl (ow_move (v := .slice s0A l.length s0c) rfl ?_)
        refine sr_op rfl rfl (ow_move (v := .int .i64 at_) rfl ?_)
        refine sr_op rfl rfl (ow_move (v := .int .i64 kn) rfl ?_)
        have s0 := ((s0.mono hJ2).mono hI9)
        have hkd := ((hkd.mono hJ2).mono hI9)
        refine sr_op rfl rfl (ow_call en25 rfl (Standing_as H s0 hkd hS) ?_)
        rintro _ _ ⟨rfl, H⟩
        refine sr_op rfl rfl (ow_move (v := .tuple #[.int .i64 0, .bool false, .int .i64 0]) rfl ?_)
        refine sr_op rfl rfl (ow_extract (v := .int .i64 0) rfl rfl ?_)
        refine sr_op rfl rfl (ow_extract (v := .bool false) rfl rfl ?_)
        refine sr_op rfl rfl (ow_extract (v := .int .i64 0) rfl rfl ?_)
        refine sr_op rfl rfl (ow_assign (v := .int .i64 0) rfl ?_)
        refine sr_op rfl rfl (ow_assign (v := .bool false) rfl ?_)
        refine sr_op rfl rfl (ow_assign (v := .int .i64 0) rfl ?_)
        refine sr_nil ?_
        refine st_seq ?_
        refine st_region ?_
        refine sr_op rfl rfl (ow_move (v := .slice Aa_ ((l.filter (countB at_ kn)).length) ca_) rfl ?_)
        refine sr_op rfl rfl (ow_move (v := .int .i64 at_) rfl ?_)
        refine sr_op rfl rfl (ow_move (v := .int .i64 kn) rfl ?_)
        refine sr_op rfl rfl (ow_call en25 rfl (Standing_as H hr_ hkd hS2) ?_)
        rintro _ _ ⟨rfl, H⟩
        refine sr_op rfl rfl (ow_move (v := .tuple #[.int .i64 0, .bool false, .int .i64 0]) rfl ?_)
        refine sr_op rfl rfl (ow_extract (v := .int .i64 0) rfl rfl ?_)
        refine sr_op rfl rfl (ow_extract (v := .bool false) rfl rfl ?_)
        refine sr_op rfl rfl (ow_extract (v := .int .i64 0) rfl rfl ?_)
        refine sr_op rfl rfl (ow_assign (v := .int .i64 0) rfl ?_)
        refine sr_op rfl rfl (ow_assign (v := .bool false) rfl ?_)
        refine sr_op rfl rfl (ow_assign (v := .int .i64 0) rfl ?_)
        refine sr_nil ?_
        refine st_seq ?_
        refine st_seq ?_
        refine st_region ?_
        refine sr_op rfl rfl (ow_move (v := .int .i64 0) rfl ?_)
        refine sr_op rfl rfl (ow_neq rfl rfl ?_)
        refine sr_op rfl rfl (ow_move (v := .bool false) rfl ?_)
        refine sr_want rfl (j := 2) (d := 84) rfl rfl rfl (v := false) rfl rfl (ow_move (v := .int .i64 0) rfl ?_)
        refine sr_want rfl (j := 2) (d := 84) rfl rfl rfl (v := false) rfl rfl (ow_neq rfl rfl ?_)
        refine sr_op rfl rfl (ow_pick (v := .bool false) rfl rfl ?_)
        refine sr_op rfl rfl (ow_move (v := .bool false) rfl ?_)
        refine sr_want rfl (j := 6) (d := 88) rfl rfl rfl (v := false) rfl rfl (ow_move (v := .int .i64 0) rfl ?_)
        refine sr_want rfl (j := 6) (d := 88) rfl rfl rfl (v := false) rfl rfl (ow_move (v := .int .i64 0) rfl ?_)
        refine sr_want rfl (j := 6) (d := 88) rfl rfl rfl (v := false) rfl rfl (ow_neq rfl rfl ?_)
        refine sr_op rfl rfl (ow_pick (v := .bool false) rfl rfl ?_)
        refine sr_op rfl rfl (ow_move (v := .bool false) rfl ?_)
        refine sr_want rfl (j := 11) (d := 93) rfl rfl rfl (v := false) rfl rfl (ow_move (v := .bool false) rfl ?_)
        refine sr_want rfl (j := 11) (d := 93) rfl rfl rfl (v := false) rfl rfl (ow_move (v := .bool false) rfl ?_)
        refine sr_want rfl (j := 11) (d := 93) rfl rfl rfl (v := false) rfl rfl (ow_bne Tryd.underlying4 rfl rfl ?_)
        refine sr_op rfl rfl (ow_pick (v := .bool (!decide (false = false))) rfl rfl ?_)
        refine sr_op rfl rfl (ow_move (v := .bool (!decide (false = false))) rfl ?_)
        refine sr_want rfl (j := 16) (d := 98) rfl rfl rfl (v := false) rfl rfl (ow_move (v := .bool false) rfl ?_)
        refine sr_want rfl (j := 16) (d := 98) rfl rfl rfl (v := false) rfl rfl (ow_move (v := .slice Aa_ ((l.filter (countB at_ kn)).length) ca_) rfl ?_)
        refine sr_want rfl (j := 16) (d := 98) rfl rfl rfl (v := false) rfl rfl (ow_lenS sl36 rfl rfl ?_)
        refine sr_want rfl (j := 16) (d := 98) rfl rfl rfl (v := false) rfl rfl (ow_gtr rfl rfl ?_)
        refine sr_want rfl (j := 16) (d := 98) rfl rfl rfl (v := false) rfl rfl (ow_bne Tryd.underlying4 rfl rfl ?_)
        refine sr_op rfl rfl (ow_pick (v := .bool (!decide (false = (decide (0 < ((l.filter (countB at_ kn)).length : Int)))))) rfl rfl ?_)
        refine sr_nil ?_
        refine st_no (congrArg Value.bool (congrArg (a₂ := true) not (by have h_ : (decide (0 < ((l.filter (countB at_ kn)).length : Int))) = false := (by rw [hc0]; rfl); rw [h_]; rfl))) ?_
        refine st_skip ?_
        refine st_seq ?_
        refine st_seq ?_
        refine st_region ?_
        refine sr_op rfl rfl (ow_move (v := .slice Aa_ ((l.filter (countB at_ kn)).length) ca_) rfl ?_)
        refine sr_op rfl rfl (ow_lenS sl36 rfl rfl ?_)
        refine sr_op rfl rfl (ow_move (v := .int .i64 0) rfl ?_)
        refine sr_nil ?_
        refine st_block ?_
        refine st_loop ?_
        refine st_live [6, 7, 10, 11, 105, 106, 107] ?_
        refine st_ind (fun d_ m_ w_ => ∃ (i : Nat) (r_ : Sl), d_ = (l.filter (countB at_ kn)).length - i ∧ m_ = (6, .bool false) :: (7, .slice Aa_ ((l.filter (countB at_ kn)).length) ca_) :: (10, .int .i64 0) :: (11, .bool false) :: (105, .slice Aa_ ((l.filter (countB at_ kn)).length) ca_) :: (106, .int .i64 ((l.filter (countB at_ kn)).length : Int)) :: (107, .int .i64 (i : Int)) :: r_ ∧ Hp B I9 w_ (L) ∧ i ≤ (l.filter (countB at_ kn)).length) _ ⟨0, _, rfl, rfl, H, Nat.zero_le _⟩ ?_
        rintro _ _ _ ⟨i, r14, rfl, rfl, H, hi⟩ ih15
        refine st_seq ?_
        refine st_region ?_
        refine sr_op rfl rfl (ow_lss rfl rfl ?_)
        refine sr_nil ?_
        refine st_seq ?_
        refine st_cond (decide ((i : Int) < ((l.filter (countB at_ kn)).length : Int))) rfl (fun hc16 => ?_) (fun hc16 => ?_)
        · exact absurd (of_decide_eq_true hc16) (by rw [hc0]; simp)
        · have hc16 := of_decide_eq_false hc16
          refine st_exit rfl ?_
          refine st_seq ?_
          refine st_region ?_
          refine sr_op rfl rfl (ow_move (v := .bool false) rfl ?_)
          refine sr_op rfl rfl (ow_not rfl ?_)
          refine sr_op rfl rfl (ow_move (v := .bool !false) rfl ?_)
          refine sr_want rfl (j := 2) (d := 144) rfl rfl rfl (v := true) rfl rfl (ow_move (v := .int .i64 0) rfl ?_)
          refine sr_want rfl (j := 2) (d := 144) rfl rfl rfl (v := true) rfl rfl (ow_eql rfl rfl ?_)
          refine sr_op rfl rfl (ow_pick (v := .bool true) rfl rfl ?_)
          refine sr_op rfl rfl (ow_assign (v := .bool true) rfl ?_)
          refine sr_nil ?_
          refine st_ret hb (hR _ _ (.bool true) (res_run (vs := [.bool true]) Tryd.results8 ⟨_, _, rfl, rfl, rfl⟩) ?_)
          exact ⟨_, rfl, rfl, (Hp.back H (hJ2.trans hI9))⟩
      · obtain ⟨rfl, rfl⟩ : no = x.no ∧ ok = true := by simp only [Prod.mk.injEq] at he_; exact ⟨he_.1, he_.2.2⟩
        refine st_exit rfl ?_
        refine st_seq ?_
        refine st_region ?_
        refine sr_op rfl rfl (ow_move (v := .slice s0A l.length s0c) rfl ?_)
        refine sr_op rfl rfl (ow_move (v := .int .i64 at_) rfl ?_)
        refine sr_op rfl rfl (ow_move (v := .int .i64 kn) rfl ?_)
        have s0 := ((s0.mono hJ2).mono hI9)
        have hkd := ((hkd.mono hJ2).mono hI9)
        refine sr_op rfl rfl (ow_call en25 rfl (Standing_as H s0 hkd hS) ?_)
        rintro _ _ ⟨rfl, H⟩
        refine sr_op rfl rfl (ow_move (v := .tuple #[.int .i64 x.no, .bool true, .int .i64 0]) rfl ?_)
        refine sr_op rfl rfl (ow_extract (v := .int .i64 x.no) rfl rfl ?_)
        refine sr_op rfl rfl (ow_extract (v := .bool true) rfl rfl ?_)
        refine sr_op rfl rfl (ow_extract (v := .int .i64 0) rfl rfl ?_)
        refine sr_op rfl rfl (ow_assign (v := .int .i64 x.no) rfl ?_)
        refine sr_op rfl rfl (ow_assign (v := .bool true) rfl ?_)
        refine sr_op rfl rfl (ow_assign (v := .int .i64 0) rfl ?_)
        refine sr_nil ?_
        refine st_seq ?_
        refine st_region ?_
        refine sr_op rfl rfl (ow_move (v := .slice Aa_ ((l.filter (countB at_ kn)).length) ca_) rfl ?_)
        refine sr_op rfl rfl (ow_move (v := .int .i64 at_) rfl ?_)
        refine sr_op rfl rfl (ow_move (v := .int .i64 kn) rfl ?_)
        refine sr_op rfl rfl (ow_call en25 rfl (Standing_as H hr_ hkd hS2) ?_)
        rintro _ _ ⟨rfl, H⟩
        refine sr_op rfl rfl (ow_move (v := .tuple #[.int .i64 x.no, .bool true, .int .i64 0]) rfl ?_)
        refine sr_op rfl rfl (ow_extract (v := .int .i64 x.no) rfl rfl ?_)
        refine sr_op rfl rfl (ow_extract (v := .bool true) rfl rfl ?_)
        refine sr_op rfl rfl (ow_extract (v := .int .i64 0) rfl rfl ?_)
        refine sr_op rfl rfl (ow_assign (v := .int .i64 x.no) rfl ?_)
        refine sr_op rfl rfl (ow_assign (v := .bool true) rfl ?_)
        refine sr_op rfl rfl (ow_assign (v := .int .i64 0) rfl ?_)
        refine sr_nil ?_
        refine st_seq ?_
        refine st_seq ?_
        refine st_region ?_
        refine sr_op rfl rfl (ow_move (v := .int .i64 0) rfl ?_)
        refine sr_op rfl rfl (ow_neq rfl rfl ?_)
        refine sr_op rfl rfl (ow_move (v := .bool false) rfl ?_)
        refine sr_want rfl (j := 2) (d := 84) rfl rfl rfl (v := false) rfl rfl (ow_move (v := .int .i64 0) rfl ?_)
        refine sr_want rfl (j := 2) (d := 84) rfl rfl rfl (v := false) rfl rfl (ow_neq rfl rfl ?_)
        refine sr_op rfl rfl (ow_pick (v := .bool false) rfl rfl ?_)
        refine sr_op rfl rfl (ow_move (v := .bool false) rfl ?_)
        refine sr_want rfl (j := 6) (d := 88) rfl rfl rfl (v := false) rfl rfl (ow_move (v := .int .i64 x.no) rfl ?_)
        refine sr_want rfl (j := 6) (d := 88) rfl rfl rfl (v := false) rfl rfl (ow_move (v := .int .i64 x.no) rfl ?_)
        refine sr_want rfl (j := 6) (d := 88) rfl rfl rfl (v := false) rfl rfl (ow_neq rfl rfl ?_)
        refine sr_op rfl rfl (ow_pick (v := .bool (!decide (x.no = x.no))) rfl rfl ?_)
        refine sr_op rfl rfl (ow_move (v := .bool (!decide (x.no = x.no))) rfl ?_)
        refine sr_want rfl (j := 11) (d := 93) rfl rfl rfl (v := false) (congrArg Value.bool (congrArg (a₂ := true) not (decide_eq_true rfl))) rfl (ow_move (v := .bool true) rfl ?_)
        refine sr_want rfl (j := 11) (d := 93) rfl rfl rfl (v := false) (congrArg Value.bool (congrArg (a₂ := true) not (decide_eq_true rfl))) rfl (ow_move (v := .bool true) rfl ?_)
        refine sr_want rfl (j := 11) (d := 93) rfl rfl rfl (v := false) (congrArg Value.bool (congrArg (a₂ := true) not (decide_eq_true rfl))) rfl (ow_bne Tryd.underlying4 rfl rfl ?_)
        refine sr_op rfl rfl (ow_pick (a := false) (v := .bool (!decide (true = true))) (congrArg Value.bool (congrArg (a₂ := true) not (decide_eq_true rfl))) rfl ?_)
        refine sr_op rfl rfl (ow_move (v := .bool (!decide (true = true))) rfl ?_)
        refine sr_want rfl (j := 16) (d := 98) rfl rfl rfl (v := false) rfl rfl (ow_move (v := .bool true) rfl ?_)
        refine sr_want rfl (j := 16) (d := 98) rfl rfl rfl (v := false) rfl rfl (ow_move (v := .slice Aa_ ((l.filter (countB at_ kn)).length) ca_) rfl ?_)
        refine sr_want rfl (j := 16) (d := 98) rfl rfl rfl (v := false) rfl rfl (ow_lenS sl36 rfl rfl ?_)
        refine sr_want rfl (j := 16) (d := 98) rfl rfl rfl (v := false) rfl rfl (ow_gtr rfl rfl ?_)
        refine sr_want rfl (j := 16) (d := 98) rfl rfl rfl (v := false) rfl rfl (ow_bne Tryd.underlying4 rfl rfl ?_)
        refine sr_op rfl rfl (ow_pick (v := .bool (!decide (true = (decide (0 < ((l.filter (countB at_ kn)).length : Int)))))) rfl rfl ?_)
        refine sr_nil ?_
        refine st_no (congrArg Value.bool (congrArg (a₂ := true) not (by have h_ : (decide (0 < ((l.filter (countB at_ kn)).length : Int))) = true := (by have := List.length_pos_of_mem hx; simp only [decide_eq_true_eq]; omega); rw [h_]; rfl))) ?_
        refine st_skip ?_
        refine st_seq ?_
        refine st_seq ?_
        refine st_region ?_
        refine sr_op rfl rfl (ow_move (v := .slice Aa_ ((l.filter (countB at_ kn)).length) ca_) rfl ?_)
        refine sr_op rfl rfl (ow_lenS sl36 rfl rfl ?_)
        refine sr_op rfl rfl (ow_move (v := .int .i64 0) rfl ?_)
        refine sr_nil ?_
        refine st_block ?_
        refine st_loop ?_
        refine st_live [6, 7, 10, 11, 105, 106, 107] ?_
        refine st_ind (fun d_ m_ w_ => ∃ (i : Nat) (r_ : Sl), d_ = (l.filter (countB at_ kn)).length - i ∧ m_ = (6, .bool false) :: (7, .slice Aa_ ((l.filter (countB at_ kn)).length) ca_) :: (10, .int .i64 x.no) :: (11, .bool true) :: (105, .slice Aa_ ((l.filter (countB at_ kn)).length) ca_) :: (106, .int .i64 ((l.filter (countB at_ kn)).length : Int)) :: (107, .int .i64 (i : Int)) :: r_ ∧ Hp B I9 w_ (L) ∧ i ≤ (l.filter (countB at_ kn)).length ∧ ∀ y_ ∈ (l.filter (countB at_ kn)).take i, y_.no = x.no → False) _ ⟨0, _, rfl, rfl, H, Nat.zero_le _, by intro y_ hy_; simp at hy_⟩ ?_
        rintro _ _ _ ⟨i, r18, rfl, rfl, H, hi, hno⟩ ih19
        refine st_seq ?_
        refine st_region ?_
        refine sr_op rfl rfl (ow_lss rfl rfl ?_)
        refine sr_nil ?_
        refine st_seq ?_
        refine st_cond (decide ((i : Int) < ((l.filter (countB at_ kn)).length : Int))) rfl (fun hc20 => ?_) (fun hc20 => ?_)
        · have hc20 := of_decide_eq_true hc20
          refine st_skip ?_
          refine st_seq ?_
          refine st_block ?_
          refine st_seq ?_
          refine st_region ?_
          obtain ⟨e21, he21⟩ : ∃ q_, (l.filter (countB at_ kn))[i]? = some q_ := ⟨_, List.getElem?_eq_getElem (by omega)⟩
          obtain ⟨b21, o21, us21, hA21, hat21, hul21, hr21⟩ := RepS.get hr_ he21
          have d21 := hr21
          obtain ⟨d21v4, d21v5, d21v6, d21v11, rfl, d21_0, d21_1, d21_2, d21_3, d21_4, d21_5, d21_6, d21_7, d21_8, d21_9, d21_10, d21_11, d21_12⟩ := ve_iff2.1 hr21
          obtain ⟨d21A4, d21c4, rfl, d21m4, d21M4, d21_4⟩ := RepS.open_ d21_4
          obtain ⟨d21A5, d21c5, rfl, d21m5, d21M5, d21_5⟩ := RepS.open_ d21_5
          obtain ⟨d21A6, d21c6, rfl, d21m6, d21M6, d21_6⟩ := RepS.open_ d21_6
          obtain ⟨d21A11, d21c11, rfl, d21m11, d21M11, d21_11⟩ := RepS.open_ d21_11
          refine sr_op rfl rfl (ow_indexAddrA sl36 ty52 hA21 rfl rfl (by omega) (by omega) (r := o21 + i * 13) rfl ?_)
          refine sr_op rfl rfl (ow_loadI (v := .agg #[.int .i64 e21.no, .int .i64 e21.at_, .int .i64 e21.known, .string e21.policy.name, .slice d21A4 e21.policy.kinds.length d21c4, .slice d21A5 e21.policy.offices.length d21c5, .slice d21A6 e21.policy.rules.length d21c6, .int .i64 e21.policy.change.kind, .int .i64 e21.policy.change.n, .int .i64 e21.policy.change.no, .string e21.policy.change.name, .slice d21A11 e21.policy.change.l.length d21c11, .int .i64 e21.policy.mode]) ty52 H rfl hat21 rfl rfl rfl ?_)
          refine sr_op rfl rfl (ow_alloc ty52 H [.int .i64 0, .int .i64 0, .int .i64 0, .string ⟨#[]⟩, .slice none 0 0, .slice none 0 0, .slice none 0 0, .int .i64 0, .int .i64 0, .int .i64 0, .string ⟨#[]⟩, .slice none 0 0, .int .i64 0] rfl (fun g22 _ H => ?_))
          refine sr_op rfl rfl (ow_store ty52 H rfl (v := .agg #[.int .i64 e21.no, .int .i64 e21.at_, .int .i64 e21.known, .string e21.policy.name, .slice d21A4 e21.policy.kinds.length d21c4, .slice d21A5 e21.policy.offices.length d21c5, .slice d21A6 e21.policy.rules.length d21c6, .int .i64 e21.policy.change.kind, .int .i64 e21.policy.change.n, .int .i64 e21.policy.change.no, .string e21.policy.change.name, .slice d21A11 e21.policy.change.l.length d21c11, .int .i64 e21.policy.mode]) rfl [.int .i64 e21.no, .int .i64 e21.at_, .int .i64 e21.known, .string e21.policy.name, .slice d21A4 e21.policy.kinds.length d21c4, .slice d21A5 e21.policy.offices.length d21c5, .slice d21A6 e21.policy.rules.length d21c6, .int .i64 e21.policy.change.kind, .int .i64 e21.policy.change.n, .int .i64 e21.policy.change.no, .string e21.policy.change.name, .slice d21A11 e21.policy.change.l.length d21c11, .int .i64 e21.policy.mode] rfl rfl rfl 0 rfl rfl (fun _ H => ?_))
          refine sr_nil ?_
          refine st_seq ?_
          refine st_seq ?_
          refine st_region ?_
          refine sr_op rfl rfl (ow_fieldAddr fd52_0 ty3 rfl rfl (r := 0) rfl ?_)
          refine sr_op rfl rfl (ow_load (v := .int .i64 e21.no) ty3 H rfl 0 rfl rfl rfl rfl ?_)
          refine sr_op rfl rfl (ow_move (v := .int .i64 x.no) rfl ?_)
          refine sr_op rfl rfl (ow_neq rfl rfl ?_)
          refine sr_nil ?_
          refine st_cond (!decide (e21.no = x.no)) rfl (fun hc23 => ?_) (fun hc23 => ?_)
          · have hc23 := bnt hc23
            have hc23 := of_decide_eq_false hc23
            refine st_exit rfl ?_
            refine st_region ?_
            refine sr_op rfl rfl (ow_add (r := ((i + 1 : Nat) : Int)) rfl rfl (inc_i64 (by omega)) ?_)
            refine sr_op rfl rfl (ow_move (v := .int .i64 ((i + 1 : Nat) : Int)) rfl ?_)
            refine sr_nil ?_
            exact st_inLoop (st_live [6, 7, 10, 11, 105, 106, 107] (ih19 _ _ _ (by omega) ⟨i + 1, _, rfl, rfl, H.drop 1, by omega, by
                intro y_ hy_ e_
                rw [take_some he21] at hy_
                rcases List.mem_append.1 hy_ with h_ | h_
                · exact hno y_ h_ e_
                · simp only [List.mem_singleton] at h_
                  subst h_
                  exact hc23 e_⟩))
          · have hc23 := bnf hc23
            have hc23 := of_decide_eq_true hc23
            have hex := Rise.inj hri _ (List.mem_of_getElem? he21) x hx hc23
            refine st_skip ?_
            refine st_seq ?_
            refine st_seq ?_
            refine st_region ?_
            refine sr_op rfl rfl (ow_move (v := .slice Aa_ ((l.filter (countB at_ kn)).length) ca_) rfl ?_)
            refine sr_op rfl rfl (ow_lenS sl36 rfl rfl ?_)
            refine sr_op rfl rfl (ow_move (v := .int .i64 0) rfl ?_)
            refine sr_nil ?_
            refine st_block ?_
            refine st_loop ?_
            refine st_live [6, 7, 10, 11, 17, 105, 106, 107, 115, 116, 117] ?_
            refine st_ind (fun d_ m_ w_ => ∃ (j : Nat) (r_ : Sl), d_ = (l.filter (countB at_ kn)).length - j ∧ m_ = (6, .bool false) :: (7, .slice Aa_ ((l.filter (countB at_ kn)).length) ca_) :: (10, .int .i64 x.no) :: (11, .bool true) :: (17, .pointer (some ⟨g22, 0, none⟩)) :: (105, .slice Aa_ ((l.filter (countB at_ kn)).length) ca_) :: (106, .int .i64 ((l.filter (countB at_ kn)).length : Int)) :: (107, .int .i64 (i : Int)) :: (115, .slice Aa_ ((l.filter (countB at_ kn)).length) ca_) :: (116, .int .i64 ((l.filter (countB at_ kn)).length : Int)) :: (117, .int .i64 (j : Int)) :: r_ ∧ Hp B I9 w_ ((g22, Ob [.int .i64 e21.no, .int .i64 e21.at_, .int .i64 e21.known, .string e21.policy.name, .slice d21A4 e21.policy.kinds.length d21c4, .slice d21A5 e21.policy.offices.length d21c5, .slice d21A6 e21.policy.rules.length d21c6, .int .i64 e21.policy.change.kind, .int .i64 e21.policy.change.n, .int .i64 e21.policy.change.no, .string e21.policy.change.name, .slice d21A11 e21.policy.change.l.length d21c11, .int .i64 e21.policy.mode] 52) :: L) ∧ j ≤ (l.filter (countB at_ kn)).length) _ ⟨0, _, rfl, rfl, H, Nat.zero_le _⟩ ?_
            rintro _ _ _ ⟨j, r25, rfl, rfl, H, hj⟩ ih26
            refine st_seq ?_
            refine st_region ?_
            refine sr_op rfl rfl (ow_lss rfl rfl ?_)
            refine sr_nil ?_
            refine st_seq ?_
            refine st_cond (decide ((j : Int) < ((l.filter (countB at_ kn)).length : Int))) rfl (fun hc27 => ?_) (fun hc27 => ?_)
            · have hc27 := of_decide_eq_true hc27
              refine st_skip ?_
              refine st_seq ?_
              refine st_block ?_
              refine st_seq ?_
              refine st_region ?_
              obtain ⟨e28, he28⟩ : ∃ q_, (l.filter (countB at_ kn))[j]? = some q_ := ⟨_, List.getElem?_eq_getElem (by omega)⟩
              obtain ⟨b28, o28, us28, hA28, hat28, hul28, hr28⟩ := RepS.get hr_ he28
              have d28 := hr28
              obtain ⟨d28v4, d28v5, d28v6, d28v11, rfl, d28_0, d28_1, d28_2, d28_3, d28_4, d28_5, d28_6, d28_7, d28_8, d28_9, d28_10, d28_11, d28_12⟩ := ve_iff2.1 hr28
              obtain ⟨d28A4, d28c4, rfl, d28m4, d28M4, d28_4⟩ := RepS.open_ d28_4
              obtain ⟨d28A5, d28c5, rfl, d28m5, d28M5, d28_5⟩ := RepS.open_ d28_5
              obtain ⟨d28A6, d28c6, rfl, d28m6, d28M6, d28_6⟩ := RepS.open_ d28_6
              obtain ⟨d28A11, d28c11, rfl, d28m11, d28M11, d28_11⟩ := RepS.open_ d28_11
              refine sr_op rfl rfl (ow_indexAddrA sl36 ty52 hA28 rfl rfl (by omega) (by omega) (r := o28 + j * 13) rfl ?_)
              refine sr_op rfl rfl (ow_loadI (v := .agg #[.int .i64 e28.no, .int .i64 e28.at_, .int .i64 e28.known, .string e28.policy.name, .slice d28A4 e28.policy.kinds.length d28c4, .slice d28A5 e28.policy.offices.length d28c5, .slice d28A6 e28.policy.rules.length d28c6, .int .i64 e28.policy.change.kind, .int .i64 e28.policy.change.n, .int .i64 e28.policy.change.no, .string e28.policy.change.name, .slice d28A11 e28.policy.change.l.length d28c11, .int .i64 e28.policy.mode]) ty52 H rfl hat28 rfl rfl rfl ?_)
              refine sr_op rfl rfl (ow_alloc ty52 H [.int .i64 0, .int .i64 0, .int .i64 0, .string ⟨#[]⟩, .slice none 0 0, .slice none 0 0, .slice none 0 0, .int .i64 0, .int .i64 0, .int .i64 0, .string ⟨#[]⟩, .slice none 0 0, .int .i64 0] rfl (fun g29 _ H => ?_))
              refine sr_op rfl rfl (ow_store ty52 H rfl (v := .agg #[.int .i64 e28.no, .int .i64 e28.at_, .int .i64 e28.known, .string e28.policy.name, .slice d28A4 e28.policy.kinds.length d28c4, .slice d28A5 e28.policy.offices.length d28c5, .slice d28A6 e28.policy.rules.length d28c6, .int .i64 e28.policy.change.kind, .int .i64 e28.policy.change.n, .int .i64 e28.policy.change.no, .string e28.policy.change.name, .slice d28A11 e28.policy.change.l.length d28c11, .int .i64 e28.policy.mode]) rfl [.int .i64 e28.no, .int .i64 e28.at_, .int .i64 e28.known, .string e28.policy.name, .slice d28A4 e28.policy.kinds.length d28c4, .slice d28A5 e28.policy.offices.length d28c5, .slice d28A6 e28.policy.rules.length d28c6, .int .i64 e28.policy.change.kind, .int .i64 e28.policy.change.n, .int .i64 e28.policy.change.no, .string e28.policy.change.name, .slice d28A11 e28.policy.change.l.length d28c11, .int .i64 e28.policy.mode] rfl rfl rfl 0 rfl rfl (fun _ H => ?_))
              refine sr_nil ?_
              refine st_seq ?_
              refine st_region ?_
              refine sr_op rfl rfl (ow_fieldAddr fd52_1 ty3 rfl rfl (r := 1) rfl ?_)
              refine sr_op rfl rfl (ow_load (v := .int .i64 e28.at_) ty3 H rfl 0 rfl rfl rfl rfl ?_)
              refine sr_op rfl rfl (ow_fieldAddr fd52_1 ty3 rfl rfl (r := 1) rfl ?_)
              refine sr_op rfl rfl (ow_load (v := .int .i64 e21.at_) ty3 H rfl 1 rfl rfl rfl rfl ?_)
              refine sr_op rfl rfl (ow_gtr rfl rfl ?_)
              refine sr_op rfl rfl (ow_move (v := .bool (decide (e21.at_ < e28.at_))) rfl ?_)
              refine sr_cut 13 (fun m_ w_ => ∃ (r_ : Sl) (v_ : Bool), m_ = (139, .bool v_) :: (6, .bool false) :: (7, .slice Aa_ ((l.filter (countB at_ kn)).length) ca_) :: (10, .int .i64 x.no) :: (11, .bool true) :: (17, .pointer (some ⟨g22, 0, none⟩)) :: (105, .slice Aa_ ((l.filter (countB at_ kn)).length) ca_) :: (106, .int .i64 ((l.filter (countB at_ kn)).length : Int)) :: (107, .int .i64 (i : Int)) :: (115, .slice Aa_ ((l.filter (countB at_ kn)).length) ca_) :: (116, .int .i64 ((l.filter (countB at_ kn)).length : Int)) :: (117, .int .i64 (j : Int)) :: r_ ∧ Hp B I9 w_ ((g29, Ob [.int .i64 e28.no, .int .i64 e28.at_, .int .i64 e28.known, .string e28.policy.name, .slice d28A4 e28.policy.kinds.length d28c4, .slice d28A5 e28.policy.offices.length d28c5, .slice d28A6 e28.policy.rules.length d28c6, .int .i64 e28.policy.change.kind, .int .i64 e28.policy.change.n, .int .i64 e28.policy.change.no, .string e28.policy.change.name, .slice d28A11 e28.policy.change.l.length d28c11, .int .i64 e28.policy.mode] 52) :: (g22, Ob [.int .i64 e21.no, .int .i64 e21.at_, .int .i64 e21.known, .string e21.policy.name, .slice d21A4 e21.policy.kinds.length d21c4, .slice d21A5 e21.policy.offices.length d21c5, .slice d21A6 e21.policy.rules.length d21c6, .int .i64 e21.policy.change.kind, .int .i64 e21.policy.change.n, .int .i64 e21.policy.change.no, .string e21.policy.change.name, .slice d21A11 e21.policy.change.l.length d21c11, .int .i64 e21.policy.mode] 52) :: L) ∧ v_ = ((decide (e21.at_ < e28.at_)) || ((decide (e28.at_ = e21.at_)) && (decide (e21.no < e28.no))))) (fun again => ?_) ?_
              · rcases hg : decide (e21.at_ < e28.at_) with _ | _
                · refine sr_want rfl (j := 5) (d := 126) rfl rfl rfl (v := false) rfl rfl (ow_fieldAddr fd52_1 ty3 rfl rfl (r := 1) rfl ?_)
                  refine sr_want rfl (j := 5) (d := 126) rfl rfl rfl (v := false) rfl rfl (ow_load (v := .int .i64 e28.at_) ty3 H rfl 0 rfl rfl rfl rfl ?_)
                  refine sr_want rfl (j := 5) (d := 126) rfl rfl rfl (v := false) rfl rfl (ow_fieldAddr fd52_1 ty3 rfl rfl (r := 1) rfl ?_)
                  refine sr_want rfl (j := 5) (d := 126) rfl rfl rfl (v := false) rfl rfl (ow_load (v := .int .i64 e21.at_) ty3 H rfl 1 rfl rfl rfl rfl ?_)
                  refine sr_want rfl (j := 5) (d := 126) rfl rfl rfl (v := false) rfl rfl (ow_eql rfl rfl ?_)
                  refine sr_want rfl (j := 5) (d := 126) rfl rfl rfl (v := false) rfl rfl (ow_move (v := .bool (decide (e28.at_ = e21.at_))) rfl ?_)
                  refine sr_cut 6 (fun m_ w_ => ∃ (r_ : Sl) (v_ : Bool), m_ = (138, .bool v_) :: (6, .bool false) :: (7, .slice Aa_ ((l.filter (countB at_ kn)).length) ca_) :: (10, .int .i64 x.no) :: (11, .bool true) :: (17, .pointer (some ⟨g22, 0, none⟩)) :: (105, .slice Aa_ ((l.filter (countB at_ kn)).length) ca_) :: (106, .int .i64 ((l.filter (countB at_ kn)).length : Int)) :: (107, .int .i64 (i : Int)) :: (115, .slice Aa_ ((l.filter (countB at_ kn)).length) ca_) :: (116, .int .i64 ((l.filter (countB at_ kn)).length : Int)) :: (117, .int .i64 (j : Int)) :: (126, .bool false) :: r_ ∧ Hp B I9 w_ ((g29, Ob [.int .i64 e28.no, .int .i64 e28.at_, .int .i64 e28.known, .string e28.policy.name, .slice d28A4 e28.policy.kinds.length d28c4, .slice d28A5 e28.policy.offices.length d28c5, .slice d28A6 e28.policy.rules.length d28c6, .int .i64 e28.policy.change.kind, .int .i64 e28.policy.change.n, .int .i64 e28.policy.change.no, .string e28.policy.change.name, .slice d28A11 e28.policy.change.l.length d28c11, .int .i64 e28.policy.mode] 52) :: (g22, Ob [.int .i64 e21.no, .int .i64 e21.at_, .int .i64 e21.known, .string e21.policy.name, .slice d21A4 e21.policy.kinds.length d21c4, .slice d21A5 e21.policy.offices.length d21c5, .slice d21A6 e21.policy.rules.length d21c6, .int .i64 e21.policy.change.kind, .int .i64 e21.policy.change.n, .int .i64 e21.policy.change.no, .string e21.policy.change.name, .slice d21A11 e21.policy.change.l.length d21c11, .int .i64 e21.policy.mode] 52) :: L) ∧ v_ = ((decide (e28.at_ = e21.at_)) && (decide (e21.no < e28.no)))) (fun again => ?_) ?_
                  · rcases hg : decide (e28.at_ = e21.at_) with _ | _
                    · refine sr_pass rfl (j := 11) (d := 132) rfl rfl rfl (u := false) (v := true) rfl rfl ?_
                      refine sr_pass rfl (j := 11) (d := 132) rfl rfl rfl (u := false) (v := true) rfl rfl ?_
                      refine sr_pass rfl (j := 11) (d := 132) rfl rfl rfl (u := false) (v := true) rfl rfl ?_
                      refine sr_pass rfl (j := 11) (d := 132) rfl rfl rfl (u := false) (v := true) rfl rfl ?_
                      refine sr_pass rfl (j := 11) (d := 132) rfl rfl rfl (u := false) (v := true) rfl rfl ?_
                      refine sr_want rfl (j := 5) (d := 126) rfl rfl rfl (v := false) rfl rfl (ow_pick (v := .bool false) rfl rfl ?_)
                      exact sr_live [138, 6, 7, 10, 11, 17, 105, 106, 107, 115, 116, 117, 126] (again _ _ ⟨_, _, rfl, H, by rw [hg] <;> rfl⟩)
                    · refine sr_want rfl (j := 11) (d := 132) rfl rfl rfl (v := true) rfl rfl (ow_fieldAddr fd52_0 ty3 rfl rfl (r := 0) rfl ?_)
                      refine sr_want rfl (j := 11) (d := 132) rfl rfl rfl (v := true) rfl rfl (ow_load (v := .int .i64 e28.no) ty3 H rfl 0 rfl rfl rfl rfl ?_)
                      refine sr_want rfl (j := 11) (d := 132) rfl rfl rfl (v := true) rfl rfl (ow_fieldAddr fd52_0 ty3 rfl rfl (r := 0) rfl ?_)
                      refine sr_want rfl (j := 11) (d := 132) rfl rfl rfl (v := true) rfl rfl (ow_load (v := .int .i64 e21.no) ty3 H rfl 1 rfl rfl rfl rfl ?_)
                      refine sr_want rfl (j := 11) (d := 132) rfl rfl rfl (v := true) rfl rfl (ow_gtr rfl rfl ?_)
                      refine sr_want rfl (j := 5) (d := 126) rfl rfl rfl (v := false) rfl rfl (ow_pick (v := .bool (decide (e21.no < e28.no))) rfl rfl ?_)
                      exact sr_live [138, 6, 7, 10, 11, 17, 105, 106, 107, 115, 116, 117, 126] (again _ _ ⟨_, _, rfl, H, by rw [hg] <;> rfl⟩)
                  rintro _ _ ⟨r, _, rfl, H, rfl⟩
                  refine sr_op rfl rfl (ow_pick (v := .bool ((decide (e28.at_ = e21.at_)) && (decide (e21.no < e28.no)))) rfl rfl ?_)
                  exact sr_live [139, 6, 7, 10, 11, 17, 105, 106, 107, 115, 116, 117] (again _ _ ⟨_, _, rfl, H, by rw [hg] <;> rfl⟩)
                · refine sr_pass rfl (j := 5) (d := 126) rfl rfl rfl (u := true) (v := false) rfl rfl ?_
                  refine sr_pass rfl (j := 5) (d := 126) rfl rfl rfl (u := true) (v := false) rfl rfl ?_
                  refine sr_pass rfl (j := 5) (d := 126) rfl rfl rfl (u := true) (v := false) rfl rfl ?_
                  refine sr_pass rfl (j := 5) (d := 126) rfl rfl rfl (u := true) (v := false) rfl rfl ?_
                  refine sr_pass rfl (j := 5) (d := 126) rfl rfl rfl (u := true) (v := false) rfl rfl ?_
                  refine sr_pass rfl (j := 5) (d := 126) rfl rfl rfl (u := true) (v := false) rfl rfl ?_
                  refine sr_pass_undef rfl (j := 11) (d := 132) rfl rfl rfl rfl ?_
                  refine sr_pass_undef rfl (j := 11) (d := 132) rfl rfl rfl rfl ?_
                  refine sr_pass_undef rfl (j := 11) (d := 132) rfl rfl rfl rfl ?_
                  refine sr_pass_undef rfl (j := 11) (d := 132) rfl rfl rfl rfl ?_
                  refine sr_pass_undef rfl (j := 11) (d := 132) rfl rfl rfl rfl ?_
                  refine sr_pass rfl (j := 5) (d := 126) rfl rfl rfl (u := true) (v := false) rfl rfl ?_
                  refine sr_op rfl rfl (ow_pick (v := .bool true) rfl rfl ?_)
                  exact sr_live [139, 6, 7, 10, 11, 17, 105, 106, 107, 115, 116, 117] (again _ _ ⟨_, _, rfl, H, by rw [hg] <;> rfl⟩)
              rintro _ _ ⟨r, _, rfl, H, rfl⟩
              refine sr_nil ?_
              refine st_cond ((decide (e21.at_ < e28.at_)) || ((decide (e28.at_ = e21.at_)) && (decide (e21.no < e28.no)))) rfl (fun hc30 => ?_) (fun hc30 => ?_)
              · exact absurd hc30 (fun h_ => worse (hex ▸ hbst e28 (List.mem_of_getElem? he28)) h_)
              · refine st_skip ?_
                refine st_inBlock ?_
                refine st_region ?_
                refine sr_op rfl rfl (ow_add (r := ((j + 1 : Nat) : Int)) rfl rfl (inc_i64 (by omega)) ?_)
                refine sr_op rfl rfl (ow_move (v := .int .i64 ((j + 1 : Nat) : Int)) rfl ?_)
                refine sr_nil ?_
                exact st_inLoop (st_live [6, 7, 10, 11, 17, 105, 106, 107, 115, 116, 117] (ih26 _ _ _ (by omega) ⟨j + 1, _, rfl, rfl, H.drop 1, by omega⟩))
            · have hc27 := of_decide_eq_false hc27
              refine st_exit rfl ?_
              refine st_seq ?_
              refine st_region ?_
              refine sr_op rfl rfl (ow_assign (v := .bool true) rfl ?_)
              refine sr_nil ?_
              refine st_ret hb (hR _ _ (.bool true) (res_run (vs := [.bool true]) Tryd.results8 ⟨_, _, rfl, rfl, rfl⟩) ?_)
              exact ⟨_, rfl, rfl, (Hp.back (H.drop 1) (hJ2.trans hI9))⟩
        · exact absurd hx (fun h_ => by
              have hi9 := of_decide_eq_false hc20
              rw [List.take_of_length_le (by omega)] at hno
              exact hno x h_ rfl)
end Go.Proofs.YtbbflenaeihmeaaDoor
