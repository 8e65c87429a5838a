/-
  Walks: Check, CheckAll, Standing.
-/
import Derived.Test.YtbbflenaeihmeaaDoorP9
set_option linter.unusedVariables false
set_option linter.unusedSimpArgs false
set_option maxRecDepth 10000
set_option maxHeartbeats 4000000
namespace Go.Proofs.YtbbflenaeihmeaaDoor
open Go Go.RowKit

def chF (off : List ByteArray) : List Ru → Nat → Bool
  | [], _ => true
  | r :: l, i => (decide (r.kindNo = (i : Int)) && resolvedB off r.expr) && chF off l (i + 1)
def checkE (p : Po) : Int := if errOf p = 0 then (if (chF p.offices p.rules 0 && resolvedB p.offices p.change) = true then 0 else 200) else errOf p
def okV (x : Ve) (last : Int) : Bool := ((withinB x.no (last + 1) 1048576 && withinB x.at_ 0 1099511627775) && withinB x.known 0 1099511627775) && decide (checkE x.policy = 0)
def allF : List Ve → Int → Bool
  | [], _ => true
  | x :: l, last => okV x last && allF l x.no
def allE (l : List Ve) : Int := if 256 < (l.length : Int) then 2 else if allF l (-1) = true then 0 else 200
def stStep (at_ kn : Int) (s : Int × Int × Bool) (x : Ve) : Int × Int × Bool := if ((decide (x.at_ ≤ at_) && decide (x.known ≤ kn)) && (!s.2.2 || decide (s.2.1 ≤ x.at_))) = true then (x.no, x.at_, true) else s
def standE (l : List Ve) (at_ kn : Int) : Int × Bool × Int :=
  if allE l = 0 then (if (withinB at_ 0 1099511627775 && withinB kn 0 1099511627775) = true then (((l.foldl (stStep at_ kn) (0, 0, false)).1, (l.foldl (stStep at_ kn) (0, 0, false)).2.2, 0)) else (0, false, 1)) else (0, false, allE l)
theorem chF_step {off : List ByteArray} {l : List Ru} {i : Nat} {r : Ru} (hr : l[i]? = some r) : chF off (l.drop i) i = ((decide (r.kindNo = (i : Int)) && resolvedB off r.expr) && chF off (l.drop (i + 1)) (i + 1)) := by rw [drop_some hr, chF]
theorem allF_step {l : List Ve} {i : Nat} {x : Ve} {last : Int} (hx : l[i]? = some x) : allF (l.drop i) last = (okV x last && allF (l.drop (i + 1)) x.no) := by rw [drop_some hx, allF]
theorem or4 {a b c d : Bool} (h : (((!a || !b) || !c) || !d) = true) : (((a && b) && c) && d) = false := by
  cases a <;> cases b <;> cases c <;> cases d <;> first | rfl | cases h
theorem or4n {a b c d : Bool} (h : (((!a || !b) || !c) || !d) = false) : (((a && b) && c) && d) = true := by
  cases a <;> cases b <;> cases c <;> cases d <;> first | rfl | cases h
theorem or2 {a b : Bool} (h : (!a || !b) = true) : (a && b) = false := by
  cases a <;> cases b <;> first | rfl | cases h
theorem or2n {a b : Bool} (h : (!a || !b) = false) : (a && b) = true := by
  cases a <;> cases b <;> first | rfl | cases h
theorem within_of {n a b : Int} (h : withinB n a b = true) : a ≤ n ∧ n ≤ b := by
  simpa [withinB] using h
theorem size_in {p : Po} {x : Ex} (h : sizesB p = true) (hx : x ∈ exprs p) : sizeB x = true := by
  simp only [sizesB, Bool.and_eq_true] at h
  exact List.all_eq_true.1 h.2 x hx
theorem Check_c {B I L w} (H : Hp B I w L) {p : Po} {us : List Value} (hp : RepL I (encPo p) us) (hkd : At I 0 0 kindsV) : Calls Tryd.prog 22 #[.agg us.toArray] w (Rt fun r w' => r = .int .i64 (checkE p) ∧ Hp B I w' L) := by
  have hp0 := hp
  obtain ⟨v1, v2, v3, v4, rfl, hpn, hpk, hpo, hpr, hck, hcn, hcno, hcs, hcl, hpm⟩ := po_iff.1 hp
  obtain ⟨Ak, ck, rfl, hckl, hckm, hpk⟩ := RepS.open_ hpk
  obtain ⟨Ao, co, rfl, hcol, hcom, hpo⟩ := RepS.open_ hpo
  obtain ⟨Ar, cr, rfl, hcrl, hcrm, hpr⟩ := RepS.open_ hpr
  obtain ⟨Ac, cc, rfl, hccl, hccm, hcl⟩ := RepS.open_ hcl
  refine calls_st (n := 40) Tryd.func22 rfl rfl rfl ?_
  intro G bF cs hb hfn hR hP
  simp only [ini]
  refine st_seq ?_
  refine st_region ?_
  refine sr_op rfl rfl (ow_box H (v := .agg #[.string p.name, .slice Ak p.kinds.length ck, .slice Ao p.offices.length co, .slice Ar p.rules.length cr, .int .i64 p.change.kind, .int .i64 p.change.n, .int .i64 p.change.no, .string p.change.name, .slice Ac p.change.l.length cc, .int .i64 p.mode]) rfl [.string p.name, .slice Ak p.kinds.length ck, .slice Ao p.offices.length co, .slice Ar p.rules.length cr, .int .i64 p.change.kind, .int .i64 p.change.n, .int .i64 p.change.no, .string p.change.name, .slice Ac p.change.l.length cc, .int .i64 p.mode] rfl (fun g1 _ H => ?_))
  refine sr_op rfl rfl (ow_assign (v := .int .i64 0) rfl ?_)
  refine sr_nil ?_
  refine st_seq ?_
  refine st_seq ?_
  refine st_region ?_
  refine sr_op rfl rfl (ow_load (v := .agg #[.string p.name, .slice Ak p.kinds.length ck, .slice Ao p.offices.length co, .slice Ar p.rules.length cr, .int .i64 p.change.kind, .int .i64 p.change.n, .int .i64 p.change.no, .string p.change.name, .slice Ac p.change.l.length cc, .int .i64 p.mode]) ty28 H rfl 0 rfl rfl rfl rfl ?_)
  refine sr_op rfl rfl (ow_call en19 rfl (Resolve_c H hp0 hkd) ?_)
  rintro _ _ ⟨I9, us9, hI9, H, rfl, _⟩
  have H := H.back hI9
  refine sr_op rfl rfl (ow_move (v := .tuple #[.agg us9.toArray, .int .i64 (errOf p)]) rfl ?_)
  refine sr_op rfl rfl (ow_extract (v := .agg us9.toArray) rfl rfl ?_)
  refine sr_op rfl rfl (ow_extract (v := .int .i64 (errOf p)) rfl rfl ?_)
  refine sr_op rfl rfl (ow_assign (v := .int .i64 (errOf p)) rfl ?_)
  refine sr_nil ?_
  refine st_seq ?_
  refine st_region ?_
  refine sr_op rfl rfl (ow_move (v := .int .i64 (errOf p)) rfl ?_)
  refine sr_op rfl rfl (ow_neq rfl rfl ?_)
  refine sr_nil ?_
  refine st_cond (!decide (errOf p = 0)) rfl (fun hc2 => ?_) (fun hc2 => ?_)
  · have hne := of_decide_eq_false (bnt hc2)
    refine st_seq ?_
    refine st_region ?_
    refine sr_op rfl rfl (ow_move (v := .int .i64 (errOf p)) rfl ?_)
    refine sr_op rfl rfl (ow_assign (v := .int .i64 (errOf p)) rfl ?_)
    refine sr_nil ?_
    refine st_ret hb (hR _ _ (.int .i64 (errOf p)) (res_run (vs := [.int .i64 (errOf p)]) Tryd.results22 ⟨_, _, rfl, rfl, rfl⟩) ?_)
    exact ⟨_, rfl, by rw [checkE, if_neg hne], H.drop 1⟩
  · have hok := of_decide_eq_true (bnf hc2)
    obtain ⟨hs1, hs2, hs3⟩ := err_ok hok
    obtain ⟨hlo, hlk, hlr⟩ := sizes_len hs1
    refine st_skip ?_
    refine st_seq ?_
    refine st_seq ?_
    refine st_region ?_
    refine sr_op rfl rfl (ow_fieldAddr fd28_3 ty23 rfl rfl (r := 3) rfl ?_)
    refine sr_op rfl rfl (ow_load (v := .slice Ar p.rules.length cr) ty23 H rfl 0 rfl rfl rfl rfl ?_)
    refine sr_op rfl rfl (ow_lenS sl23 rfl rfl ?_)
    refine sr_op rfl rfl (ow_move (v := .int .i64 0) rfl ?_)
    refine sr_nil ?_
    refine st_block ?_
    refine st_loop ?_
    refine st_live [1, 14, 15, 16] ?_
    refine st_ind (fun d_ m_ w_ => ∃ (i : Nat) (r_ : Sl), d_ = p.rules.length - i ∧ m_ = (1, .pointer (some ⟨g1, 0, none⟩)) :: (14, .slice Ar p.rules.length cr) :: (15, .int .i64 (p.rules.length : Int)) :: (16, .int .i64 (i : Int)) :: r_ ∧ Hp B I w_ ((g1, Ob [.string p.name, .slice Ak p.kinds.length ck, .slice Ao p.offices.length co, .slice Ar p.rules.length cr, .int .i64 p.change.kind, .int .i64 p.change.n, .int .i64 p.change.no, .string p.change.name, .slice Ac p.change.l.length cc, .int .i64 p.mode] 28) :: L) ∧ i ≤ p.rules.length ∧ chF p.offices p.rules 0 = chF p.offices (p.rules.drop i) i) _ ⟨0, _, rfl, rfl, H, Nat.zero_le _, rfl⟩ ?_
    rintro _ _ _ ⟨i, r3, rfl, rfl, H, hi, ha⟩ ih4
    refine st_seq ?_
    refine st_region ?_
    refine sr_op rfl rfl (ow_lss rfl rfl ?_)
    refine sr_nil ?_
    refine st_seq ?_
    refine st_cond (decide ((i : Int) < (p.rules.length : Int))) rfl (fun hc5 => ?_) (fun hc5 => ?_)
    · have hc5 := of_decide_eq_true hc5
      refine st_skip ?_
      refine st_seq ?_
      refine st_block ?_
      refine st_seq ?_
      refine st_region ?_
      refine sr_op rfl rfl (ow_move (v := .int .i64 (i : Int)) rfl ?_)
      obtain ⟨r6, he6⟩ : ∃ q_, p.rules[i]? = some q_ := ⟨_, List.getElem?_eq_getElem (by omega)⟩
      obtain ⟨b6, o6, us6, hA6, hat6, hul6, hr6⟩ := RepS.get hpr he6
      obtain ⟨v6, rfl, r6K, r6Kn, r6Th, r6k, r6n, r6o, r6s, r6l⟩ := ru_iff.1 hr6
      obtain ⟨A6, c6, rfl, r6c, r6m, r6l⟩ := RepS.open_ r6l
      refine sr_op rfl rfl (ow_indexAddrA sl23 ty43 hA6 rfl rfl (by omega) (by omega) (r := o6 + i * 8) rfl ?_)
      refine sr_op rfl rfl (ow_loadI (v := .agg #[.string r6.kind, .int .i64 r6.kindNo, .int .i64 r6.think, .int .i64 r6.expr.kind, .int .i64 r6.expr.n, .int .i64 r6.expr.no, .string r6.expr.name, .slice A6 r6.expr.l.length c6]) ty43 H rfl hat6 rfl rfl rfl ?_)
      refine sr_op rfl rfl (ow_alloc ty43 H [.string ⟨#[]⟩, .int .i64 0, .int .i64 0, .int .i64 0, .int .i64 0, .int .i64 0, .string ⟨#[]⟩, .slice none 0 0] rfl (fun g7 _ H => ?_))
      refine sr_op rfl rfl (ow_assign (v := .int .i64 (i : Int)) rfl ?_)
      refine sr_op rfl rfl (ow_store ty43 H rfl (v := .agg #[.string r6.kind, .int .i64 r6.kindNo, .int .i64 r6.think, .int .i64 r6.expr.kind, .int .i64 r6.expr.n, .int .i64 r6.expr.no, .string r6.expr.name, .slice A6 r6.expr.l.length c6]) rfl [.string r6.kind, .int .i64 r6.kindNo, .int .i64 r6.think, .int .i64 r6.expr.kind, .int .i64 r6.expr.n, .int .i64 r6.expr.no, .string r6.expr.name, .slice A6 r6.expr.l.length c6] rfl rfl rfl 0 rfl rfl (fun _ H => ?_))
      refine sr_nil ?_
      refine st_seq ?_
      refine st_region ?_
      refine sr_op rfl rfl (ow_fieldAddr fd43_1 ty3 rfl rfl (r := 1) rfl ?_)
      refine sr_op rfl rfl (ow_load (v := .int .i64 r6.kindNo) ty3 H rfl 0 rfl rfl rfl rfl ?_)
      refine sr_op rfl rfl (ow_move (v := .int .i64 (i : Int)) rfl ?_)
      refine sr_op rfl rfl (ow_neq rfl rfl ?_)
      refine sr_op rfl rfl (ow_move (v := .bool (!decide (r6.kindNo = (i : Int)))) rfl ?_)
      refine sr_cut 7 (fun m_ w_ => ∃ (r_ : Sl) (v_ : Bool), m_ = (32, .bool v_) :: (1, .pointer (some ⟨g1, 0, none⟩)) :: (14, .slice Ar p.rules.length cr) :: (15, .int .i64 (p.rules.length : Int)) :: (16, .int .i64 (i : Int)) :: r_ ∧ Hp B I w_ ((g7, Ob [.string r6.kind, .int .i64 r6.kindNo, .int .i64 r6.think, .int .i64 r6.expr.kind, .int .i64 r6.expr.n, .int .i64 r6.expr.no, .string r6.expr.name, .slice A6 r6.expr.l.length c6] 43) :: (g1, Ob [.string p.name, .slice Ak p.kinds.length ck, .slice Ao p.offices.length co, .slice Ar p.rules.length cr, .int .i64 p.change.kind, .int .i64 p.change.n, .int .i64 p.change.no, .string p.change.name, .slice Ac p.change.l.length cc, .int .i64 p.mode] 28) :: L) ∧ v_ = ((!decide (r6.kindNo = (i : Int))) || (!(resolvedB p.offices r6.expr)))) (fun again => ?_) ?_
      · rcases hg : !decide (r6.kindNo = (i : Int)) with _ | _
        · refine sr_want rfl (j := 4) (d := 25) rfl rfl rfl (v := false) rfl rfl (ow_fieldAddr fd28_2 ty22 rfl rfl (r := 2) rfl ?_)
          refine sr_want rfl (j := 4) (d := 25) rfl rfl rfl (v := false) rfl rfl (ow_load (v := .slice Ao p.offices.length co) ty22 H rfl 1 rfl rfl rfl rfl ?_)
          refine sr_want rfl (j := 4) (d := 25) rfl rfl rfl (v := false) rfl rfl (ow_fieldAddr fd43_3 ty26 rfl rfl (r := 3) rfl ?_)
          refine sr_want rfl (j := 4) (d := 25) rfl rfl rfl (v := false) rfl rfl (ow_load (v := .agg #[.int .i64 r6.expr.kind, .int .i64 r6.expr.n, .int .i64 r6.expr.no, .string r6.expr.name, .slice A6 r6.expr.l.length c6]) ty26 H rfl 0 rfl rfl rfl rfl ?_)
          refine sr_want rfl (j := 4) (d := 25) rfl rfl rfl (v := false) rfl rfl (ow_call en68 rfl (resolved_c H hpo (x := r6.expr) (ex_iff.2 ⟨_, rfl, r6k, r6n, r6o, r6s, r6l⟩) (size_in hs1 (rule_in he6))) ?_)
          rintro _ _ ⟨rfl, I8, hI8, H⟩
          have H := H.back hI8
          refine sr_want rfl (j := 4) (d := 25) rfl rfl rfl (v := false) rfl rfl (ow_not rfl ?_)
          refine sr_op rfl rfl (ow_pick (v := .bool (!(resolvedB p.offices r6.expr))) rfl rfl ?_)
          exact sr_live [32, 1, 14, 15, 16] (again _ _ ⟨_, _, rfl, H, by rw [hg] <;> rfl⟩)
        · refine sr_pass rfl (j := 4) (d := 25) rfl rfl rfl (u := true) (v := false) rfl rfl ?_
          refine sr_pass rfl (j := 4) (d := 25) rfl rfl rfl (u := true) (v := false) rfl rfl ?_
          refine sr_pass rfl (j := 4) (d := 25) rfl rfl rfl (u := true) (v := false) rfl rfl ?_
          refine sr_pass rfl (j := 4) (d := 25) rfl rfl rfl (u := true) (v := false) rfl rfl ?_
          refine sr_pass rfl (j := 4) (d := 25) rfl rfl rfl (u := true) (v := false) rfl rfl ?_
          refine sr_pass rfl (j := 4) (d := 25) rfl rfl rfl (u := true) (v := false) rfl rfl ?_
          refine sr_op rfl rfl (ow_pick (v := .bool true) rfl rfl ?_)
          exact sr_live [32, 1, 14, 15, 16] (again _ _ ⟨_, _, rfl, H, by rw [hg] <;> rfl⟩)
      rintro _ _ ⟨r, _, rfl, H, rfl⟩
      refine sr_nil ?_
      refine st_cond ((!decide (r6.kindNo = (i : Int))) || (!(resolvedB p.offices r6.expr))) rfl (fun hc9 => ?_) (fun hc9 => ?_)
      · refine st_seq ?_
        refine st_region ?_
        refine sr_op rfl rfl (ow_assign (v := .int .i64 200) rfl ?_)
        refine sr_nil ?_
        refine st_ret hb (hR _ _ (.int .i64 200) (res_run (vs := [.int .i64 200]) Tryd.results22 ⟨_, _, rfl, rfl, rfl⟩) ?_)
        exact ⟨_, rfl, by rw [checkE, if_pos hok, ha, chF_step he6, or2 hc9]; rfl, H.drop 2⟩
      · refine st_skip ?_
        refine st_inBlock ?_
        refine st_region ?_
        refine sr_op rfl rfl (ow_add (r := ((i + 1 : Nat) : Int)) rfl rfl (inc_i64 (by omega)) ?_)
        refine sr_op rfl rfl (ow_move (v := .int .i64 ((i + 1 : Nat) : Int)) rfl ?_)
        refine sr_nil ?_
        exact st_inLoop (st_live [1, 14, 15, 16] (ih4 _ _ _ (by omega) ⟨i + 1, _, rfl, rfl, H.drop 1, by omega, by rw [ha, chF_step he6, or2n hc9, Bool.true_and]⟩))
    · have hc5 := of_decide_eq_false hc5
      refine st_exit rfl ?_
      refine st_seq ?_
      refine st_seq ?_
      refine st_region ?_
      refine sr_op rfl rfl (ow_fieldAddr fd28_2 ty22 rfl rfl (r := 2) rfl ?_)
      refine sr_op rfl rfl (ow_load (v := .slice Ao p.offices.length co) ty22 H rfl 0 rfl rfl rfl rfl ?_)
      refine sr_op rfl rfl (ow_fieldAddr fd28_4 ty26 rfl rfl (r := 4) rfl ?_)
      refine sr_op rfl rfl (ow_load (v := .agg #[.int .i64 p.change.kind, .int .i64 p.change.n, .int .i64 p.change.no, .string p.change.name, .slice Ac p.change.l.length cc]) ty26 H rfl 0 rfl rfl rfl rfl ?_)
      refine sr_op rfl rfl (ow_call en68 rfl (resolved_c H hpo (x := p.change) (ex_iff.2 ⟨_, rfl, hck, hcn, hcno, hcs, hcl⟩) (size_in hs1 change_in)) ?_)
      rintro _ _ ⟨rfl, I10, hI10, H⟩
      have H := H.back hI10
      refine sr_op rfl rfl (ow_not rfl ?_)
      refine sr_nil ?_
      refine st_cond (!(resolvedB p.offices p.change)) rfl (fun hc11 => ?_) (fun hc11 => ?_)
      · refine st_seq ?_
        refine st_region ?_
        refine sr_op rfl rfl (ow_assign (v := .int .i64 200) rfl ?_)
        refine sr_nil ?_
        refine st_ret hb (hR _ _ (.int .i64 200) (res_run (vs := [.int .i64 200]) Tryd.results22 ⟨_, _, rfl, rfl, rfl⟩) ?_)
        have ht : chF p.offices p.rules 0 = true := by rw [ha, List.drop_of_length_le (by omega)]; rfl
        exact ⟨_, rfl, by rw [checkE, if_pos hok, ht, bnt hc11]; rfl, H.drop 1⟩
      · refine st_skip ?_
        refine st_seq ?_
        refine st_region ?_
        refine sr_op rfl rfl (ow_assign (v := .int .i64 0) rfl ?_)
        refine sr_nil ?_
        refine st_ret hb (hR _ _ (.int .i64 0) (res_run (vs := [.int .i64 0]) Tryd.results22 ⟨_, _, rfl, rfl, rfl⟩) ?_)
        have ht : chF p.offices p.rules 0 = true := by rw [ha, List.drop_of_length_le (by omega)]; rfl
        exact ⟨_, rfl, by rw [checkE, if_pos hok, ht, bnf hc11]; rfl, H.drop 1⟩
theorem and4 {a b c d : Bool} (h : (((a && b) && c) && d) = true) : a = true := by
  cases a <;> simp_all
theorem CheckAll_c {B I L w} (H : Hp B I w L) {l : List Ve} {v : Value} (hl : RepS encVe I 13 l v) (hkd : At I 0 0 kindsV) : Calls Tryd.prog 27 #[v] w (Rt fun r w' => r = .int .i64 (allE l) ∧ Hp B I w' L) := by
  obtain ⟨A, c, rfl, hlc, hcm, hl⟩ := hl.open_
  refine calls_st (n := 42) Tryd.func27 rfl rfl rfl ?_
  intro G bF cs hb hfn hR hP
  simp only [ini]
  refine st_seq ?_
  refine st_region ?_
  refine sr_op rfl rfl (ow_assign (v := .int .i64 0) rfl ?_)
  refine sr_nil ?_
  refine st_seq ?_
  refine st_seq ?_
  refine st_region ?_
  refine sr_op rfl rfl (ow_move (v := .slice A l.length c) rfl ?_)
  refine sr_op rfl rfl (ow_lenS sl36 rfl rfl ?_)
  refine sr_op rfl rfl (ow_gtr rfl rfl ?_)
  refine sr_nil ?_
  refine st_cond (decide (256 < (l.length : Int))) rfl (fun hc1 => ?_) (fun hc1 => ?_)
  · refine st_seq ?_
    refine st_region ?_
    refine sr_op rfl rfl (ow_assign (v := .int .i64 2) rfl ?_)
    refine sr_nil ?_
    refine st_ret hb (hR _ _ (.int .i64 2) (res_run (vs := [.int .i64 2]) Tryd.results27 ⟨_, _, rfl, rfl, rfl⟩) ?_)
    exact ⟨_, rfl, by rw [allE, if_pos (of_decide_eq_true hc1)], H.drop 0⟩
  · refine st_skip ?_
    refine st_seq ?_
    refine st_region ?_
    refine sr_op rfl rfl (ow_assign (v := .int .i64 (-1)) rfl ?_)
    refine sr_nil ?_
    refine st_seq ?_
    refine st_seq ?_
    refine st_region ?_
    refine sr_op rfl rfl (ow_move (v := .slice A l.length c) rfl ?_)
    refine sr_op rfl rfl (ow_lenS sl36 rfl rfl ?_)
    refine sr_op rfl rfl (ow_move (v := .int .i64 0) rfl ?_)
    refine sr_nil ?_
    refine st_block ?_
    refine st_loop ?_
    refine st_live [3, 9, 10, 11] ?_
    refine st_ind (fun d_ m_ w_ => ∃ (i : Nat) (la : Int) (r_ : Sl), d_ = l.length - i ∧ m_ = (3, .int .i64 la) :: (9, .slice A l.length c) :: (10, .int .i64 (l.length : Int)) :: (11, .int .i64 (i : Int)) :: r_ ∧ Hp B I w_ (L) ∧ i ≤ l.length ∧ -1 ≤ la ∧ la ≤ 1048576 ∧ allF l (-1) = allF (l.drop i) la) _ ⟨0, -1, _, rfl, rfl, H, Nat.zero_le _, by omega, by omega, rfl⟩ ?_
    rintro _ _ _ ⟨i, la, r2, rfl, rfl, H, hi, hla1, hla2, ha⟩ ih3
    refine st_seq ?_
    refine st_region ?_
    refine sr_op rfl rfl (ow_lss rfl rfl ?_)
    refine sr_nil ?_
    refine st_seq ?_
    refine st_cond (decide ((i : Int) < (l.length : Int))) rfl (fun hc4 => ?_) (fun hc4 => ?_)
    · have hc4 := of_decide_eq_true hc4
      refine st_skip ?_
      refine st_seq ?_
      refine st_block ?_
      refine st_seq ?_
      refine st_region ?_
      obtain ⟨x5, he5⟩ : ∃ q_, l[i]? = some q_ := ⟨_, List.getElem?_eq_getElem (by omega)⟩
      obtain ⟨b5, o5, us5, hA5, hat5, hul5, hr5⟩ := RepS.get hl he5
      obtain ⟨vs5, rfl, x5no, x5at, x5kn, x5p⟩ := ve_iff.1 hr5
      have x5p0 := x5p
      obtain ⟨v15, v25, v35, v45, rfl, x5pn, x5k, x5o, x5r, x5ck, x5cn, x5cno, x5cs, x5cl, x5pm⟩ := po_iff.1 x5p
      obtain ⟨Ak5, ck5, rfl, x5kA, x5kB, x5k⟩ := RepS.open_ x5k
      obtain ⟨Ao5, co5, rfl, x5oA, x5oB, x5o⟩ := RepS.open_ x5o
      obtain ⟨Ar5, cr5, rfl, x5rA, x5rB, x5r⟩ := RepS.open_ x5r
      obtain ⟨Acl5, ccl5, rfl, x5clA, x5clB, x5cl⟩ := RepS.open_ x5cl
      refine sr_op rfl rfl (ow_indexAddrA sl36 ty52 hA5 rfl rfl (by omega) (by omega) (r := o5 + i * 13) rfl ?_)
      refine sr_op rfl rfl (ow_loadI (v := .agg #[.int .i64 x5.no, .int .i64 x5.at_, .int .i64 x5.known, .string x5.policy.name, .slice Ak5 x5.policy.kinds.length ck5, .slice Ao5 x5.policy.offices.length co5, .slice Ar5 x5.policy.rules.length cr5, .int .i64 x5.policy.change.kind, .int .i64 x5.policy.change.n, .int .i64 x5.policy.change.no, .string x5.policy.change.name, .slice Acl5 x5.policy.change.l.length ccl5, .int .i64 x5.policy.mode]) ty52 H rfl hat5 rfl rfl rfl ?_)
      refine sr_op rfl rfl (ow_alloc ty52 H [.int .i64 0, .int .i64 0, .int .i64 0, .string ⟨#[]⟩, .slice none 0 0, .slice none 0 0, .slice none 0 0, .int .i64 0, .int .i64 0, .int .i64 0, .string ⟨#[]⟩, .slice none 0 0, .int .i64 0] rfl (fun g6 _ H => ?_))
      refine sr_op rfl rfl (ow_store ty52 H rfl (v := .agg #[.int .i64 x5.no, .int .i64 x5.at_, .int .i64 x5.known, .string x5.policy.name, .slice Ak5 x5.policy.kinds.length ck5, .slice Ao5 x5.policy.offices.length co5, .slice Ar5 x5.policy.rules.length cr5, .int .i64 x5.policy.change.kind, .int .i64 x5.policy.change.n, .int .i64 x5.policy.change.no, .string x5.policy.change.name, .slice Acl5 x5.policy.change.l.length ccl5, .int .i64 x5.policy.mode]) rfl [.int .i64 x5.no, .int .i64 x5.at_, .int .i64 x5.known, .string x5.policy.name, .slice Ak5 x5.policy.kinds.length ck5, .slice Ao5 x5.policy.offices.length co5, .slice Ar5 x5.policy.rules.length cr5, .int .i64 x5.policy.change.kind, .int .i64 x5.policy.change.n, .int .i64 x5.policy.change.no, .string x5.policy.change.name, .slice Acl5 x5.policy.change.l.length ccl5, .int .i64 x5.policy.mode] rfl rfl rfl 0 rfl rfl (fun _ H => ?_))
      refine sr_nil ?_
      refine st_seq ?_
      refine st_seq ?_
      refine st_region ?_
      refine sr_op rfl rfl (ow_fieldAddr fd52_0 ty3 rfl rfl (r := 0) rfl ?_)
      refine sr_op rfl rfl (ow_load (v := .int .i64 x5.no) ty3 H rfl 0 rfl rfl rfl rfl ?_)
      refine sr_op rfl rfl (ow_move (v := .int .i64 la) rfl ?_)
      refine sr_op rfl rfl (ow_add (r := la + 1) rfl rfl (wrap_i64 (by omega) (by omega)) ?_)
      refine sr_op rfl rfl (ow_call en69 rfl (within_c H x5.no (la + 1) 1048576) ?_)
      rintro _ _ ⟨rfl, H⟩
      refine sr_op rfl rfl (ow_not rfl ?_)
      refine sr_op rfl rfl (ow_move (v := .bool (!(withinB x5.no (la + 1) 1048576))) rfl ?_)
      refine sr_cut 5 (fun m_ w_ => ∃ (r_ : Sl) (v_ : Bool), m_ = (26, .bool v_) :: (5, .pointer (some ⟨g6, 0, none⟩)) :: (9, .slice A l.length c) :: (10, .int .i64 (l.length : Int)) :: (11, .int .i64 (i : Int)) :: r_ ∧ Hp B I w_ ((g6, Ob [.int .i64 x5.no, .int .i64 x5.at_, .int .i64 x5.known, .string x5.policy.name, .slice Ak5 x5.policy.kinds.length ck5, .slice Ao5 x5.policy.offices.length co5, .slice Ar5 x5.policy.rules.length cr5, .int .i64 x5.policy.change.kind, .int .i64 x5.policy.change.n, .int .i64 x5.policy.change.no, .string x5.policy.change.name, .slice Acl5 x5.policy.change.l.length ccl5, .int .i64 x5.policy.mode] 52) :: L) ∧ v_ = ((!(withinB x5.no (la + 1) 1048576)) || (!(withinB x5.at_ 0 1099511627775)))) (fun again => ?_) ?_
      · rcases hg : !(withinB x5.no (la + 1) 1048576) with _ | _
        · refine sr_want rfl (j := 6) (d := 21) rfl rfl rfl (v := false) rfl rfl (ow_fieldAddr fd52_1 ty3 rfl rfl (r := 1) rfl ?_)
          refine sr_want rfl (j := 6) (d := 21) rfl rfl rfl (v := false) rfl rfl (ow_load (v := .int .i64 x5.at_) ty3 H rfl 0 rfl rfl rfl rfl ?_)
          refine sr_want rfl (j := 6) (d := 21) rfl rfl rfl (v := false) rfl rfl (ow_call en69 rfl (within_c H x5.at_ 0 1099511627775) ?_)
          rintro _ _ ⟨rfl, H⟩
          refine sr_want rfl (j := 6) (d := 21) rfl rfl rfl (v := false) rfl rfl (ow_not rfl ?_)
          refine sr_op rfl rfl (ow_pick (v := .bool (!(withinB x5.at_ 0 1099511627775))) rfl rfl ?_)
          exact sr_live [26, 5, 9, 10, 11] (again _ _ ⟨_, _, rfl, H, by rw [hg] <;> rfl⟩)
        · refine sr_pass rfl (j := 6) (d := 21) rfl rfl rfl (u := true) (v := false) rfl rfl ?_
          refine sr_pass rfl (j := 6) (d := 21) rfl rfl rfl (u := true) (v := false) rfl rfl ?_
          refine sr_pass rfl (j := 6) (d := 21) rfl rfl rfl (u := true) (v := false) rfl rfl ?_
          refine sr_pass rfl (j := 6) (d := 21) rfl rfl rfl (u := true) (v := false) rfl rfl ?_
          refine sr_op rfl rfl (ow_pick (v := .bool true) rfl rfl ?_)
          exact sr_live [26, 5, 9, 10, 11] (again _ _ ⟨_, _, rfl, H, by rw [hg] <;> rfl⟩)
      rintro _ _ ⟨r, _, rfl, H, rfl⟩
      refine sr_op rfl rfl (ow_move (v := .bool ((!(withinB x5.no (la + 1) 1048576)) || (!(withinB x5.at_ 0 1099511627775)))) rfl ?_)
      refine sr_cut 5 (fun m_ w_ => ∃ (r_ : Sl) (v_ : Bool), m_ = (32, .bool v_) :: (5, .pointer (some ⟨g6, 0, none⟩)) :: (9, .slice A l.length c) :: (10, .int .i64 (l.length : Int)) :: (11, .int .i64 (i : Int)) :: r_ ∧ Hp B I w_ ((g6, Ob [.int .i64 x5.no, .int .i64 x5.at_, .int .i64 x5.known, .string x5.policy.name, .slice Ak5 x5.policy.kinds.length ck5, .slice Ao5 x5.policy.offices.length co5, .slice Ar5 x5.policy.rules.length cr5, .int .i64 x5.policy.change.kind, .int .i64 x5.policy.change.n, .int .i64 x5.policy.change.no, .string x5.policy.change.name, .slice Acl5 x5.policy.change.l.length ccl5, .int .i64 x5.policy.mode] 52) :: L) ∧ v_ = (((!(withinB x5.no (la + 1) 1048576)) || (!(withinB x5.at_ 0 1099511627775))) || (!(withinB x5.known 0 1099511627775)))) (fun again => ?_) ?_
      · rcases hg : (!(withinB x5.no (la + 1) 1048576)) || (!(withinB x5.at_ 0 1099511627775)) with _ | _
        · refine sr_want rfl (j := 12) (d := 27) rfl rfl rfl (v := false) rfl rfl (ow_fieldAddr fd52_2 ty3 rfl rfl (r := 2) rfl ?_)
          refine sr_want rfl (j := 12) (d := 27) rfl rfl rfl (v := false) rfl rfl (ow_load (v := .int .i64 x5.known) ty3 H rfl 0 rfl rfl rfl rfl ?_)
          refine sr_want rfl (j := 12) (d := 27) rfl rfl rfl (v := false) rfl rfl (ow_call en69 rfl (within_c H x5.known 0 1099511627775) ?_)
          rintro _ _ ⟨rfl, H⟩
          refine sr_want rfl (j := 12) (d := 27) rfl rfl rfl (v := false) rfl rfl (ow_not rfl ?_)
          refine sr_op rfl rfl (ow_pick (v := .bool (!(withinB x5.known 0 1099511627775))) rfl rfl ?_)
          exact sr_live [32, 5, 9, 10, 11] (again _ _ ⟨_, _, rfl, H, by rw [hg] <;> rfl⟩)
        · refine sr_pass rfl (j := 12) (d := 27) rfl rfl rfl (u := true) (v := false) rfl rfl ?_
          refine sr_pass rfl (j := 12) (d := 27) rfl rfl rfl (u := true) (v := false) rfl rfl ?_
          refine sr_pass rfl (j := 12) (d := 27) rfl rfl rfl (u := true) (v := false) rfl rfl ?_
          refine sr_pass rfl (j := 12) (d := 27) rfl rfl rfl (u := true) (v := false) rfl rfl ?_
          refine sr_op rfl rfl (ow_pick (v := .bool true) rfl rfl ?_)
          exact sr_live [32, 5, 9, 10, 11] (again _ _ ⟨_, _, rfl, H, by rw [hg] <;> rfl⟩)
      rintro _ _ ⟨r, _, rfl, H, rfl⟩
      refine sr_op rfl rfl (ow_move (v := .bool (((!(withinB x5.no (la + 1) 1048576)) || (!(withinB x5.at_ 0 1099511627775))) || (!(withinB x5.known 0 1099511627775)))) rfl ?_)
      refine sr_cut 5 (fun m_ w_ => ∃ (r_ : Sl) (v_ : Bool), m_ = (38, .bool v_) :: (5, .pointer (some ⟨g6, 0, none⟩)) :: (9, .slice A l.length c) :: (10, .int .i64 (l.length : Int)) :: (11, .int .i64 (i : Int)) :: r_ ∧ Hp B I w_ ((g6, Ob [.int .i64 x5.no, .int .i64 x5.at_, .int .i64 x5.known, .string x5.policy.name, .slice Ak5 x5.policy.kinds.length ck5, .slice Ao5 x5.policy.offices.length co5, .slice Ar5 x5.policy.rules.length cr5, .int .i64 x5.policy.change.kind, .int .i64 x5.policy.change.n, .int .i64 x5.policy.change.no, .string x5.policy.change.name, .slice Acl5 x5.policy.change.l.length ccl5, .int .i64 x5.policy.mode] 52) :: L) ∧ v_ = ((((!(withinB x5.no (la + 1) 1048576)) || (!(withinB x5.at_ 0 1099511627775))) || (!(withinB x5.known 0 1099511627775))) || (!decide (checkE x5.policy = 0)))) (fun again => ?_) ?_
      · rcases hg : ((!(withinB x5.no (la + 1) 1048576)) || (!(withinB x5.at_ 0 1099511627775))) || (!(withinB x5.known 0 1099511627775)) with _ | _
        · refine sr_want rfl (j := 18) (d := 33) rfl rfl rfl (v := false) rfl rfl (ow_fieldAddr fd52_3 ty28 rfl rfl (r := 3) rfl ?_)
          refine sr_want rfl (j := 18) (d := 33) rfl rfl rfl (v := false) rfl rfl (ow_load (v := .agg #[.string x5.policy.name, .slice Ak5 x5.policy.kinds.length ck5, .slice Ao5 x5.policy.offices.length co5, .slice Ar5 x5.policy.rules.length cr5, .int .i64 x5.policy.change.kind, .int .i64 x5.policy.change.n, .int .i64 x5.policy.change.no, .string x5.policy.change.name, .slice Acl5 x5.policy.change.l.length ccl5, .int .i64 x5.policy.mode]) ty28 H rfl 0 rfl rfl rfl rfl ?_)
          refine sr_want rfl (j := 18) (d := 33) rfl rfl rfl (v := false) rfl rfl (ow_call en22 rfl (Check_c H x5p0 hkd) ?_)
          rintro _ _ ⟨rfl, H⟩
          refine sr_want rfl (j := 18) (d := 33) rfl rfl rfl (v := false) rfl rfl (ow_neq rfl rfl ?_)
          refine sr_op rfl rfl (ow_pick (v := .bool (!decide (checkE x5.policy = 0))) rfl rfl ?_)
          exact sr_live [38, 5, 9, 10, 11] (again _ _ ⟨_, _, rfl, H, by rw [hg] <;> rfl⟩)
        · refine sr_pass rfl (j := 18) (d := 33) rfl rfl rfl (u := true) (v := false) rfl rfl ?_
          refine sr_pass rfl (j := 18) (d := 33) rfl rfl rfl (u := true) (v := false) rfl rfl ?_
          refine sr_pass rfl (j := 18) (d := 33) rfl rfl rfl (u := true) (v := false) rfl rfl ?_
          refine sr_pass rfl (j := 18) (d := 33) rfl rfl rfl (u := true) (v := false) rfl rfl ?_
          refine sr_op rfl rfl (ow_pick (v := .bool true) rfl rfl ?_)
          exact sr_live [38, 5, 9, 10, 11] (again _ _ ⟨_, _, rfl, H, by rw [hg] <;> rfl⟩)
      rintro _ _ ⟨r, _, rfl, H, rfl⟩
      refine sr_nil ?_
      refine st_cond ((((!(withinB x5.no (la + 1) 1048576)) || (!(withinB x5.at_ 0 1099511627775))) || (!(withinB x5.known 0 1099511627775))) || (!decide (checkE x5.policy = 0))) rfl (fun hc7 => ?_) (fun hc7 => ?_)
      · refine st_seq ?_
        refine st_region ?_
        refine sr_op rfl rfl (ow_assign (v := .int .i64 200) rfl ?_)
        refine sr_nil ?_
        refine st_ret hb (hR _ _ (.int .i64 200) (res_run (vs := [.int .i64 200]) Tryd.results27 ⟨_, _, rfl, rfl, rfl⟩) ?_)
        exact ⟨_, rfl, by rw [allE, if_neg (of_decide_eq_false hc1), ha, allF_step he5, (show okV x5 la = false from or4 hc7)]; rfl, H.drop 1⟩
      · refine st_skip ?_
        refine st_region ?_
        refine sr_op rfl rfl (ow_fieldAddr fd52_0 ty3 rfl rfl (r := 0) rfl ?_)
        refine sr_op rfl rfl (ow_load (v := .int .i64 x5.no) ty3 H rfl 0 rfl rfl rfl rfl ?_)
        refine sr_op rfl rfl (ow_assign (v := .int .i64 x5.no) rfl ?_)
        refine sr_nil ?_
        refine st_inBlock ?_
        refine st_region ?_
        refine sr_op rfl rfl (ow_add (r := ((i + 1 : Nat) : Int)) rfl rfl (inc_i64 (by omega)) ?_)
        refine sr_op rfl rfl (ow_move (v := .int .i64 ((i + 1 : Nat) : Int)) rfl ?_)
        refine sr_nil ?_
        exact st_inLoop (st_live [3, 9, 10, 11] (ih3 _ _ _ (by omega) ⟨i + 1, x5.no, _, rfl, rfl, H.drop 1, by omega, by have := within_of (and4 (or4n hc7)); omega, by have := within_of (and4 (or4n hc7)); omega, by rw [ha, allF_step he5, (show okV x5 la = true from or4n hc7), Bool.true_and]⟩))
    · have hc4 := of_decide_eq_false hc4
      refine st_exit rfl ?_
      refine st_seq ?_
      refine st_region ?_
      refine sr_op rfl rfl (ow_assign (v := .int .i64 0) rfl ?_)
      refine sr_nil ?_
      refine st_ret hb (hR _ _ (.int .i64 0) (res_run (vs := [.int .i64 0]) Tryd.results27 ⟨_, _, rfl, rfl, rfl⟩) ?_)
      have ht : allF l (-1) = true := by rw [ha, List.drop_of_length_le (by omega)]; rfl
      exact ⟨_, rfl, by rw [allE, if_neg (of_decide_eq_false hc1), ht]; rfl, H.drop 0⟩
theorem Standing_c {B I L w} (H : Hp B I w L) {l : List Ve} {v : Value} (hl : RepS encVe I 13 l v) (hkd : At I 0 0 kindsV) (at_ kn : Int) : Calls Tryd.prog 25 #[v, .int .i64 at_, .int .i64 kn] w (Rt fun r w' => r = .tuple #[.int .i64 (standE l at_ kn).1, .bool (standE l at_ kn).2.1, .int .i64 (standE l at_ kn).2.2] ∧ Hp B I w' L) := by
  obtain ⟨A, c, rfl, hlc, hcm, hl⟩ := hl.open_
  refine calls_st (n := 58) Tryd.func25 rfl rfl rfl ?_
  intro G bF cs hb hfn hR hP
  simp only [ini]
  refine st_seq ?_
  refine st_region ?_
  refine sr_op rfl rfl (ow_assign (v := .int .i64 0) rfl ?_)
  refine sr_op rfl rfl (ow_assign (v := .bool false) rfl ?_)
  refine sr_op rfl rfl (ow_assign (v := .int .i64 0) rfl ?_)
  refine sr_nil ?_
  refine st_seq ?_
  refine st_seq ?_
  refine st_region ?_
  refine sr_op rfl rfl (ow_move (v := .slice A l.length c) rfl ?_)
  refine sr_op rfl rfl (ow_call en27 rfl (CheckAll_c H hl hkd) ?_)
  rintro _ _ ⟨rfl, H⟩
  refine sr_op rfl rfl (ow_assign (v := .int .i64 (allE l)) rfl ?_)
  refine sr_nil ?_
  refine st_seq ?_
  refine st_region ?_
  refine sr_op rfl rfl (ow_move (v := .int .i64 (allE l)) rfl ?_)
  refine sr_op rfl rfl (ow_neq rfl rfl ?_)
  refine sr_nil ?_
  refine st_cond (!decide (allE l = 0)) rfl (fun hc1 => ?_) (fun hc1 => ?_)
  · have hne := of_decide_eq_false (bnt hc1)
    refine st_seq ?_
    refine st_region ?_
    refine sr_op rfl rfl (ow_move (v := .int .i64 (allE l)) rfl ?_)
    refine sr_op rfl rfl (ow_assign (v := .int .i64 0) rfl ?_)
    refine sr_op rfl rfl (ow_assign (v := .bool false) rfl ?_)
    refine sr_op rfl rfl (ow_assign (v := .int .i64 (allE l)) rfl ?_)
    refine sr_nil ?_
    refine st_ret hb (hR _ _ (.tuple #[.int .i64 0, .bool false, .int .i64 (allE l)]) (res_run (vs := [.int .i64 0, .bool false, .int .i64 (allE l)]) Tryd.results25 ⟨_, _, rfl, rfl, ⟨_, _, rfl, rfl, ⟨_, _, rfl, rfl, rfl⟩⟩⟩) ?_)
    exact ⟨_, rfl, by rw [standE, if_neg hne], H.drop 0⟩
  · have hok := of_decide_eq_true (bnf hc1)
    refine st_skip ?_
    refine st_seq ?_
    refine st_seq ?_
    refine st_region ?_
    refine sr_op rfl rfl (ow_move (v := .int .i64 at_) rfl ?_)
    refine sr_op rfl rfl (ow_call en69 rfl (within_c H at_ 0 1099511627775) ?_)
    rintro _ _ ⟨rfl, H⟩
    refine sr_op rfl rfl (ow_not rfl ?_)
    refine sr_op rfl rfl (ow_move (v := .bool (!(withinB at_ 0 1099511627775))) rfl ?_)
    refine sr_cut 4 (fun m_ w_ => ∃ (r_ : Sl) (v_ : Bool), m_ = (24, .bool v_) :: (0, .slice A l.length c) :: (1, .int .i64 at_) :: (2, .int .i64 kn) :: (6, .int .i64 0) :: (7, .bool false) :: (8, .int .i64 (allE l)) :: r_ ∧ Hp B I w_ (L) ∧ v_ = ((!(withinB at_ 0 1099511627775)) || (!(withinB kn 0 1099511627775)))) (fun again => ?_) ?_
    · rcases hg : !(withinB at_ 0 1099511627775) with _ | _
      · refine sr_want rfl (j := 3) (d := 20) rfl rfl rfl (v := false) rfl rfl (ow_move (v := .int .i64 kn) rfl ?_)
        refine sr_want rfl (j := 3) (d := 20) rfl rfl rfl (v := false) rfl rfl (ow_call en69 rfl (within_c H kn 0 1099511627775) ?_)
        rintro _ _ ⟨rfl, H⟩
        refine sr_want rfl (j := 3) (d := 20) rfl rfl rfl (v := false) rfl rfl (ow_not rfl ?_)
        refine sr_op rfl rfl (ow_pick (v := .bool (!(withinB kn 0 1099511627775))) rfl rfl ?_)
        exact sr_live [24, 0, 1, 2, 6, 7, 8] (again _ _ ⟨_, _, rfl, H, by rw [hg] <;> rfl⟩)
      · refine sr_pass rfl (j := 3) (d := 20) rfl rfl rfl (u := true) (v := false) rfl rfl ?_
        refine sr_pass rfl (j := 3) (d := 20) rfl rfl rfl (u := true) (v := false) rfl rfl ?_
        refine sr_pass rfl (j := 3) (d := 20) rfl rfl rfl (u := true) (v := false) rfl rfl ?_
        refine sr_op rfl rfl (ow_pick (v := .bool true) rfl rfl ?_)
        exact sr_live [24, 0, 1, 2, 6, 7, 8] (again _ _ ⟨_, _, rfl, H, by rw [hg] <;> rfl⟩)
    rintro _ _ ⟨r, _, rfl, H, rfl⟩
    refine sr_nil ?_
    refine st_cond ((!(withinB at_ 0 1099511627775)) || (!(withinB kn 0 1099511627775))) rfl (fun hc2 => ?_) (fun hc2 => ?_)
    · refine st_seq ?_
      refine st_region ?_
      refine sr_op rfl rfl (ow_assign (v := .int .i64 0) rfl ?_)
      refine sr_op rfl rfl (ow_assign (v := .bool false) rfl ?_)
      refine sr_op rfl rfl (ow_assign (v := .int .i64 1) rfl ?_)
      refine sr_nil ?_
      refine st_ret hb (hR _ _ (.tuple #[.int .i64 0, .bool false, .int .i64 1]) (res_run (vs := [.int .i64 0, .bool false, .int .i64 1]) Tryd.results25 ⟨_, _, rfl, rfl, ⟨_, _, rfl, rfl, ⟨_, _, rfl, rfl, rfl⟩⟩⟩) ?_)
      exact ⟨_, rfl, by rw [standE, if_pos hok, if_neg (by rw [or2 hc2]; decide)], H.drop 0⟩
    · refine st_skip ?_
      refine st_seq ?_
      refine st_region ?_
      refine sr_op rfl rfl (ow_assign (v := .int .i64 0) rfl ?_)
      refine sr_nil ?_
      refine st_seq ?_
      refine st_seq ?_
      refine st_region ?_
      refine sr_op rfl rfl (ow_move (v := .slice A l.length c) rfl ?_)
      refine sr_op rfl rfl (ow_lenS sl36 rfl rfl ?_)
      refine sr_op rfl rfl (ow_move (v := .int .i64 0) rfl ?_)
      refine sr_nil ?_
      refine st_block ?_
      refine st_loop ?_
      refine st_live [1, 2, 6, 7, 9, 25, 26, 27] ?_
      refine st_ind (fun d_ m_ w_ => ∃ (i : Nat) (no la : Int) (ok : Bool) (r_ : Sl), d_ = l.length - i ∧ m_ = (1, .int .i64 at_) :: (2, .int .i64 kn) :: (6, .int .i64 no) :: (7, .bool ok) :: (9, .int .i64 la) :: (25, .slice A l.length c) :: (26, .int .i64 (l.length : Int)) :: (27, .int .i64 (i : Int)) :: r_ ∧ Hp B I w_ (L) ∧ i ≤ l.length ∧ (no, la, ok) = (l.take i).foldl (stStep at_ kn) (0, 0, false)) _ ⟨0, 0, 0, false, _, rfl, rfl, H, Nat.zero_le _, rfl⟩ ?_
      rintro _ _ _ ⟨i, no, la, ok, r3, rfl, rfl, H, hi, ha⟩ ih4
      refine st_seq ?_
      refine st_region ?_
      refine sr_op rfl rfl (ow_lss rfl rfl ?_)
      refine sr_nil ?_
      refine st_seq ?_
      refine st_cond (decide ((i : Int) < (l.length : Int))) rfl (fun hc5 => ?_) (fun hc5 => ?_)
      · have hc5 := of_decide_eq_true hc5
        refine st_skip ?_
        refine st_seq ?_
        refine st_block ?_
        refine st_seq ?_
        refine st_region ?_
        obtain ⟨x6, he6⟩ : ∃ q_, l[i]? = some q_ := ⟨_, List.getElem?_eq_getElem (by omega)⟩
        obtain ⟨b6, o6, us6, hA6, hat6, hul6, hr6⟩ := RepS.get hl he6
        obtain ⟨vs6, rfl, x6no, x6at, x6kn, x6p⟩ := ve_iff.1 hr6
        have x6p0 := x6p
        obtain ⟨v16, v26, v36, v46, rfl, x6pn, x6k, x6o, x6r, x6ck, x6cn, x6cno, x6cs, x6cl, x6pm⟩ := po_iff.1 x6p
        obtain ⟨Ak6, ck6, rfl, x6kA, x6kB, x6k⟩ := RepS.open_ x6k
        obtain ⟨Ao6, co6, rfl, x6oA, x6oB, x6o⟩ := RepS.open_ x6o
        obtain ⟨Ar6, cr6, rfl, x6rA, x6rB, x6r⟩ := RepS.open_ x6r
        obtain ⟨Acl6, ccl6, rfl, x6clA, x6clB, x6cl⟩ := RepS.open_ x6cl
        refine sr_op rfl rfl (ow_indexAddrA sl36 ty52 hA6 rfl rfl (by omega) (by omega) (r := o6 + i * 13) rfl ?_)
        refine sr_op rfl rfl (ow_loadI (v := .agg #[.int .i64 x6.no, .int .i64 x6.at_, .int .i64 x6.known, .string x6.policy.name, .slice Ak6 x6.policy.kinds.length ck6, .slice Ao6 x6.policy.offices.length co6, .slice Ar6 x6.policy.rules.length cr6, .int .i64 x6.policy.change.kind, .int .i64 x6.policy.change.n, .int .i64 x6.policy.change.no, .string x6.policy.change.name, .slice Acl6 x6.policy.change.l.length ccl6, .int .i64 x6.policy.mode]) ty52 H rfl hat6 rfl rfl rfl ?_)
        refine sr_op rfl rfl (ow_alloc ty52 H [.int .i64 0, .int .i64 0, .int .i64 0, .string ⟨#[]⟩, .slice none 0 0, .slice none 0 0, .slice none 0 0, .int .i64 0, .int .i64 0, .int .i64 0, .string ⟨#[]⟩, .slice none 0 0, .int .i64 0] rfl (fun g7 _ H => ?_))
        refine sr_op rfl rfl (ow_store ty52 H rfl (v := .agg #[.int .i64 x6.no, .int .i64 x6.at_, .int .i64 x6.known, .string x6.policy.name, .slice Ak6 x6.policy.kinds.length ck6, .slice Ao6 x6.policy.offices.length co6, .slice Ar6 x6.policy.rules.length cr6, .int .i64 x6.policy.change.kind, .int .i64 x6.policy.change.n, .int .i64 x6.policy.change.no, .string x6.policy.change.name, .slice Acl6 x6.policy.change.l.length ccl6, .int .i64 x6.policy.mode]) rfl [.int .i64 x6.no, .int .i64 x6.at_, .int .i64 x6.known, .string x6.policy.name, .slice Ak6 x6.policy.kinds.length ck6, .slice Ao6 x6.policy.offices.length co6, .slice Ar6 x6.policy.rules.length cr6, .int .i64 x6.policy.change.kind, .int .i64 x6.policy.change.n, .int .i64 x6.policy.change.no, .string x6.policy.change.name, .slice Acl6 x6.policy.change.l.length ccl6, .int .i64 x6.policy.mode] rfl rfl rfl 0 rfl rfl (fun _ H => ?_))
        refine sr_nil ?_
        refine st_seq ?_
        refine st_region ?_
        refine sr_op rfl rfl (ow_fieldAddr fd52_1 ty3 rfl rfl (r := 1) rfl ?_)
        refine sr_op rfl rfl (ow_load (v := .int .i64 x6.at_) ty3 H rfl 0 rfl rfl rfl rfl ?_)
        refine sr_op rfl rfl (ow_move (v := .int .i64 at_) rfl ?_)
        refine sr_op rfl rfl (ow_leq rfl rfl ?_)
        refine sr_op rfl rfl (ow_move (v := .bool (decide (x6.at_ ≤ at_))) rfl ?_)
        refine sr_cut 5 (fun m_ w_ => ∃ (r_ : Sl) (v_ : Bool), m_ = (40, .bool v_) :: (1, .int .i64 at_) :: (2, .int .i64 kn) :: (6, .int .i64 no) :: (7, .bool ok) :: (9, .int .i64 la) :: (11, .pointer (some ⟨g7, 0, none⟩)) :: (25, .slice A l.length c) :: (26, .int .i64 (l.length : Int)) :: (27, .int .i64 (i : Int)) :: r_ ∧ Hp B I w_ ((g7, Ob [.int .i64 x6.no, .int .i64 x6.at_, .int .i64 x6.known, .string x6.policy.name, .slice Ak6 x6.policy.kinds.length ck6, .slice Ao6 x6.policy.offices.length co6, .slice Ar6 x6.policy.rules.length cr6, .int .i64 x6.policy.change.kind, .int .i64 x6.policy.change.n, .int .i64 x6.policy.change.no, .string x6.policy.change.name, .slice Acl6 x6.policy.change.l.length ccl6, .int .i64 x6.policy.mode] 52) :: L) ∧ v_ = ((decide (x6.at_ ≤ at_)) && (decide (x6.known ≤ kn)))) (fun again => ?_) ?_
        · rcases hg : decide (x6.at_ ≤ at_) with _ | _
          · refine sr_pass rfl (j := 4) (d := 35) rfl rfl rfl (u := false) (v := true) rfl rfl ?_
            refine sr_pass rfl (j := 4) (d := 35) rfl rfl rfl (u := false) (v := true) rfl rfl ?_
            refine sr_pass rfl (j := 4) (d := 35) rfl rfl rfl (u := false) (v := true) rfl rfl ?_
            refine sr_pass rfl (j := 4) (d := 35) rfl rfl rfl (u := false) (v := true) rfl rfl ?_
            refine sr_op rfl rfl (ow_pick (v := .bool false) rfl rfl ?_)
            exact sr_live [40, 1, 2, 6, 7, 9, 11, 25, 26, 27] (again _ _ ⟨_, _, rfl, H, by rw [hg] <;> rfl⟩)
          · refine sr_want rfl (j := 4) (d := 35) rfl rfl rfl (v := true) rfl rfl (ow_fieldAddr fd52_2 ty3 rfl rfl (r := 2) rfl ?_)
            refine sr_want rfl (j := 4) (d := 35) rfl rfl rfl (v := true) rfl rfl (ow_load (v := .int .i64 x6.known) ty3 H rfl 0 rfl rfl rfl rfl ?_)
            refine sr_want rfl (j := 4) (d := 35) rfl rfl rfl (v := true) rfl rfl (ow_move (v := .int .i64 kn) rfl ?_)
            refine sr_want rfl (j := 4) (d := 35) rfl rfl rfl (v := true) rfl rfl (ow_leq rfl rfl ?_)
            refine sr_op rfl rfl (ow_pick (v := .bool (decide (x6.known ≤ kn))) rfl rfl ?_)
            exact sr_live [40, 1, 2, 6, 7, 9, 11, 25, 26, 27] (again _ _ ⟨_, _, rfl, H, by rw [hg] <;> rfl⟩)
        rintro _ _ ⟨r, _, rfl, H, rfl⟩
        refine sr_op rfl rfl (ow_move (v := .bool ((decide (x6.at_ ≤ at_)) && (decide (x6.known ≤ kn)))) rfl ?_)
        refine sr_cut 9 (fun m_ w_ => ∃ (r_ : Sl) (v_ : Bool), m_ = (50, .bool v_) :: (1, .int .i64 at_) :: (2, .int .i64 kn) :: (6, .int .i64 no) :: (7, .bool ok) :: (9, .int .i64 la) :: (11, .pointer (some ⟨g7, 0, none⟩)) :: (25, .slice A l.length c) :: (26, .int .i64 (l.length : Int)) :: (27, .int .i64 (i : Int)) :: r_ ∧ Hp B I w_ ((g7, Ob [.int .i64 x6.no, .int .i64 x6.at_, .int .i64 x6.known, .string x6.policy.name, .slice Ak6 x6.policy.kinds.length ck6, .slice Ao6 x6.policy.offices.length co6, .slice Ar6 x6.policy.rules.length cr6, .int .i64 x6.policy.change.kind, .int .i64 x6.policy.change.n, .int .i64 x6.policy.change.no, .string x6.policy.change.name, .slice Acl6 x6.policy.change.l.length ccl6, .int .i64 x6.policy.mode] 52) :: L) ∧ v_ = (((decide (x6.at_ ≤ at_)) && (decide (x6.known ≤ kn))) && (!ok || (decide (la ≤ x6.at_))))) (fun again => ?_) ?_
        · rcases hg : (decide (x6.at_ ≤ at_)) && (decide (x6.known ≤ kn)) with _ | _
          · refine sr_pass rfl (j := 10) (d := 41) rfl rfl rfl (u := false) (v := true) rfl rfl ?_
            refine sr_pass rfl (j := 10) (d := 41) rfl rfl rfl (u := false) (v := true) rfl rfl ?_
            refine sr_pass rfl (j := 10) (d := 41) rfl rfl rfl (u := false) (v := true) rfl rfl ?_
            refine sr_pass_undef rfl (j := 13) (d := 44) rfl rfl rfl rfl ?_
            refine sr_pass_undef rfl (j := 13) (d := 44) rfl rfl rfl rfl ?_
            refine sr_pass_undef rfl (j := 13) (d := 44) rfl rfl rfl rfl ?_
            refine sr_pass_undef rfl (j := 13) (d := 44) rfl rfl rfl rfl ?_
            refine sr_pass rfl (j := 10) (d := 41) rfl rfl rfl (u := false) (v := true) rfl rfl ?_
            refine sr_op rfl rfl (ow_pick (v := .bool false) rfl rfl ?_)
            exact sr_live [50, 1, 2, 6, 7, 9, 11, 25, 26, 27] (again _ _ ⟨_, _, rfl, H, by rw [hg] <;> rfl⟩)
          · refine sr_want rfl (j := 10) (d := 41) rfl rfl rfl (v := true) rfl rfl (ow_move (v := .bool ok) rfl ?_)
            refine sr_want rfl (j := 10) (d := 41) rfl rfl rfl (v := true) rfl rfl (ow_not rfl ?_)
            refine sr_want rfl (j := 10) (d := 41) rfl rfl rfl (v := true) rfl rfl (ow_move (v := .bool !ok) rfl ?_)
            refine sr_cut 5 (fun m_ w_ => ∃ (r_ : Sl) (v_ : Bool), m_ = (49, .bool v_) :: (1, .int .i64 at_) :: (2, .int .i64 kn) :: (6, .int .i64 no) :: (7, .bool ok) :: (9, .int .i64 la) :: (11, .pointer (some ⟨g7, 0, none⟩)) :: (25, .slice A l.length c) :: (26, .int .i64 (l.length : Int)) :: (27, .int .i64 (i : Int)) :: (41, .bool true) :: r_ ∧ Hp B I w_ ((g7, Ob [.int .i64 x6.no, .int .i64 x6.at_, .int .i64 x6.known, .string x6.policy.name, .slice Ak6 x6.policy.kinds.length ck6, .slice Ao6 x6.policy.offices.length co6, .slice Ar6 x6.policy.rules.length cr6, .int .i64 x6.policy.change.kind, .int .i64 x6.policy.change.n, .int .i64 x6.policy.change.no, .string x6.policy.change.name, .slice Acl6 x6.policy.change.l.length ccl6, .int .i64 x6.policy.mode] 52) :: L) ∧ v_ = (!ok || (decide (la ≤ x6.at_)))) (fun again => ?_) ?_
            · rcases hg : !ok with _ | _
              · refine sr_want rfl (j := 13) (d := 44) rfl rfl rfl (v := false) rfl rfl (ow_fieldAddr fd52_1 ty3 rfl rfl (r := 1) rfl ?_)
                refine sr_want rfl (j := 13) (d := 44) rfl rfl rfl (v := false) rfl rfl (ow_load (v := .int .i64 x6.at_) ty3 H rfl 0 rfl rfl rfl rfl ?_)
                refine sr_want rfl (j := 13) (d := 44) rfl rfl rfl (v := false) rfl rfl (ow_move (v := .int .i64 la) rfl ?_)
                refine sr_want rfl (j := 13) (d := 44) rfl rfl rfl (v := false) rfl rfl (ow_geq rfl rfl ?_)
                refine sr_want rfl (j := 10) (d := 41) rfl rfl rfl (v := true) rfl rfl (ow_pick (v := .bool (decide (la ≤ x6.at_))) rfl rfl ?_)
                exact sr_live [49, 1, 2, 6, 7, 9, 11, 25, 26, 27, 41] (again _ _ ⟨_, _, rfl, H, by rw [hg] <;> rfl⟩)
              · refine sr_pass rfl (j := 13) (d := 44) rfl rfl rfl (u := true) (v := false) rfl rfl ?_
                refine sr_pass rfl (j := 13) (d := 44) rfl rfl rfl (u := true) (v := false) rfl rfl ?_
                refine sr_pass rfl (j := 13) (d := 44) rfl rfl rfl (u := true) (v := false) rfl rfl ?_
                refine sr_pass rfl (j := 13) (d := 44) rfl rfl rfl (u := true) (v := false) rfl rfl ?_
                refine sr_want rfl (j := 10) (d := 41) rfl rfl rfl (v := true) rfl rfl (ow_pick (v := .bool true) rfl rfl ?_)
                exact sr_live [49, 1, 2, 6, 7, 9, 11, 25, 26, 27, 41] (again _ _ ⟨_, _, rfl, H, by rw [hg] <;> rfl⟩)
            rintro _ _ ⟨r, _, rfl, H, rfl⟩
            refine sr_op rfl rfl (ow_pick (v := .bool (!ok || (decide (la ≤ x6.at_)))) rfl rfl ?_)
            exact sr_live [50, 1, 2, 6, 7, 9, 11, 25, 26, 27] (again _ _ ⟨_, _, rfl, H, by rw [hg] <;> rfl⟩)
        rintro _ _ ⟨r, _, rfl, H, rfl⟩
        refine sr_nil ?_
        refine st_cond (((decide (x6.at_ ≤ at_)) && (decide (x6.known ≤ kn))) && (!ok || (decide (la ≤ x6.at_)))) rfl (fun hc8 => ?_) (fun hc8 => ?_)
        · refine st_draw (F := (fun w_ => ∃ I2, Le I I2 ∧ Hp B I2 w_ [(g7, Ob [.int .i64 x6.no, .int .i64 x6.at_, .int .i64 x6.known, .string x6.policy.name, .slice Ak6 x6.policy.kinds.length ck6, .slice Ao6 x6.policy.offices.length co6, .slice Ar6 x6.policy.rules.length cr6, .int .i64 x6.policy.change.kind, .int .i64 x6.policy.change.n, .int .i64 x6.policy.change.no, .string x6.policy.change.name, .slice Acl6 x6.policy.change.l.length ccl6, .int .i64 x6.policy.mode] 52)])) (p0 := [0, 1, 2, 3, 4, 5, 6]) (plan := []) [0, 1, 2, 3, 4, 5, 6] [0, 1, 4, 2, 3, 5, 6] [(7, .bool true), (9, .int .i64 x6.at_), (6, .int .i64 x6.no), (54, .int .i64 x6.at_), (53, .pointer (some ⟨g7, 1, none⟩)), (52, .int .i64 x6.no), (51, .pointer (some ⟨g7, 0, none⟩))] (by kernel_rfl) rfl ?_ ⟨_, Le.refl _, H.drew.pick [0] (by decide)⟩ ?_
          · refine ⟨kn_op rfl rfl (wantB_none rfl) fun _ hF2 => ?_, ?_⟩
            · obtain ⟨_, hle2, H2⟩ := hF2
              refine  (ow_fieldAddr fd52_0 ty3 rfl rfl (r := 0) rfl ?_)
              exact ⟨rfl, rfl⟩
            refine ⟨kn_op rfl rfl (wantB_none rfl) fun _ hF2 => ?_, ?_⟩
            · obtain ⟨_, hle2, H2⟩ := hF2
              refine  (ow_load (v := .int .i64 x6.no) ty3 H2 rfl 0 rfl rfl rfl rfl ?_)
              exact ⟨rfl, rfl⟩
            refine ⟨kn_op rfl rfl (wantB_none rfl) fun _ hF2 => ?_, ?_⟩
            · obtain ⟨_, hle2, H2⟩ := hF2
              refine  (ow_fieldAddr fd52_1 ty3 rfl rfl (r := 1) rfl ?_)
              exact ⟨rfl, rfl⟩
            refine ⟨kn_op rfl rfl (wantB_none rfl) fun _ hF2 => ?_, ?_⟩
            · obtain ⟨_, hle2, H2⟩ := hF2
              refine  (ow_load (v := .int .i64 x6.at_) ty3 H2 rfl 0 rfl rfl rfl rfl ?_)
              exact ⟨rfl, rfl⟩
            refine ⟨kn_op rfl rfl (wantB_none rfl) fun _ hF2 => ?_, ?_⟩
            · obtain ⟨_, hle2, H2⟩ := hF2
              refine  (ow_assign (v := .int .i64 x6.no) rfl ?_)
              exact ⟨rfl, rfl⟩
            refine ⟨kn_op rfl rfl (wantB_none rfl) fun _ hF2 => ?_, ?_⟩
            · obtain ⟨_, hle2, H2⟩ := hF2
              refine  (ow_assign (v := .int .i64 x6.at_) rfl ?_)
              exact ⟨rfl, rfl⟩
            refine ⟨kn_op rfl rfl (wantB_none rfl) fun _ hF2 => ?_, ?_⟩
            · obtain ⟨_, hle2, H2⟩ := hF2
              refine  (ow_assign (v := .bool true) rfl ?_)
              exact ⟨rfl, rfl⟩
            exact trivial
          have H := H.drew
          refine cw_nil ?_
          refine st_inBlock ?_
          refine st_region ?_
          refine sr_op rfl rfl (ow_add (r := ((i + 1 : Nat) : Int)) rfl rfl (inc_i64 (by omega)) ?_)
          refine sr_op rfl rfl (ow_move (v := .int .i64 ((i + 1 : Nat) : Int)) rfl ?_)
          refine sr_nil ?_
          exact st_inLoop (st_live [1, 2, 6, 7, 9, 25, 26, 27] (ih4 _ _ _ (by omega) ⟨i + 1, x6.no, x6.at_, true, _, rfl, rfl, H.drop 1, by omega, by rw [take_some he6, List.foldl_append, ← ha]; simp only [List.foldl_cons, List.foldl_nil, stStep]; rw [if_pos hc8]⟩))
        · refine st_skip ?_
          refine st_inBlock ?_
          refine st_region ?_
          refine sr_op rfl rfl (ow_add (r := ((i + 1 : Nat) : Int)) rfl rfl (inc_i64 (by omega)) ?_)
          refine sr_op rfl rfl (ow_move (v := .int .i64 ((i + 1 : Nat) : Int)) rfl ?_)
          refine sr_nil ?_
          exact st_inLoop (st_live [1, 2, 6, 7, 9, 25, 26, 27] (ih4 _ _ _ (by omega) ⟨i + 1, no, la, ok, _, rfl, rfl, H.drop 1, by omega, by rw [take_some he6, List.foldl_append, ← ha]; simp only [List.foldl_cons, List.foldl_nil, stStep]; rw [if_neg (by rw [hc8]; decide)]⟩))
      · have hc5 := of_decide_eq_false hc5
        refine st_exit rfl ?_
        refine st_seq ?_
        refine st_region ?_
        refine sr_op rfl rfl (ow_move (v := .int .i64 no) rfl ?_)
        refine sr_op rfl rfl (ow_move (v := .bool ok) rfl ?_)
        refine sr_op rfl rfl (ow_assign (v := .int .i64 no) rfl ?_)
        refine sr_op rfl rfl (ow_assign (v := .bool ok) rfl ?_)
        refine sr_op rfl rfl (ow_assign (v := .int .i64 0) rfl ?_)
        refine sr_nil ?_
        refine st_ret hb (hR _ _ (.tuple #[.int .i64 no, .bool ok, .int .i64 0]) (res_run (vs := [.int .i64 no, .bool ok, .int .i64 0]) Tryd.results25 ⟨_, _, rfl, rfl, ⟨_, _, rfl, rfl, ⟨_, _, rfl, rfl, rfl⟩⟩⟩) ?_)
        have ht : l.take i = l := List.take_of_length_le (by omega)
        rw [ht] at ha
        exact ⟨_, rfl, by rw [standE, if_pos hok, if_pos (or2n hc2), ← ha], H.drop 0⟩
end Go.Proofs.YtbbflenaeihmeaaDoor
