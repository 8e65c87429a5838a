/-
  Walks: the reference of policies: whole policies.
-/
import Derived.Test.YtbbflenaeihmeaaDoorP13
set_option linter.unusedVariables false
set_option linter.unusedSimpArgs false
set_option maxRecDepth 10000
set_option maxHeartbeats 4000000
namespace Go.Proofs.YtbbflenaeihmeaaDoor
open Go Go.RowKit

def sameR (a b : Ru) : Bool := ((decide (a.kind = b.kind) && decide (a.kindNo = b.kindNo)) && decide (a.think = b.think)) && sameX a.expr b.expr
def sameRs : List Ru → List Ru → Bool
  | [], [] => true
  | x :: l, y :: m => sameR x y && sameRs l m
  | _, _ => false
def sameP (a b : Po) : Bool := ((((decide (a.name = b.name) && decide (a.mode = b.mode)) && sameT a.offices b.offices) && sameT a.kinds b.kinds) && sameRs a.rules b.rules) && sameX a.change b.change
theorem sameR_iff (a b : Ru) : sameR a b = true ↔ a = b := by
  cases a
  cases b
  simp only [sameR, Bool.and_eq_true, decide_eq_true_eq, sameX_iff, Ru.mk.injEq]
  constructor
  · rintro ⟨⟨⟨h1, h2⟩, h3⟩, h4⟩
    exact ⟨h1, h2, h3, h4⟩
  · rintro ⟨h1, h2, h3, h4⟩
    exact ⟨⟨⟨h1, h2⟩, h3⟩, h4⟩
theorem sameRs_iff : ∀ (l m : List Ru), sameRs l m = true ↔ l = m
  | [], [] => by simp only [sameRs]
  | x :: l, y :: m => by simp only [sameRs, Bool.and_eq_true, sameR_iff x y, sameRs_iff l m, List.cons.injEq]
  | [], y :: m => by simp [sameRs]
  | x :: l, [] => by simp [sameRs]
theorem sameP_iff (a b : Po) : sameP a b = true ↔ a = b := by
  cases a
  cases b
  simp only [sameP, Bool.and_eq_true, decide_eq_true_eq, sameX_iff, sameT_iff, sameRs_iff, Po.mk.injEq]
  constructor
  · rintro ⟨⟨⟨⟨⟨h1, h2⟩, h3⟩, h4⟩, h5⟩, h6⟩
    exact ⟨h1, h4, h3, h5, h6, h2⟩
  · rintro ⟨h1, h4, h3, h5, h6, h2⟩
    exact ⟨⟨⟨⟨⟨h1, h2⟩, h3⟩, h4⟩, h5⟩, h6⟩
theorem sameRs_len {l m : List Ru} (h : ¬ (l.length : Int) = (m.length : Int)) : sameRs l m = false := by
  rw [Bool.eq_false_iff]
  intro h2
  rw [sameRs_iff] at h2
  subst h2
  exact h rfl
theorem samep_no {a b c d f : Bool} {l m : List Ru} (h : (((((!a || !b) || !c) || !d) || !decide ((l.length : Int) = (m.length : Int))) || !f) = true) : (((((a && b) && c) && d) && sameRs l m) && f) = false := by
  by_cases hl : (l.length : Int) = (m.length : Int)
  · rw [decide_eq_true hl] at h
    cases a <;> cases b <;> cases c <;> cases d <;> cases f <;> first | rfl | (cases sameRs l m <;> rfl) | cases h
  · rw [sameRs_len hl, Bool.and_false, Bool.false_and]
theorem samep_yes {a b c d f : Bool} {l m : List Ru} (h : (((((!a || !b) || !c) || !d) || !decide ((l.length : Int) = (m.length : Int))) || !f) = false) : (((a && b) && c) && d) = true ∧ (l.length : Int) = (m.length : Int) ∧ f = true := by
  by_cases hl : (l.length : Int) = (m.length : Int)
  · rw [decide_eq_true hl] at h
    refine ⟨?_, hl, ?_⟩ <;> cases a <;> cases b <;> cases c <;> cases d <;> cases f <;> first | rfl | cases h
  · rw [decide_eq_false hl] at h
    simp at h
theorem exprs_all (p : Po) (g : Ex → Bool) : (exprs p).all g = (p.rules.all (fun r => g r.expr) && g p.change) := by
  unfold exprs
  rw [List.all_append, List.all_map]
  simp [Function.comp_def]
theorem Same_c {B I L w} (H : Hp B I w L) {p q : Po} {us ws : List Value} (hp : RepL I (encPo p) us) (hq : RepL I (encPo q) ws) : Calls Tryd.prog 21 #[.agg us.toArray, .agg ws.toArray] w (Rt fun r w' => r = .bool (sameP p q) ∧ Hp B I w' L) := by
  obtain ⟨v1, v2, v3, v4, rfl, hpn, hpk, hpo, hpr, hck, hcn, hcno, hcs, hcl, hpm⟩ := po_iff.1 hp
  obtain ⟨Ak, ck, rfl, hckl, hckm, hpk⟩ := RepS.open_ hpk
  obtain ⟨Ao, co, rfl, hcol, hcom, hpo⟩ := RepS.open_ hpo
  obtain ⟨Ar, cr, rfl, hcrl, hcrm, hpr⟩ := RepS.open_ hpr
  obtain ⟨Ac, cc, rfl, hccl, hccm, hcl⟩ := RepS.open_ hcl
  obtain ⟨v1, v2, v3, v4, rfl, hpn2, hpk2, hpo2, hpr2, hck2, hcn2, hcno2, hcs2, hcl2, hpm2⟩ := po_iff.1 hq
  obtain ⟨Ak2, ck2, rfl, hckl2, hckm2, hpk2⟩ := RepS.open_ hpk2
  obtain ⟨Ao2, co2, rfl, hcol2, hcom2, hpo2⟩ := RepS.open_ hpo2
  obtain ⟨Ar2, cr2, rfl, hcrl2, hcrm2, hpr2⟩ := RepS.open_ hpr2
  obtain ⟨Ac2, cc2, rfl, hccl2, hccm2, hcl2⟩ := RepS.open_ hcl2
  refine calls_st (n := 97) Tryd.func21 rfl rfl rfl ?_
  intro G bF cs hb hfn hR hP
  simp only [ini]
  refine st_seq ?_
  refine st_region ?_
  refine sr_op rfl rfl (ow_box H (v := .agg #[.string p.name, .slice Ak p.kinds.length ck, .slice Ao p.offices.length co, .slice Ar p.rules.length cr, .int .i64 p.change.kind, .int .i64 p.change.n, .int .i64 p.change.no, .string p.change.name, .slice Ac p.change.l.length cc, .int .i64 p.mode]) rfl [.string p.name, .slice Ak p.kinds.length ck, .slice Ao p.offices.length co, .slice Ar p.rules.length cr, .int .i64 p.change.kind, .int .i64 p.change.n, .int .i64 p.change.no, .string p.change.name, .slice Ac p.change.l.length cc, .int .i64 p.mode] rfl (fun g1 _ H => ?_))
  refine sr_op rfl rfl (ow_box H (v := .agg #[.string q.name, .slice Ak2 q.kinds.length ck2, .slice Ao2 q.offices.length co2, .slice Ar2 q.rules.length cr2, .int .i64 q.change.kind, .int .i64 q.change.n, .int .i64 q.change.no, .string q.change.name, .slice Ac2 q.change.l.length cc2, .int .i64 q.mode]) rfl [.string q.name, .slice Ak2 q.kinds.length ck2, .slice Ao2 q.offices.length co2, .slice Ar2 q.rules.length cr2, .int .i64 q.change.kind, .int .i64 q.change.n, .int .i64 q.change.no, .string q.change.name, .slice Ac2 q.change.l.length cc2, .int .i64 q.mode] rfl (fun g2 _ H => ?_))
  refine sr_op rfl rfl (ow_assign (v := .bool false) rfl ?_)
  refine sr_nil ?_
  refine st_seq ?_
  refine st_seq ?_
  refine st_region ?_
  refine sr_op rfl rfl (ow_fieldAddr fd28_0 ty9 rfl rfl (r := 0) rfl ?_)
  refine sr_op rfl rfl (ow_load (v := .string p.name) ty9 H rfl 1 rfl rfl rfl rfl ?_)
  refine sr_op rfl rfl (ow_fieldAddr fd28_0 ty9 rfl rfl (r := 0) rfl ?_)
  refine sr_op rfl rfl (ow_load (v := .string q.name) ty9 H rfl 0 rfl rfl rfl rfl ?_)
  refine sr_op rfl rfl (ow_sne rfl rfl ?_)
  refine sr_op rfl rfl (ow_move (v := .bool (!decide (p.name = q.name))) rfl ?_)
  refine sr_cut 6 (fun m_ w_ => ∃ (r_ : Sl) (v_ : Bool), m_ = (19, .bool v_) :: (2, .pointer (some ⟨g1, 0, none⟩)) :: (3, .pointer (some ⟨g2, 0, none⟩)) :: (4, .bool false) :: r_ ∧ Hp B I w_ ((g2, Ob [.string q.name, .slice Ak2 q.kinds.length ck2, .slice Ao2 q.offices.length co2, .slice Ar2 q.rules.length cr2, .int .i64 q.change.kind, .int .i64 q.change.n, .int .i64 q.change.no, .string q.change.name, .slice Ac2 q.change.l.length cc2, .int .i64 q.mode] 28) :: (g1, Ob [.string p.name, .slice Ak p.kinds.length ck, .slice Ao p.offices.length co, .slice Ar p.rules.length cr, .int .i64 p.change.kind, .int .i64 p.change.n, .int .i64 p.change.no, .string p.change.name, .slice Ac p.change.l.length cc, .int .i64 p.mode] 28) :: L) ∧ v_ = ((!decide (p.name = q.name)) || (!decide (p.mode = q.mode)))) (fun again => ?_) ?_
  · rcases hg : !decide (p.name = q.name) with _ | _
    · refine sr_want rfl (j := 5) (d := 13) rfl rfl rfl (v := false) rfl rfl (ow_fieldAddr fd28_5 ty3 rfl rfl (r := 9) rfl ?_)
      refine sr_want rfl (j := 5) (d := 13) rfl rfl rfl (v := false) rfl rfl (ow_load (v := .int .i64 p.mode) ty3 H rfl 1 rfl rfl rfl rfl ?_)
      refine sr_want rfl (j := 5) (d := 13) rfl rfl rfl (v := false) rfl rfl (ow_fieldAddr fd28_5 ty3 rfl rfl (r := 9) rfl ?_)
      refine sr_want rfl (j := 5) (d := 13) rfl rfl rfl (v := false) rfl rfl (ow_load (v := .int .i64 q.mode) ty3 H rfl 0 rfl rfl rfl rfl ?_)
      refine sr_want rfl (j := 5) (d := 13) rfl rfl rfl (v := false) rfl rfl (ow_neq rfl rfl ?_)
      refine sr_op rfl rfl (ow_pick (v := .bool (!decide (p.mode = q.mode))) rfl rfl ?_)
      exact sr_live [19, 2, 3, 4] (again _ _ ⟨_, _, rfl, H, by rw [hg] <;> rfl⟩)
    · refine sr_pass rfl (j := 5) (d := 13) rfl rfl rfl (u := true) (v := false) rfl rfl ?_
      refine sr_pass rfl (j := 5) (d := 13) rfl rfl rfl (u := true) (v := false) rfl rfl ?_
      refine sr_pass rfl (j := 5) (d := 13) rfl rfl rfl (u := true) (v := false) rfl rfl ?_
      refine sr_pass rfl (j := 5) (d := 13) rfl rfl rfl (u := true) (v := false) rfl rfl ?_
      refine sr_pass rfl (j := 5) (d := 13) rfl rfl rfl (u := true) (v := false) rfl rfl ?_
      refine sr_op rfl rfl (ow_pick (v := .bool true) rfl rfl ?_)
      exact sr_live [19, 2, 3, 4] (again _ _ ⟨_, _, rfl, H, by rw [hg] <;> rfl⟩)
  rintro _ _ ⟨r, _, rfl, H, rfl⟩
  refine sr_op rfl rfl (ow_move (v := .bool ((!decide (p.name = q.name)) || (!decide (p.mode = q.mode)))) rfl ?_)
  refine sr_cut 7 (fun m_ w_ => ∃ (r_ : Sl) (v_ : Bool), m_ = (27, .bool v_) :: (2, .pointer (some ⟨g1, 0, none⟩)) :: (3, .pointer (some ⟨g2, 0, none⟩)) :: (4, .bool false) :: r_ ∧ Hp B I w_ ((g2, Ob [.string q.name, .slice Ak2 q.kinds.length ck2, .slice Ao2 q.offices.length co2, .slice Ar2 q.rules.length cr2, .int .i64 q.change.kind, .int .i64 q.change.n, .int .i64 q.change.no, .string q.change.name, .slice Ac2 q.change.l.length cc2, .int .i64 q.mode] 28) :: (g1, Ob [.string p.name, .slice Ak p.kinds.length ck, .slice Ao p.offices.length co, .slice Ar p.rules.length cr, .int .i64 p.change.kind, .int .i64 p.change.n, .int .i64 p.change.no, .string p.change.name, .slice Ac p.change.l.length cc, .int .i64 p.mode] 28) :: L) ∧ v_ = (((!decide (p.name = q.name)) || (!decide (p.mode = q.mode))) || (!(sameT p.offices q.offices)))) (fun again => ?_) ?_
  · rcases hg : (!decide (p.name = q.name)) || (!decide (p.mode = q.mode)) with _ | _
    · refine sr_want rfl (j := 12) (d := 20) rfl rfl rfl (v := false) rfl rfl (ow_fieldAddr fd28_2 ty22 rfl rfl (r := 2) rfl ?_)
      refine sr_want rfl (j := 12) (d := 20) rfl rfl rfl (v := false) rfl rfl (ow_load (v := .slice Ao p.offices.length co) ty22 H rfl 1 rfl rfl rfl rfl ?_)
      refine sr_want rfl (j := 12) (d := 20) rfl rfl rfl (v := false) rfl rfl (ow_fieldAddr fd28_2 ty22 rfl rfl (r := 2) rfl ?_)
      refine sr_want rfl (j := 12) (d := 20) rfl rfl rfl (v := false) rfl rfl (ow_load (v := .slice Ao2 q.offices.length co2) ty22 H rfl 0 rfl rfl rfl rfl ?_)
      refine sr_want rfl (j := 12) (d := 20) rfl rfl rfl (v := false) rfl rfl (ow_call en66 rfl (SameTexts_c H hpo hpo2) ?_)
      rintro _ _ ⟨rfl, H⟩
      refine sr_want rfl (j := 12) (d := 20) rfl rfl rfl (v := false) rfl rfl (ow_not rfl ?_)
      refine sr_op rfl rfl (ow_pick (v := .bool (!(sameT p.offices q.offices))) rfl rfl ?_)
      exact sr_live [27, 2, 3, 4] (again _ _ ⟨_, _, rfl, H, by rw [hg] <;> rfl⟩)
    · refine sr_pass rfl (j := 12) (d := 20) rfl rfl rfl (u := true) (v := false) rfl rfl ?_
      refine sr_pass rfl (j := 12) (d := 20) rfl rfl rfl (u := true) (v := false) rfl rfl ?_
      refine sr_pass rfl (j := 12) (d := 20) rfl rfl rfl (u := true) (v := false) rfl rfl ?_
      refine sr_pass rfl (j := 12) (d := 20) rfl rfl rfl (u := true) (v := false) rfl rfl ?_
      refine sr_pass rfl (j := 12) (d := 20) rfl rfl rfl (u := true) (v := false) rfl rfl ?_
      refine sr_pass rfl (j := 12) (d := 20) rfl rfl rfl (u := true) (v := false) rfl rfl ?_
      refine sr_op rfl rfl (ow_pick (v := .bool true) rfl rfl ?_)
      exact sr_live [27, 2, 3, 4] (again _ _ ⟨_, _, rfl, H, by rw [hg] <;> rfl⟩)
  rintro _ _ ⟨r, _, rfl, H, rfl⟩
  refine sr_op rfl rfl (ow_move (v := .bool (((!decide (p.name = q.name)) || (!decide (p.mode = q.mode))) || (!(sameT p.offices q.offices)))) rfl ?_)
  refine sr_cut 7 (fun m_ w_ => ∃ (r_ : Sl) (v_ : Bool), m_ = (35, .bool v_) :: (2, .pointer (some ⟨g1, 0, none⟩)) :: (3, .pointer (some ⟨g2, 0, none⟩)) :: (4, .bool false) :: r_ ∧ Hp B I w_ ((g2, Ob [.string q.name, .slice Ak2 q.kinds.length ck2, .slice Ao2 q.offices.length co2, .slice Ar2 q.rules.length cr2, .int .i64 q.change.kind, .int .i64 q.change.n, .int .i64 q.change.no, .string q.change.name, .slice Ac2 q.change.l.length cc2, .int .i64 q.mode] 28) :: (g1, Ob [.string p.name, .slice Ak p.kinds.length ck, .slice Ao p.offices.length co, .slice Ar p.rules.length cr, .int .i64 p.change.kind, .int .i64 p.change.n, .int .i64 p.change.no, .string p.change.name, .slice Ac p.change.l.length cc, .int .i64 p.mode] 28) :: L) ∧ v_ = ((((!decide (p.name = q.name)) || (!decide (p.mode = q.mode))) || (!(sameT p.offices q.offices))) || (!(sameT p.kinds q.kinds)))) (fun again => ?_) ?_
  · rcases hg : ((!decide (p.name = q.name)) || (!decide (p.mode = q.mode))) || (!(sameT p.offices q.offices)) with _ | _
    · refine sr_want rfl (j := 20) (d := 28) rfl rfl rfl (v := false) rfl rfl (ow_fieldAddr fd28_1 ty22 rfl rfl (r := 1) rfl ?_)
      refine sr_want rfl (j := 20) (d := 28) rfl rfl rfl (v := false) rfl rfl (ow_load (v := .slice Ak p.kinds.length ck) ty22 H rfl 1 rfl rfl rfl rfl ?_)
      refine sr_want rfl (j := 20) (d := 28) rfl rfl rfl (v := false) rfl rfl (ow_fieldAddr fd28_1 ty22 rfl rfl (r := 1) rfl ?_)
      refine sr_want rfl (j := 20) (d := 28) rfl rfl rfl (v := false) rfl rfl (ow_load (v := .slice Ak2 q.kinds.length ck2) ty22 H rfl 0 rfl rfl rfl rfl ?_)
      refine sr_want rfl (j := 20) (d := 28) rfl rfl rfl (v := false) rfl rfl (ow_call en66 rfl (SameTexts_c H hpk hpk2) ?_)
      rintro _ _ ⟨rfl, H⟩
      refine sr_want rfl (j := 20) (d := 28) rfl rfl rfl (v := false) rfl rfl (ow_not rfl ?_)
      refine sr_op rfl rfl (ow_pick (v := .bool (!(sameT p.kinds q.kinds))) rfl rfl ?_)
      exact sr_live [35, 2, 3, 4] (again _ _ ⟨_, _, rfl, H, by rw [hg] <;> rfl⟩)
    · refine sr_pass rfl (j := 20) (d := 28) rfl rfl rfl (u := true) (v := false) rfl rfl ?_
      refine sr_pass rfl (j := 20) (d := 28) rfl rfl rfl (u := true) (v := false) rfl rfl ?_
      refine sr_pass rfl (j := 20) (d := 28) rfl rfl rfl (u := true) (v := false) rfl rfl ?_
      refine sr_pass rfl (j := 20) (d := 28) rfl rfl rfl (u := true) (v := false) rfl rfl ?_
      refine sr_pass rfl (j := 20) (d := 28) rfl rfl rfl (u := true) (v := false) rfl rfl ?_
      refine sr_pass rfl (j := 20) (d := 28) rfl rfl rfl (u := true) (v := false) rfl rfl ?_
      refine sr_op rfl rfl (ow_pick (v := .bool true) rfl rfl ?_)
      exact sr_live [35, 2, 3, 4] (again _ _ ⟨_, _, rfl, H, by rw [hg] <;> rfl⟩)
  rintro _ _ ⟨r, _, rfl, H, rfl⟩
  refine sr_op rfl rfl (ow_move (v := .bool ((((!decide (p.name = q.name)) || (!decide (p.mode = q.mode))) || (!(sameT p.offices q.offices))) || (!(sameT p.kinds q.kinds)))) rfl ?_)
  refine sr_cut 8 (fun m_ w_ => ∃ (r_ : Sl) (v_ : Bool), m_ = (44, .bool v_) :: (2, .pointer (some ⟨g1, 0, none⟩)) :: (3, .pointer (some ⟨g2, 0, none⟩)) :: (4, .bool false) :: r_ ∧ Hp B I w_ ((g2, Ob [.string q.name, .slice Ak2 q.kinds.length ck2, .slice Ao2 q.offices.length co2, .slice Ar2 q.rules.length cr2, .int .i64 q.change.kind, .int .i64 q.change.n, .int .i64 q.change.no, .string q.change.name, .slice Ac2 q.change.l.length cc2, .int .i64 q.mode] 28) :: (g1, Ob [.string p.name, .slice Ak p.kinds.length ck, .slice Ao p.offices.length co, .slice Ar p.rules.length cr, .int .i64 p.change.kind, .int .i64 p.change.n, .int .i64 p.change.no, .string p.change.name, .slice Ac p.change.l.length cc, .int .i64 p.mode] 28) :: L) ∧ v_ = (((((!decide (p.name = q.name)) || (!decide (p.mode = q.mode))) || (!(sameT p.offices q.offices))) || (!(sameT p.kinds q.kinds))) || (!decide ((p.rules.length : Int) = (q.rules.length : Int))))) (fun again => ?_) ?_
  · rcases hg : (((!decide (p.name = q.name)) || (!decide (p.mode = q.mode))) || (!(sameT p.offices q.offices))) || (!(sameT p.kinds q.kinds)) with _ | _
    · refine sr_want rfl (j := 28) (d := 36) rfl rfl rfl (v := false) rfl rfl (ow_fieldAddr fd28_3 ty23 rfl rfl (r := 3) rfl ?_)
      refine sr_want rfl (j := 28) (d := 36) rfl rfl rfl (v := false) rfl rfl (ow_load (v := .slice Ar p.rules.length cr) ty23 H rfl 1 rfl rfl rfl rfl ?_)
      refine sr_want rfl (j := 28) (d := 36) rfl rfl rfl (v := false) rfl rfl (ow_lenS sl23 rfl rfl ?_)
      refine sr_want rfl (j := 28) (d := 36) rfl rfl rfl (v := false) rfl rfl (ow_fieldAddr fd28_3 ty23 rfl rfl (r := 3) rfl ?_)
      refine sr_want rfl (j := 28) (d := 36) rfl rfl rfl (v := false) rfl rfl (ow_load (v := .slice Ar2 q.rules.length cr2) ty23 H rfl 0 rfl rfl rfl rfl ?_)
      refine sr_want rfl (j := 28) (d := 36) rfl rfl rfl (v := false) rfl rfl (ow_lenS sl23 rfl rfl ?_)
      refine sr_want rfl (j := 28) (d := 36) rfl rfl rfl (v := false) rfl rfl (ow_neq rfl rfl ?_)
      refine sr_op rfl rfl (ow_pick (v := .bool (!decide ((p.rules.length : Int) = (q.rules.length : Int)))) rfl rfl ?_)
      exact sr_live [44, 2, 3, 4] (again _ _ ⟨_, _, rfl, H, by rw [hg] <;> rfl⟩)
    · refine sr_pass rfl (j := 28) (d := 36) rfl rfl rfl (u := true) (v := false) rfl rfl ?_
      refine sr_pass rfl (j := 28) (d := 36) rfl rfl rfl (u := true) (v := false) rfl rfl ?_
      refine sr_pass rfl (j := 28) (d := 36) rfl rfl rfl (u := true) (v := false) rfl rfl ?_
      refine sr_pass rfl (j := 28) (d := 36) rfl rfl rfl (u := true) (v := false) rfl rfl ?_
      refine sr_pass rfl (j := 28) (d := 36) rfl rfl rfl (u := true) (v := false) rfl rfl ?_
      refine sr_pass rfl (j := 28) (d := 36) rfl rfl rfl (u := true) (v := false) rfl rfl ?_
      refine sr_pass rfl (j := 28) (d := 36) rfl rfl rfl (u := true) (v := false) rfl rfl ?_
      refine sr_op rfl rfl (ow_pick (v := .bool true) rfl rfl ?_)
      exact sr_live [44, 2, 3, 4] (again _ _ ⟨_, _, rfl, H, by rw [hg] <;> rfl⟩)
  rintro _ _ ⟨r, _, rfl, H, rfl⟩
  refine sr_op rfl rfl (ow_move (v := .bool (((((!decide (p.name = q.name)) || (!decide (p.mode = q.mode))) || (!(sameT p.offices q.offices))) || (!(sameT p.kinds q.kinds))) || (!decide ((p.rules.length : Int) = (q.rules.length : Int))))) rfl ?_)
  refine sr_cut 7 (fun m_ w_ => ∃ (r_ : Sl) (v_ : Bool), m_ = (52, .bool v_) :: (2, .pointer (some ⟨g1, 0, none⟩)) :: (3, .pointer (some ⟨g2, 0, none⟩)) :: (4, .bool false) :: r_ ∧ Hp B I w_ ((g2, Ob [.string q.name, .slice Ak2 q.kinds.length ck2, .slice Ao2 q.offices.length co2, .slice Ar2 q.rules.length cr2, .int .i64 q.change.kind, .int .i64 q.change.n, .int .i64 q.change.no, .string q.change.name, .slice Ac2 q.change.l.length cc2, .int .i64 q.mode] 28) :: (g1, Ob [.string p.name, .slice Ak p.kinds.length ck, .slice Ao p.offices.length co, .slice Ar p.rules.length cr, .int .i64 p.change.kind, .int .i64 p.change.n, .int .i64 p.change.no, .string p.change.name, .slice Ac p.change.l.length cc, .int .i64 p.mode] 28) :: L) ∧ v_ = ((((((!decide (p.name = q.name)) || (!decide (p.mode = q.mode))) || (!(sameT p.offices q.offices))) || (!(sameT p.kinds q.kinds))) || (!decide ((p.rules.length : Int) = (q.rules.length : Int)))) || (!(sameX p.change q.change)))) (fun again => ?_) ?_
  · rcases hg : ((((!decide (p.name = q.name)) || (!decide (p.mode = q.mode))) || (!(sameT p.offices q.offices))) || (!(sameT p.kinds q.kinds))) || (!decide ((p.rules.length : Int) = (q.rules.length : Int))) with _ | _
    · refine sr_want rfl (j := 37) (d := 45) rfl rfl rfl (v := false) rfl rfl (ow_fieldAddr fd28_4 ty26 rfl rfl (r := 4) rfl ?_)
      refine sr_want rfl (j := 37) (d := 45) rfl rfl rfl (v := false) rfl rfl (ow_load (v := .agg #[.int .i64 p.change.kind, .int .i64 p.change.n, .int .i64 p.change.no, .string p.change.name, .slice Ac p.change.l.length cc]) ty26 H rfl 1 rfl rfl rfl rfl ?_)
      refine sr_want rfl (j := 37) (d := 45) rfl rfl rfl (v := false) rfl rfl (ow_fieldAddr fd28_4 ty26 rfl rfl (r := 4) rfl ?_)
      refine sr_want rfl (j := 37) (d := 45) rfl rfl rfl (v := false) rfl rfl (ow_load (v := .agg #[.int .i64 q.change.kind, .int .i64 q.change.n, .int .i64 q.change.no, .string q.change.name, .slice Ac2 q.change.l.length cc2]) ty26 H rfl 0 rfl rfl rfl rfl ?_)
      refine sr_want rfl (j := 37) (d := 45) rfl rfl rfl (v := false) rfl rfl (ow_call en67 rfl (SameExpr_c p.change.pc (x := p.change) (y := q.change) (Nat.le_refl _) H (ex_iff.2 ⟨_, rfl, hck, hcn, hcno, hcs, hcl⟩) (ex_iff.2 ⟨_, rfl, hck2, hcn2, hcno2, hcs2, hcl2⟩)) ?_)
      rintro _ _ ⟨rfl, H⟩
      refine sr_want rfl (j := 37) (d := 45) rfl rfl rfl (v := false) rfl rfl (ow_not rfl ?_)
      refine sr_op rfl rfl (ow_pick (v := .bool (!(sameX p.change q.change))) rfl rfl ?_)
      exact sr_live [52, 2, 3, 4] (again _ _ ⟨_, _, rfl, H, by rw [hg] <;> rfl⟩)
    · refine sr_pass rfl (j := 37) (d := 45) rfl rfl rfl (u := true) (v := false) rfl rfl ?_
      refine sr_pass rfl (j := 37) (d := 45) rfl rfl rfl (u := true) (v := false) rfl rfl ?_
      refine sr_pass rfl (j := 37) (d := 45) rfl rfl rfl (u := true) (v := false) rfl rfl ?_
      refine sr_pass rfl (j := 37) (d := 45) rfl rfl rfl (u := true) (v := false) rfl rfl ?_
      refine sr_pass rfl (j := 37) (d := 45) rfl rfl rfl (u := true) (v := false) rfl rfl ?_
      refine sr_pass rfl (j := 37) (d := 45) rfl rfl rfl (u := true) (v := false) rfl rfl ?_
      refine sr_op rfl rfl (ow_pick (v := .bool true) rfl rfl ?_)
      exact sr_live [52, 2, 3, 4] (again _ _ ⟨_, _, rfl, H, by rw [hg] <;> rfl⟩)
  rintro _ _ ⟨r, _, rfl, H, rfl⟩
  refine sr_nil ?_
  refine st_cond ((((((!decide (p.name = q.name)) || (!decide (p.mode = q.mode))) || (!(sameT p.offices q.offices))) || (!(sameT p.kinds q.kinds))) || (!decide ((p.rules.length : Int) = (q.rules.length : Int)))) || (!(sameX p.change q.change))) rfl (fun hc3 => ?_) (fun hc3 => ?_)
  · refine st_seq ?_
    refine st_region ?_
    refine sr_op rfl rfl (ow_assign (v := .bool false) rfl ?_)
    refine sr_nil ?_
    refine st_ret hb (hR _ _ (.bool false) (res_run (vs := [.bool false]) Tryd.results21 ⟨_, _, rfl, rfl, rfl⟩) ?_)
    exact ⟨_, rfl, by rw [sameP, samep_no hc3], H.drop 2⟩
  · obtain ⟨hsc, hlen, hch⟩ := samep_yes hc3
    refine st_skip ?_
    refine st_seq ?_
    refine st_seq ?_
    refine st_region ?_
    refine sr_op rfl rfl (ow_assign (v := .int .i64 0) rfl ?_)
    refine sr_nil ?_
    refine st_block ?_
    refine st_loop ?_
    refine st_live [2, 3, 5] ?_
    refine st_ind (fun d_ m_ w_ => ∃ (i : Nat) (r_ : Sl), d_ = p.rules.length - i ∧ m_ = (2, .pointer (some ⟨g1, 0, none⟩)) :: (3, .pointer (some ⟨g2, 0, none⟩)) :: (5, .int .i64 (i : Int)) :: r_ ∧ Hp B I w_ ((g2, Ob [.string q.name, .slice Ak2 q.kinds.length ck2, .slice Ao2 q.offices.length co2, .slice Ar2 q.rules.length cr2, .int .i64 q.change.kind, .int .i64 q.change.n, .int .i64 q.change.no, .string q.change.name, .slice Ac2 q.change.l.length cc2, .int .i64 q.mode] 28) :: (g1, Ob [.string p.name, .slice Ak p.kinds.length ck, .slice Ao p.offices.length co, .slice Ar p.rules.length cr, .int .i64 p.change.kind, .int .i64 p.change.n, .int .i64 p.change.no, .string p.change.name, .slice Ac p.change.l.length cc, .int .i64 p.mode] 28) :: L) ∧ i ≤ p.rules.length ∧ sameRs p.rules q.rules = sameRs (p.rules.drop i) (q.rules.drop i)) _ ⟨0, _, rfl, rfl, H, Nat.zero_le _, rfl⟩ ?_
    rintro _ _ _ ⟨i, r4, rfl, rfl, H, hi, ha⟩ ih5
    refine st_seq ?_
    refine st_seq ?_
    refine st_region ?_
    refine sr_op rfl rfl (ow_move (v := .int .i64 (i : Int)) rfl ?_)
    refine sr_op rfl rfl (ow_fieldAddr fd28_3 ty23 rfl rfl (r := 3) rfl ?_)
    refine sr_op rfl rfl (ow_load (v := .slice Ar p.rules.length cr) ty23 H rfl 1 rfl rfl rfl rfl ?_)
    refine sr_op rfl rfl (ow_lenS sl23 rfl rfl ?_)
    refine sr_op rfl rfl (ow_lss rfl rfl ?_)
    refine sr_nil ?_
    refine st_cond (decide ((i : Int) < (p.rules.length : Int))) rfl (fun hc6 => ?_) (fun hc6 => ?_)
    · have hc6 := of_decide_eq_true hc6
      refine st_skip ?_
      refine st_seq ?_
      refine st_block ?_
      refine st_seq ?_
      refine st_region ?_
      refine sr_op rfl rfl (ow_fieldAddr fd28_3 ty23 rfl rfl (r := 3) rfl ?_)
      refine sr_op rfl rfl (ow_load (v := .slice Ar p.rules.length cr) ty23 H rfl 1 rfl rfl rfl rfl ?_)
      refine sr_op rfl rfl (ow_move (v := .int .i64 (i : Int)) rfl ?_)
      obtain ⟨ra7, he7⟩ : ∃ q_, p.rules[i]? = some q_ := ⟨_, List.getElem?_eq_getElem (by omega)⟩
      obtain ⟨b7, o7, us7, hA7, hat7, hul7, hr7⟩ := RepS.get hpr he7
      obtain ⟨v7, rfl, ra7K, ra7Kn, ra7Th, ra7k, ra7n, ra7o, ra7s, ra7l⟩ := ru_iff.1 hr7
      obtain ⟨A7, c7, rfl, ra7c, ra7m, ra7l⟩ := RepS.open_ ra7l
      refine sr_op rfl rfl (ow_indexAddrA sl23 ty43 hA7 rfl rfl (by omega) (by omega) (r := o7 + i * 8) rfl ?_)
      refine sr_op rfl rfl (ow_loadI (v := .agg #[.string ra7.kind, .int .i64 ra7.kindNo, .int .i64 ra7.think, .int .i64 ra7.expr.kind, .int .i64 ra7.expr.n, .int .i64 ra7.expr.no, .string ra7.expr.name, .slice A7 ra7.expr.l.length c7]) ty43 H rfl hat7 rfl rfl rfl ?_)
      refine sr_op rfl rfl (ow_alloc ty43 H [.string ⟨#[]⟩, .int .i64 0, .int .i64 0, .int .i64 0, .int .i64 0, .int .i64 0, .string ⟨#[]⟩, .slice none 0 0] rfl (fun g8 _ H => ?_))
      refine sr_op rfl rfl (ow_store ty43 H rfl (v := .agg #[.string ra7.kind, .int .i64 ra7.kindNo, .int .i64 ra7.think, .int .i64 ra7.expr.kind, .int .i64 ra7.expr.n, .int .i64 ra7.expr.no, .string ra7.expr.name, .slice A7 ra7.expr.l.length c7]) rfl [.string ra7.kind, .int .i64 ra7.kindNo, .int .i64 ra7.think, .int .i64 ra7.expr.kind, .int .i64 ra7.expr.n, .int .i64 ra7.expr.no, .string ra7.expr.name, .slice A7 ra7.expr.l.length c7] rfl rfl rfl 0 rfl rfl (fun _ H => ?_))
      refine sr_nil ?_
      refine st_seq ?_
      refine st_region ?_
      refine sr_op rfl rfl (ow_fieldAddr fd28_3 ty23 rfl rfl (r := 3) rfl ?_)
      refine sr_op rfl rfl (ow_load (v := .slice Ar2 q.rules.length cr2) ty23 H rfl 1 rfl rfl rfl rfl ?_)
      refine sr_op rfl rfl (ow_move (v := .int .i64 (i : Int)) rfl ?_)
      obtain ⟨rb9, he9⟩ : ∃ q_, q.rules[i]? = some q_ := ⟨_, List.getElem?_eq_getElem (by omega)⟩
      obtain ⟨b9, o9, us9, hA9, hat9, hul9, hr9⟩ := RepS.get hpr2 he9
      obtain ⟨v9, rfl, rb9K, rb9Kn, rb9Th, rb9k, rb9n, rb9o, rb9s, rb9l⟩ := ru_iff.1 hr9
      obtain ⟨A9, c9, rfl, rb9c, rb9m, rb9l⟩ := RepS.open_ rb9l
      refine sr_op rfl rfl (ow_indexAddrA sl23 ty43 hA9 rfl rfl (by omega) (by omega) (r := o9 + i * 8) rfl ?_)
      refine sr_op rfl rfl (ow_loadI (v := .agg #[.string rb9.kind, .int .i64 rb9.kindNo, .int .i64 rb9.think, .int .i64 rb9.expr.kind, .int .i64 rb9.expr.n, .int .i64 rb9.expr.no, .string rb9.expr.name, .slice A9 rb9.expr.l.length c9]) ty43 H rfl hat9 rfl rfl rfl ?_)
      refine sr_op rfl rfl (ow_alloc ty43 H [.string ⟨#[]⟩, .int .i64 0, .int .i64 0, .int .i64 0, .int .i64 0, .int .i64 0, .string ⟨#[]⟩, .slice none 0 0] rfl (fun g10 _ H => ?_))
      refine sr_op rfl rfl (ow_store ty43 H rfl (v := .agg #[.string rb9.kind, .int .i64 rb9.kindNo, .int .i64 rb9.think, .int .i64 rb9.expr.kind, .int .i64 rb9.expr.n, .int .i64 rb9.expr.no, .string rb9.expr.name, .slice A9 rb9.expr.l.length c9]) rfl [.string rb9.kind, .int .i64 rb9.kindNo, .int .i64 rb9.think, .int .i64 rb9.expr.kind, .int .i64 rb9.expr.n, .int .i64 rb9.expr.no, .string rb9.expr.name, .slice A9 rb9.expr.l.length c9] rfl rfl rfl 0 rfl rfl (fun _ H => ?_))
      refine sr_nil ?_
      refine st_seq ?_
      refine st_region ?_
      refine sr_op rfl rfl (ow_fieldAddr fd43_0 ty9 rfl rfl (r := 0) rfl ?_)
      refine sr_op rfl rfl (ow_load (v := .string ra7.kind) ty9 H rfl 1 rfl rfl rfl rfl ?_)
      refine sr_op rfl rfl (ow_fieldAddr fd43_0 ty9 rfl rfl (r := 0) rfl ?_)
      refine sr_op rfl rfl (ow_load (v := .string rb9.kind) ty9 H rfl 0 rfl rfl rfl rfl ?_)
      refine sr_op rfl rfl (ow_sne rfl rfl ?_)
      refine sr_op rfl rfl (ow_move (v := .bool (!decide (ra7.kind = rb9.kind))) rfl ?_)
      refine sr_cut 6 (fun m_ w_ => ∃ (r_ : Sl) (v_ : Bool), m_ = (81, .bool v_) :: (2, .pointer (some ⟨g1, 0, none⟩)) :: (3, .pointer (some ⟨g2, 0, none⟩)) :: (5, .int .i64 (i : Int)) :: (6, .pointer (some ⟨g8, 0, none⟩)) :: (7, .pointer (some ⟨g10, 0, none⟩)) :: r_ ∧ Hp B I w_ ((g10, Ob [.string rb9.kind, .int .i64 rb9.kindNo, .int .i64 rb9.think, .int .i64 rb9.expr.kind, .int .i64 rb9.expr.n, .int .i64 rb9.expr.no, .string rb9.expr.name, .slice A9 rb9.expr.l.length c9] 43) :: (g8, Ob [.string ra7.kind, .int .i64 ra7.kindNo, .int .i64 ra7.think, .int .i64 ra7.expr.kind, .int .i64 ra7.expr.n, .int .i64 ra7.expr.no, .string ra7.expr.name, .slice A7 ra7.expr.l.length c7] 43) :: (g2, Ob [.string q.name, .slice Ak2 q.kinds.length ck2, .slice Ao2 q.offices.length co2, .slice Ar2 q.rules.length cr2, .int .i64 q.change.kind, .int .i64 q.change.n, .int .i64 q.change.no, .string q.change.name, .slice Ac2 q.change.l.length cc2, .int .i64 q.mode] 28) :: (g1, Ob [.string p.name, .slice Ak p.kinds.length ck, .slice Ao p.offices.length co, .slice Ar p.rules.length cr, .int .i64 p.change.kind, .int .i64 p.change.n, .int .i64 p.change.no, .string p.change.name, .slice Ac p.change.l.length cc, .int .i64 p.mode] 28) :: L) ∧ v_ = ((!decide (ra7.kind = rb9.kind)) || (!decide (ra7.kindNo = rb9.kindNo)))) (fun again => ?_) ?_
      · rcases hg : !decide (ra7.kind = rb9.kind) with _ | _
        · refine sr_want rfl (j := 5) (d := 75) rfl rfl rfl (v := false) rfl rfl (ow_fieldAddr fd43_1 ty3 rfl rfl (r := 1) rfl ?_)
          refine sr_want rfl (j := 5) (d := 75) rfl rfl rfl (v := false) rfl rfl (ow_load (v := .int .i64 ra7.kindNo) ty3 H rfl 1 rfl rfl rfl rfl ?_)
          refine sr_want rfl (j := 5) (d := 75) rfl rfl rfl (v := false) rfl rfl (ow_fieldAddr fd43_1 ty3 rfl rfl (r := 1) rfl ?_)
          refine sr_want rfl (j := 5) (d := 75) rfl rfl rfl (v := false) rfl rfl (ow_load (v := .int .i64 rb9.kindNo) ty3 H rfl 0 rfl rfl rfl rfl ?_)
          refine sr_want rfl (j := 5) (d := 75) rfl rfl rfl (v := false) rfl rfl (ow_neq rfl rfl ?_)
          refine sr_op rfl rfl (ow_pick (v := .bool (!decide (ra7.kindNo = rb9.kindNo))) rfl rfl ?_)
          exact sr_live [81, 2, 3, 5, 6, 7] (again _ _ ⟨_, _, rfl, H, by rw [hg] <;> rfl⟩)
        · refine sr_pass rfl (j := 5) (d := 75) rfl rfl rfl (u := true) (v := false) rfl rfl ?_
          refine sr_pass rfl (j := 5) (d := 75) rfl rfl rfl (u := true) (v := false) rfl rfl ?_
          refine sr_pass rfl (j := 5) (d := 75) rfl rfl rfl (u := true) (v := false) rfl rfl ?_
          refine sr_pass rfl (j := 5) (d := 75) rfl rfl rfl (u := true) (v := false) rfl rfl ?_
          refine sr_pass rfl (j := 5) (d := 75) rfl rfl rfl (u := true) (v := false) rfl rfl ?_
          refine sr_op rfl rfl (ow_pick (v := .bool true) rfl rfl ?_)
          exact sr_live [81, 2, 3, 5, 6, 7] (again _ _ ⟨_, _, rfl, H, by rw [hg] <;> rfl⟩)
      rintro _ _ ⟨r, _, rfl, H, rfl⟩
      refine sr_op rfl rfl (ow_move (v := .bool ((!decide (ra7.kind = rb9.kind)) || (!decide (ra7.kindNo = rb9.kindNo)))) rfl ?_)
      refine sr_cut 6 (fun m_ w_ => ∃ (r_ : Sl) (v_ : Bool), m_ = (88, .bool v_) :: (2, .pointer (some ⟨g1, 0, none⟩)) :: (3, .pointer (some ⟨g2, 0, none⟩)) :: (5, .int .i64 (i : Int)) :: (6, .pointer (some ⟨g8, 0, none⟩)) :: (7, .pointer (some ⟨g10, 0, none⟩)) :: r_ ∧ Hp B I w_ ((g10, Ob [.string rb9.kind, .int .i64 rb9.kindNo, .int .i64 rb9.think, .int .i64 rb9.expr.kind, .int .i64 rb9.expr.n, .int .i64 rb9.expr.no, .string rb9.expr.name, .slice A9 rb9.expr.l.length c9] 43) :: (g8, Ob [.string ra7.kind, .int .i64 ra7.kindNo, .int .i64 ra7.think, .int .i64 ra7.expr.kind, .int .i64 ra7.expr.n, .int .i64 ra7.expr.no, .string ra7.expr.name, .slice A7 ra7.expr.l.length c7] 43) :: (g2, Ob [.string q.name, .slice Ak2 q.kinds.length ck2, .slice Ao2 q.offices.length co2, .slice Ar2 q.rules.length cr2, .int .i64 q.change.kind, .int .i64 q.change.n, .int .i64 q.change.no, .string q.change.name, .slice Ac2 q.change.l.length cc2, .int .i64 q.mode] 28) :: (g1, Ob [.string p.name, .slice Ak p.kinds.length ck, .slice Ao p.offices.length co, .slice Ar p.rules.length cr, .int .i64 p.change.kind, .int .i64 p.change.n, .int .i64 p.change.no, .string p.change.name, .slice Ac p.change.l.length cc, .int .i64 p.mode] 28) :: L) ∧ v_ = (((!decide (ra7.kind = rb9.kind)) || (!decide (ra7.kindNo = rb9.kindNo))) || (!decide (ra7.think = rb9.think)))) (fun again => ?_) ?_
      · rcases hg : (!decide (ra7.kind = rb9.kind)) || (!decide (ra7.kindNo = rb9.kindNo)) with _ | _
        · refine sr_want rfl (j := 12) (d := 82) rfl rfl rfl (v := false) rfl rfl (ow_fieldAddr fd43_2 ty3 rfl rfl (r := 2) rfl ?_)
          refine sr_want rfl (j := 12) (d := 82) rfl rfl rfl (v := false) rfl rfl (ow_load (v := .int .i64 ra7.think) ty3 H rfl 1 rfl rfl rfl rfl ?_)
          refine sr_want rfl (j := 12) (d := 82) rfl rfl rfl (v := false) rfl rfl (ow_fieldAddr fd43_2 ty3 rfl rfl (r := 2) rfl ?_)
          refine sr_want rfl (j := 12) (d := 82) rfl rfl rfl (v := false) rfl rfl (ow_load (v := .int .i64 rb9.think) ty3 H rfl 0 rfl rfl rfl rfl ?_)
          refine sr_want rfl (j := 12) (d := 82) rfl rfl rfl (v := false) rfl rfl (ow_neq rfl rfl ?_)
          refine sr_op rfl rfl (ow_pick (v := .bool (!decide (ra7.think = rb9.think))) rfl rfl ?_)
          exact sr_live [88, 2, 3, 5, 6, 7] (again _ _ ⟨_, _, rfl, H, by rw [hg] <;> rfl⟩)
        · refine sr_pass rfl (j := 12) (d := 82) rfl rfl rfl (u := true) (v := false) rfl rfl ?_
          refine sr_pass rfl (j := 12) (d := 82) rfl rfl rfl (u := true) (v := false) rfl rfl ?_
          refine sr_pass rfl (j := 12) (d := 82) rfl rfl rfl (u := true) (v := false) rfl rfl ?_
          refine sr_pass rfl (j := 12) (d := 82) rfl rfl rfl (u := true) (v := false) rfl rfl ?_
          refine sr_pass rfl (j := 12) (d := 82) rfl rfl rfl (u := true) (v := false) rfl rfl ?_
          refine sr_op rfl rfl (ow_pick (v := .bool true) rfl rfl ?_)
          exact sr_live [88, 2, 3, 5, 6, 7] (again _ _ ⟨_, _, rfl, H, by rw [hg] <;> rfl⟩)
      rintro _ _ ⟨r, _, rfl, H, rfl⟩
      refine sr_op rfl rfl (ow_move (v := .bool (((!decide (ra7.kind = rb9.kind)) || (!decide (ra7.kindNo = rb9.kindNo))) || (!decide (ra7.think = rb9.think)))) rfl ?_)
      refine sr_cut 7 (fun m_ w_ => ∃ (r_ : Sl) (v_ : Bool), m_ = (96, .bool v_) :: (2, .pointer (some ⟨g1, 0, none⟩)) :: (3, .pointer (some ⟨g2, 0, none⟩)) :: (5, .int .i64 (i : Int)) :: r_ ∧ Hp B I w_ ((g10, Ob [.string rb9.kind, .int .i64 rb9.kindNo, .int .i64 rb9.think, .int .i64 rb9.expr.kind, .int .i64 rb9.expr.n, .int .i64 rb9.expr.no, .string rb9.expr.name, .slice A9 rb9.expr.l.length c9] 43) :: (g8, Ob [.string ra7.kind, .int .i64 ra7.kindNo, .int .i64 ra7.think, .int .i64 ra7.expr.kind, .int .i64 ra7.expr.n, .int .i64 ra7.expr.no, .string ra7.expr.name, .slice A7 ra7.expr.l.length c7] 43) :: (g2, Ob [.string q.name, .slice Ak2 q.kinds.length ck2, .slice Ao2 q.offices.length co2, .slice Ar2 q.rules.length cr2, .int .i64 q.change.kind, .int .i64 q.change.n, .int .i64 q.change.no, .string q.change.name, .slice Ac2 q.change.l.length cc2, .int .i64 q.mode] 28) :: (g1, Ob [.string p.name, .slice Ak p.kinds.length ck, .slice Ao p.offices.length co, .slice Ar p.rules.length cr, .int .i64 p.change.kind, .int .i64 p.change.n, .int .i64 p.change.no, .string p.change.name, .slice Ac p.change.l.length cc, .int .i64 p.mode] 28) :: L) ∧ v_ = ((((!decide (ra7.kind = rb9.kind)) || (!decide (ra7.kindNo = rb9.kindNo))) || (!decide (ra7.think = rb9.think))) || (!(sameX ra7.expr rb9.expr)))) (fun again => ?_) ?_
      · rcases hg : ((!decide (ra7.kind = rb9.kind)) || (!decide (ra7.kindNo = rb9.kindNo))) || (!decide (ra7.think = rb9.think)) with _ | _
        · refine sr_want rfl (j := 19) (d := 89) rfl rfl rfl (v := false) rfl rfl (ow_fieldAddr fd43_3 ty26 rfl rfl (r := 3) rfl ?_)
          refine sr_want rfl (j := 19) (d := 89) rfl rfl rfl (v := false) rfl rfl (ow_load (v := .agg #[.int .i64 ra7.expr.kind, .int .i64 ra7.expr.n, .int .i64 ra7.expr.no, .string ra7.expr.name, .slice A7 ra7.expr.l.length c7]) ty26 H rfl 1 rfl rfl rfl rfl ?_)
          refine sr_want rfl (j := 19) (d := 89) rfl rfl rfl (v := false) rfl rfl (ow_fieldAddr fd43_3 ty26 rfl rfl (r := 3) rfl ?_)
          refine sr_want rfl (j := 19) (d := 89) rfl rfl rfl (v := false) rfl rfl (ow_load (v := .agg #[.int .i64 rb9.expr.kind, .int .i64 rb9.expr.n, .int .i64 rb9.expr.no, .string rb9.expr.name, .slice A9 rb9.expr.l.length c9]) ty26 H rfl 0 rfl rfl rfl rfl ?_)
          refine sr_want rfl (j := 19) (d := 89) rfl rfl rfl (v := false) rfl rfl (ow_call en67 rfl (SameExpr_c ra7.expr.pc (x := ra7.expr) (y := rb9.expr) (Nat.le_refl _) H (ex_iff.2 ⟨_, rfl, ra7k, ra7n, ra7o, ra7s, ra7l⟩) (ex_iff.2 ⟨_, rfl, rb9k, rb9n, rb9o, rb9s, rb9l⟩)) ?_)
          rintro _ _ ⟨rfl, H⟩
          refine sr_want rfl (j := 19) (d := 89) rfl rfl rfl (v := false) rfl rfl (ow_not rfl ?_)
          refine sr_op rfl rfl (ow_pick (v := .bool (!(sameX ra7.expr rb9.expr))) rfl rfl ?_)
          exact sr_live [96, 2, 3, 5] (again _ _ ⟨_, _, rfl, H, by rw [hg] <;> rfl⟩)
        · refine sr_pass rfl (j := 19) (d := 89) rfl rfl rfl (u := true) (v := false) rfl rfl ?_
          refine sr_pass rfl (j := 19) (d := 89) rfl rfl rfl (u := true) (v := false) rfl rfl ?_
          refine sr_pass rfl (j := 19) (d := 89) rfl rfl rfl (u := true) (v := false) rfl rfl ?_
          refine sr_pass rfl (j := 19) (d := 89) rfl rfl rfl (u := true) (v := false) rfl rfl ?_
          refine sr_pass rfl (j := 19) (d := 89) rfl rfl rfl (u := true) (v := false) rfl rfl ?_
          refine sr_pass rfl (j := 19) (d := 89) rfl rfl rfl (u := true) (v := false) rfl rfl ?_
          refine sr_op rfl rfl (ow_pick (v := .bool true) rfl rfl ?_)
          exact sr_live [96, 2, 3, 5] (again _ _ ⟨_, _, rfl, H, by rw [hg] <;> rfl⟩)
      rintro _ _ ⟨r, _, rfl, H, rfl⟩
      refine sr_nil ?_
      refine st_cond ((((!decide (ra7.kind = rb9.kind)) || (!decide (ra7.kindNo = rb9.kindNo))) || (!decide (ra7.think = rb9.think))) || (!(sameX ra7.expr rb9.expr))) rfl (fun hc11 => ?_) (fun hc11 => ?_)
      · refine st_seq ?_
        refine st_region ?_
        refine sr_op rfl rfl (ow_assign (v := .bool false) rfl ?_)
        refine sr_nil ?_
        refine st_ret hb (hR _ _ (.bool false) (res_run (vs := [.bool false]) Tryd.results21 ⟨_, _, rfl, rfl, rfl⟩) ?_)
        exact ⟨_, rfl, by rw [sameP, ha, drop_some he7, drop_some he9, sameRs, sameR, or4 hc11, Bool.false_and, Bool.and_false, Bool.false_and], H.drop 4⟩
      · refine st_skip ?_
        refine st_inBlock ?_
        refine st_region ?_
        refine sr_op rfl rfl (ow_move (v := .int .i64 (i : Int)) rfl ?_)
        refine sr_op rfl rfl (ow_add (r := ((i + 1 : Nat) : Int)) rfl rfl (inc_i64 (by omega)) ?_)
        refine sr_op rfl rfl (ow_assign (v := .int .i64 ((i + 1 : Nat) : Int)) rfl ?_)
        refine sr_nil ?_
        exact st_inLoop (st_live [2, 3, 5] (ih5 _ _ _ (by omega) ⟨i + 1, _, rfl, rfl, H.drop 2, by omega, by rw [ha, drop_some he7, drop_some he9, sameRs, sameR, or4n hc11, Bool.true_and]⟩))
    · have hc6 := of_decide_eq_false hc6
      refine st_exit rfl ?_
      refine st_seq ?_
      refine st_region ?_
      refine sr_op rfl rfl (ow_assign (v := .bool true) rfl ?_)
      refine sr_nil ?_
      refine st_ret hb (hR _ _ (.bool true) (res_run (vs := [.bool true]) Tryd.results21 ⟨_, _, rfl, rfl, rfl⟩) ?_)
      have h1 : p.rules.drop i = [] := List.drop_of_length_le (by omega)
      have h2 : q.rules.drop i = [] := List.drop_of_length_le (by omega)
      exact ⟨_, rfl, by rw [sameP, ha, h1, h2, hsc, hch]; rfl, H.drop 2⟩
theorem names_eq (p : Po) : namesB p = (((freeB p.name && distB p.offices) && distB p.kinds) && (p.rules.all (fun r => allX (offG p.offices) r.expr) && allX (offG p.offices) p.change)) := by
  rw [namesB, exprs_all]
  simp only [namedX_all]
theorem or3 {a b c : Bool} (h : ((!a || !b) || !c) = true) : ((a && b) && c) = false := by
  cases a <;> cases b <;> cases c <;> first | rfl | cases h
theorem or3n {a b c : Bool} (h : ((!a || !b) || !c) = false) : ((a && b) && c) = true := by
  cases a <;> cases b <;> cases c <;> first | rfl | cases h
theorem refNames_c {B I L w} (H : Hp B I w L) {p : Po} {us : List Value} (hp : RepL I (encPo p) us) : Calls Tryd.prog 63 #[.agg us.toArray] w (Rt fun r w' => r = .bool (namesB p) ∧ Hp B I w' L) := by
  obtain ⟨v1, v2, v3, v4, rfl, hpn, hpk, hpo, hpr, hck, hcn, hcno, hcs, hcl, hpm⟩ := po_iff.1 hp
  obtain ⟨Ak, ck, rfl, hckl, hckm, hpk⟩ := RepS.open_ hpk
  obtain ⟨Ao, co, rfl, hcol, hcom, hpo⟩ := RepS.open_ hpo
  obtain ⟨Ar, cr, rfl, hcrl, hcrm, hpr⟩ := RepS.open_ hpr
  obtain ⟨Ac, cc, rfl, hccl, hccm, hcl⟩ := RepS.open_ hcl
  refine calls_st (n := 42) Tryd.func63 rfl rfl rfl ?_
  intro G bF cs hb hfn hR hP
  simp only [ini]
  refine st_seq ?_
  refine st_region ?_
  refine sr_op rfl rfl (ow_box H (v := .agg #[.string p.name, .slice Ak p.kinds.length ck, .slice Ao p.offices.length co, .slice Ar p.rules.length cr, .int .i64 p.change.kind, .int .i64 p.change.n, .int .i64 p.change.no, .string p.change.name, .slice Ac p.change.l.length cc, .int .i64 p.mode]) rfl [.string p.name, .slice Ak p.kinds.length ck, .slice Ao p.offices.length co, .slice Ar p.rules.length cr, .int .i64 p.change.kind, .int .i64 p.change.n, .int .i64 p.change.no, .string p.change.name, .slice Ac p.change.l.length cc, .int .i64 p.mode] rfl (fun g1 _ H => ?_))
  refine sr_op rfl rfl (ow_assign (v := .bool false) rfl ?_)
  refine sr_nil ?_
  refine st_seq ?_
  refine st_seq ?_
  refine st_region ?_
  refine sr_op rfl rfl (ow_fieldAddr fd28_0 ty9 rfl rfl (r := 0) rfl ?_)
  refine sr_op rfl rfl (ow_load (v := .string p.name) ty9 H rfl 0 rfl rfl rfl rfl ?_)
  refine sr_op rfl rfl (ow_call en102 rfl (Free_c H p.name hpn) ?_)
  rintro _ _ ⟨rfl, H⟩
  refine sr_op rfl rfl (ow_not rfl ?_)
  refine sr_op rfl rfl (ow_move (v := .bool (!(freeB p.name))) rfl ?_)
  refine sr_cut 5 (fun m_ w_ => ∃ (r_ : Sl) (v_ : Bool), m_ = (13, .bool v_) :: (1, .pointer (some ⟨g1, 0, none⟩)) :: (2, .bool false) :: r_ ∧ Hp B I w_ ((g1, Ob [.string p.name, .slice Ak p.kinds.length ck, .slice Ao p.offices.length co, .slice Ar p.rules.length cr, .int .i64 p.change.kind, .int .i64 p.change.n, .int .i64 p.change.no, .string p.change.name, .slice Ac p.change.l.length cc, .int .i64 p.mode] 28) :: L) ∧ v_ = ((!(freeB p.name)) || (!(distB p.offices)))) (fun again => ?_) ?_
  · rcases hg : !(freeB p.name) with _ | _
    · refine sr_want rfl (j := 4) (d := 8) rfl rfl rfl (v := false) rfl rfl (ow_fieldAddr fd28_2 ty22 rfl rfl (r := 2) rfl ?_)
      refine sr_want rfl (j := 4) (d := 8) rfl rfl rfl (v := false) rfl rfl (ow_load (v := .slice Ao p.offices.length co) ty22 H rfl 0 rfl rfl rfl rfl ?_)
      refine sr_want rfl (j := 4) (d := 8) rfl rfl rfl (v := false) rfl rfl (ow_call en103 rfl (refDistinct_c H hpo) ?_)
      rintro _ _ ⟨rfl, H⟩
      refine sr_want rfl (j := 4) (d := 8) rfl rfl rfl (v := false) rfl rfl (ow_not rfl ?_)
      refine sr_op rfl rfl (ow_pick (v := .bool (!(distB p.offices))) rfl rfl ?_)
      exact sr_live [13, 1, 2] (again _ _ ⟨_, _, rfl, H, by rw [hg] <;> rfl⟩)
    · refine sr_pass rfl (j := 4) (d := 8) rfl rfl rfl (u := true) (v := false) rfl rfl ?_
      refine sr_pass rfl (j := 4) (d := 8) rfl rfl rfl (u := true) (v := false) rfl rfl ?_
      refine sr_pass rfl (j := 4) (d := 8) rfl rfl rfl (u := true) (v := false) rfl rfl ?_
      refine sr_pass rfl (j := 4) (d := 8) rfl rfl rfl (u := true) (v := false) rfl rfl ?_
      refine sr_op rfl rfl (ow_pick (v := .bool true) rfl rfl ?_)
      exact sr_live [13, 1, 2] (again _ _ ⟨_, _, rfl, H, by rw [hg] <;> rfl⟩)
  rintro _ _ ⟨r, _, rfl, H, rfl⟩
  refine sr_op rfl rfl (ow_move (v := .bool ((!(freeB p.name)) || (!(distB p.offices)))) rfl ?_)
  refine sr_cut 5 (fun m_ w_ => ∃ (r_ : Sl) (v_ : Bool), m_ = (19, .bool v_) :: (1, .pointer (some ⟨g1, 0, none⟩)) :: (2, .bool false) :: r_ ∧ Hp B I w_ ((g1, Ob [.string p.name, .slice Ak p.kinds.length ck, .slice Ao p.offices.length co, .slice Ar p.rules.length cr, .int .i64 p.change.kind, .int .i64 p.change.n, .int .i64 p.change.no, .string p.change.name, .slice Ac p.change.l.length cc, .int .i64 p.mode] 28) :: L) ∧ v_ = (((!(freeB p.name)) || (!(distB p.offices))) || (!(distB p.kinds)))) (fun again => ?_) ?_
  · rcases hg : (!(freeB p.name)) || (!(distB p.offices)) with _ | _
    · refine sr_want rfl (j := 10) (d := 14) rfl rfl rfl (v := false) rfl rfl (ow_fieldAddr fd28_1 ty22 rfl rfl (r := 1) rfl ?_)
      refine sr_want rfl (j := 10) (d := 14) rfl rfl rfl (v := false) rfl rfl (ow_load (v := .slice Ak p.kinds.length ck) ty22 H rfl 0 rfl rfl rfl rfl ?_)
      refine sr_want rfl (j := 10) (d := 14) rfl rfl rfl (v := false) rfl rfl (ow_call en103 rfl (refDistinct_c H hpk) ?_)
      rintro _ _ ⟨rfl, H⟩
      refine sr_want rfl (j := 10) (d := 14) rfl rfl rfl (v := false) rfl rfl (ow_not rfl ?_)
      refine sr_op rfl rfl (ow_pick (v := .bool (!(distB p.kinds))) rfl rfl ?_)
      exact sr_live [19, 1, 2] (again _ _ ⟨_, _, rfl, H, by rw [hg] <;> rfl⟩)
    · refine sr_pass rfl (j := 10) (d := 14) rfl rfl rfl (u := true) (v := false) rfl rfl ?_
      refine sr_pass rfl (j := 10) (d := 14) rfl rfl rfl (u := true) (v := false) rfl rfl ?_
      refine sr_pass rfl (j := 10) (d := 14) rfl rfl rfl (u := true) (v := false) rfl rfl ?_
      refine sr_pass rfl (j := 10) (d := 14) rfl rfl rfl (u := true) (v := false) rfl rfl ?_
      refine sr_op rfl rfl (ow_pick (v := .bool true) rfl rfl ?_)
      exact sr_live [19, 1, 2] (again _ _ ⟨_, _, rfl, H, by rw [hg] <;> rfl⟩)
  rintro _ _ ⟨r, _, rfl, H, rfl⟩
  refine sr_nil ?_
  refine st_cond (((!(freeB p.name)) || (!(distB p.offices))) || (!(distB p.kinds))) rfl (fun hc2 => ?_) (fun hc2 => ?_)
  · refine st_seq ?_
    refine st_region ?_
    refine sr_op rfl rfl (ow_assign (v := .bool false) rfl ?_)
    refine sr_nil ?_
    refine st_ret hb (hR _ _ (.bool false) (res_run (vs := [.bool false]) Tryd.results63 ⟨_, _, rfl, rfl, rfl⟩) ?_)
    exact ⟨_, rfl, by rw [names_eq, or3 hc2]; rfl, H.drop 1⟩
  · refine st_skip ?_
    refine st_seq ?_
    refine st_seq ?_
    refine st_region ?_
    refine sr_op rfl rfl (ow_assign (v := .int .i64 0) rfl ?_)
    refine sr_nil ?_
    refine st_block ?_
    refine st_loop ?_
    refine st_live [1, 3] ?_
    refine st_ind (fun d_ m_ w_ => ∃ (i : Nat) (r_ : Sl), d_ = p.rules.length - i ∧ m_ = (1, .pointer (some ⟨g1, 0, none⟩)) :: (3, .int .i64 (i : Int)) :: r_ ∧ Hp B I w_ ((g1, Ob [.string p.name, .slice Ak p.kinds.length ck, .slice Ao p.offices.length co, .slice Ar p.rules.length cr, .int .i64 p.change.kind, .int .i64 p.change.n, .int .i64 p.change.no, .string p.change.name, .slice Ac p.change.l.length cc, .int .i64 p.mode] 28) :: L) ∧ i ≤ p.rules.length ∧ (p.rules.take i).all (fun r => allX (offG p.offices) r.expr) = true) _ ⟨0, _, rfl, rfl, H, Nat.zero_le _, rfl⟩ ?_
    rintro _ _ _ ⟨i, r3, rfl, rfl, H, hi, ha⟩ ih4
    refine st_seq ?_
    refine st_seq ?_
    refine st_region ?_
    refine sr_op rfl rfl (ow_move (v := .int .i64 (i : Int)) rfl ?_)
    refine sr_op rfl rfl (ow_fieldAddr fd28_3 ty23 rfl rfl (r := 3) rfl ?_)
    refine sr_op rfl rfl (ow_load (v := .slice Ar p.rules.length cr) ty23 H rfl 0 rfl rfl rfl rfl ?_)
    refine sr_op rfl rfl (ow_lenS sl23 rfl rfl ?_)
    refine sr_op rfl rfl (ow_lss rfl rfl ?_)
    refine sr_nil ?_
    refine st_cond (decide ((i : Int) < (p.rules.length : Int))) rfl (fun hc5 => ?_) (fun hc5 => ?_)
    · have hc5 := of_decide_eq_true hc5
      refine st_skip ?_
      refine st_seq ?_
      refine st_block ?_
      refine st_seq ?_
      obtain ⟨r6, he6⟩ : ∃ q_, p.rules[i]? = some q_ := ⟨_, List.getElem?_eq_getElem (by omega)⟩
      obtain ⟨b6, o6, us6, hA6, hat6, hul6, hr6⟩ := RepS.get hpr he6
      obtain ⟨v6, rfl, r6K, r6Kn, r6Th, r6k, r6n, r6o, r6s, r6l⟩ := ru_iff.1 hr6
      obtain ⟨A6, c6, rfl, r6c, r6m, r6l⟩ := RepS.open_ r6l
      refine st_draw (F := (fun w_ => ∃ I2, Le I I2 ∧ Hp B I2 w_ [(g1, Ob [.string p.name, .slice Ak p.kinds.length ck, .slice Ao p.offices.length co, .slice Ar p.rules.length cr, .int .i64 p.change.kind, .int .i64 p.change.n, .int .i64 p.change.no, .string p.change.name, .slice Ac p.change.l.length cc, .int .i64 p.mode] 28)])) (p0 := [0, 1, 2, 3, 4, 5, 6, 7]) (plan := [(8, [9], [])]) [] [] [(34, .agg #[.int .i64 r6.expr.kind, .int .i64 r6.expr.n, .int .i64 r6.expr.no, .string r6.expr.name, .slice A6 r6.expr.l.length c6]), (33, .pointer (some ⟨b6, o6 + i * 8 + 3, none⟩)), (32, .pointer (some ⟨b6, o6 + i * 8, none⟩)), (31, .int .i64 (i : Int)), (30, .slice Ar p.rules.length cr), (29, .pointer (some ⟨g1, 3, none⟩)), (28, .slice Ao p.offices.length co), (27, .pointer (some ⟨g1, 2, none⟩))] (by kernel_rfl) rfl ?_ ⟨_, Le.refl _, H.drew.pick [0] (by decide)⟩ ?_
      · refine ⟨kn_op rfl rfl (wantB_none rfl) fun _ hF2 => ?_, ?_⟩
        · obtain ⟨_, hle2, H2⟩ := hF2
          refine  (ow_fieldAddr fd28_2 ty22 rfl rfl (r := 2) rfl ?_)
          exact ⟨rfl, rfl⟩
        refine ⟨kn_op rfl rfl (wantB_none rfl) fun _ hF2 => ?_, ?_⟩
        · obtain ⟨_, hle2, H2⟩ := hF2
          refine  (ow_load (v := .slice Ao p.offices.length co) ty22 H2 rfl 0 rfl rfl rfl rfl ?_)
          exact ⟨rfl, rfl⟩
        refine ⟨kn_op rfl rfl (wantB_none rfl) fun _ hF2 => ?_, ?_⟩
        · obtain ⟨_, hle2, H2⟩ := hF2
          refine  (ow_fieldAddr fd28_3 ty23 rfl rfl (r := 3) rfl ?_)
          exact ⟨rfl, rfl⟩
        refine ⟨kn_op rfl rfl (wantB_none rfl) fun _ hF2 => ?_, ?_⟩
        · obtain ⟨_, hle2, H2⟩ := hF2
          refine  (ow_load (v := .slice Ar p.rules.length cr) ty23 H2 rfl 0 rfl rfl rfl rfl ?_)
          exact ⟨rfl, rfl⟩
        refine ⟨kn_op rfl rfl (wantB_none rfl) fun _ hF2 => ?_, ?_⟩
        · obtain ⟨_, hle2, H2⟩ := hF2
          refine  (ow_move (v := .int .i64 (i : Int)) rfl ?_)
          exact ⟨rfl, rfl⟩
        refine ⟨kn_op rfl rfl (wantB_none rfl) fun _ hF2 => ?_, ?_⟩
        · obtain ⟨_, hle2, H2⟩ := hF2
          refine  (ow_indexAddrA sl23 ty43 hA6 rfl rfl (by omega) (by omega) (r := o6 + i * 8) rfl ?_)
          exact ⟨rfl, rfl⟩
        refine ⟨kn_op rfl rfl (wantB_none rfl) fun _ hF2 => ?_, ?_⟩
        · obtain ⟨_, hle2, H2⟩ := hF2
          refine  (ow_fieldAddr fd43_3 ty26 rfl rfl (r := o6 + i * 8 + 3) rfl ?_)
          exact ⟨rfl, rfl⟩
        refine ⟨kn_op rfl rfl (wantB_none rfl) fun _ hF2 => ?_, ?_⟩
        · obtain ⟨_, hle2, H2⟩ := hF2
          refine  (ow_loadI (v := .agg #[.int .i64 r6.expr.kind, .int .i64 r6.expr.n, .int .i64 r6.expr.no, .string r6.expr.name, .slice A6 r6.expr.l.length c6]) ty26 H2 rfl (At.mono hle2 (At.sub (vs := [.int .i64 r6.expr.kind, .int .i64 r6.expr.n, .int .i64 r6.expr.no, .string r6.expr.name, .slice A6 r6.expr.l.length c6]) hat6 3 rfl)) rfl rfl rfl ?_)
          exact ⟨rfl, rfl⟩
        exact trivial
      have H := H.drew
      refine cw_op rfl (wantB_none rfl) (ow_call en104 rfl (named_c r6.expr.pc (x := r6.expr) (Nat.le_refl _) H hpo (ex_iff.2 ⟨_, rfl, r6k, r6n, r6o, r6s, r6l⟩)) ?_)
      rintro _ _ ⟨rfl, H⟩
      refine af_some [(36, .bool (!(allX (offG p.offices) r6.expr)))] (fun w_ => ∃ I2, Le I I2 ∧ Hp B I2 w_ [(g1, Ob [.string p.name, .slice Ak p.kinds.length ck, .slice Ao p.offices.length co, .slice Ar p.rules.length cr, .int .i64 p.change.kind, .int .i64 p.change.n, .int .i64 p.change.no, .string p.change.name, .slice Ac p.change.l.length cc, .int .i64 p.mode] 28)]) rfl ⟨_, Le.refl _, H.pick [0] (by decide)⟩ ?_ ?_
      · refine ⟨kn_op rfl rfl (wantB_none rfl) fun _ hF2 => ?_, ?_⟩
        · obtain ⟨_, hle2, H2⟩ := hF2
          refine  (ow_not rfl ?_)
          exact ⟨rfl, rfl⟩
        exact trivial
      refine cw_nil ?_
      refine st_cond (!(allX (offG p.offices) r6.expr)) rfl (fun hc7 => ?_) (fun hc7 => ?_)
      · refine st_seq ?_
        refine st_region ?_
        refine sr_op rfl rfl (ow_assign (v := .bool false) rfl ?_)
        refine sr_nil ?_
        refine st_ret hb (hR _ _ (.bool false) (res_run (vs := [.bool false]) Tryd.results63 ⟨_, _, rfl, rfl, rfl⟩) ?_)
        exact ⟨_, rfl, by rw [names_eq, all_bad he6 (f := fun r => allX (offG p.offices) r.expr) (bnt hc7), Bool.false_and, Bool.and_false], H.drop 1⟩
      · refine st_skip ?_
        refine st_inBlock ?_
        refine st_region ?_
        refine sr_op rfl rfl (ow_move (v := .int .i64 (i : Int)) rfl ?_)
        refine sr_op rfl rfl (ow_add (r := ((i + 1 : Nat) : Int)) rfl rfl (inc_i64 (by omega)) ?_)
        refine sr_op rfl rfl (ow_assign (v := .int .i64 ((i + 1 : Nat) : Int)) rfl ?_)
        refine sr_nil ?_
        exact st_inLoop (st_live [1, 3] (ih4 _ _ _ (by omega) ⟨i + 1, _, rfl, rfl, H, by omega, all_take he6 ha (bnf hc7)⟩))
    · have hc5 := of_decide_eq_false hc5
      refine st_exit rfl ?_
      refine st_seq ?_
      refine st_region ?_
      refine sr_op rfl rfl (ow_fieldAddr fd28_2 ty22 rfl rfl (r := 2) rfl ?_)
      refine sr_op rfl rfl (ow_load (v := .slice Ao p.offices.length co) ty22 H rfl 0 rfl rfl rfl rfl ?_)
      refine sr_op rfl rfl (ow_fieldAddr fd28_4 ty26 rfl rfl (r := 4) rfl ?_)
      refine sr_op rfl rfl (ow_load (v := .agg #[.int .i64 p.change.kind, .int .i64 p.change.n, .int .i64 p.change.no, .string p.change.name, .slice Ac p.change.l.length cc]) ty26 H rfl 0 rfl rfl rfl rfl ?_)
      refine sr_op rfl rfl (ow_call en104 rfl (named_c p.change.pc (x := p.change) (Nat.le_refl _) H hpo (ex_iff.2 ⟨_, rfl, hck, hcn, hcno, hcs, hcl⟩)) ?_)
      rintro _ _ ⟨rfl, H⟩
      refine sr_op rfl rfl (ow_assign (v := .bool (allX (offG p.offices) p.change)) rfl ?_)
      refine sr_nil ?_
      refine st_ret hb (hR _ _ (.bool (allX (offG p.offices) p.change)) (res_run (vs := [.bool (allX (offG p.offices) p.change)]) Tryd.results63 ⟨_, _, rfl, rfl, rfl⟩) ?_)
      have ht : p.rules.take i = p.rules := List.take_of_length_le (by omega)
      rw [ht] at ha
      exact ⟨_, rfl, by rw [names_eq, or3n hc2, ha]; rfl, H.drop 1⟩
def rulesG (ks : List ByteArray) : List Ru → Nat → Bool
  | [], _ => true
  | r :: l, i => (match ks[i]? with | some k => ruleOk k r && allX (partG true) r.expr | none => false) && rulesG ks l (i + 1)
theorem rulesG_eq (ks : List ByteArray) : ∀ (l : List Ru) (i : Nat), rulesG ks l i = (rulesF ks l i && l.all (fun r => allX (partG true) r.expr))
  | [], i => rfl
  | r :: l, i => by
    rw [rulesG, rulesF, rulesG_eq ks l (i + 1), List.all_cons]
    cases ks[i]? with
    | none => rfl
    | some k =>
      simp only
      cases ruleOk k r <;> cases allX (partG true) r.expr <;> cases rulesF ks l (i + 1) <;> rfl
theorem rulesG_step {ks : List ByteArray} {l : List Ru} {i : Nat} {r : Ru} {k : ByteArray} (hr : l[i]? = some r) (hk : ks[i]? = some k) : rulesG ks (l.drop i) i = ((ruleOk k r && allX (partG true) r.expr) && rulesG ks (l.drop (i + 1)) (i + 1)) := by
  rw [drop_some hr, rulesG, hk]
theorem formF_snoc (y : Ex) : ∀ (l : List Ex) (i : Nat) (m : Int), m = ((i + l.length : Nat) : Int) → formF m (l ++ [y]) i = (l.all (allX (partG true)) && allX (partG false) y)
  | [], i, m, h => by
    simp only [List.nil_append, formF, List.all_nil, Bool.true_and, Bool.and_true]
    rw [show decide ((i : Int) < m) = false by rw [decide_eq_false_iff_not]; simp at h; omega, form_all]
  | x :: l, i, m, h => by
    rw [List.cons_append, formF, formF_snoc y l (i + 1) m (by rw [h]; simp only [List.length_cons]; congr 1; omega), List.all_cons]
    rw [show decide ((i : Int) < m) = true by rw [decide_eq_true_eq, h]; simp only [List.length_cons]; omega, form_all, Bool.and_assoc]
theorem form_eq (p : Po) : formB p = (((decide (0 < (p.kinds.length : Int)) && decide ((p.rules.length : Int) = (p.kinds.length : Int))) && withinB p.mode 1 4) && (rulesG p.kinds p.rules 0 && allX (partG false) p.change)) := by
  rw [formB, rulesG_eq]
  have : formF ((exprs p).length - 1) (exprs p) 0 = (p.rules.all (fun r => allX (partG true) r.expr) && allX (partG false) p.change) := by
    unfold exprs
    rw [formF_snoc _ _ _ _ (by simp), List.all_map]
    rfl
  rw [this]
  simp only [Bool.and_assoc]
theorem formed_no {n k : Nat} {m : Int} (h : (((decide ((k : Int) < 1) || !decide ((n : Int) = (k : Int))) || decide (m < 1)) || decide (4 < m)) = true) : ((decide (0 < (k : Int)) && decide ((n : Int) = (k : Int))) && withinB m 1 4) = false := by
  rw [Bool.eq_false_iff]
  intro h2
  simp only [withinB, Bool.and_eq_true, Bool.or_eq_true, decide_eq_true_eq, Bool.not_eq_true', decide_eq_false_iff_not] at h h2
  omega
theorem formed_yes {n k : Nat} {m : Int} (h : (((decide ((k : Int) < 1) || !decide ((n : Int) = (k : Int))) || decide (m < 1)) || decide (4 < m)) = false) : ((decide (0 < (k : Int)) && decide ((n : Int) = (k : Int))) && withinB m 1 4) = true := by
  simp only [withinB, Bool.and_eq_true, Bool.or_eq_false_iff, decide_eq_true_eq, decide_eq_false_iff_not, Bool.not_eq_false'] at h ⊢
  omega
theorem rule_no {k : ByteArray} {r : Ru} {b : Bool} (h : (!decide (r.kind = k) || (decide (r.think < 0) || (decide (1099511627776 ≤ r.think) || !b))) = true) : (ruleOk k r && b) = false := by
  cases b with
  | false => rw [Bool.and_false]
  | true =>
    rw [Bool.eq_false_iff]
    intro h2
    simp only [ruleOk, withinB, Bool.and_eq_true, Bool.or_eq_true, decide_eq_true_eq, Bool.not_eq_true', decide_eq_false_iff_not, Bool.not_true, Bool.or_false, Bool.and_true] at h h2
    rcases h with h | h | h
    · exact h h2.1
    · omega
    · omega
theorem rule_yes {k : ByteArray} {r : Ru} {b : Bool} (h : (!decide (r.kind = k) || (decide (r.think < 0) || (decide (1099511627776 ≤ r.think) || !b))) = false) : (ruleOk k r && b) = true := by
  simp only [ruleOk, withinB, Bool.and_eq_true, Bool.or_eq_false_iff, decide_eq_true_eq, decide_eq_false_iff_not, Bool.not_eq_false'] at h ⊢
  exact ⟨⟨h.1, by omega, by omega⟩, h.2.2.2⟩
theorem refFormed_c {B I L w} (H : Hp B I w L) {p : Po} {us : List Value} (hp : RepL I (encPo p) us) : Calls Tryd.prog 64 #[.agg us.toArray] w (Rt fun r w' => r = .bool (formB p) ∧ Hp B I w' L) := by
  obtain ⟨v1, v2, v3, v4, rfl, hpn, hpk, hpo, hpr, hck, hcn, hcno, hcs, hcl, hpm⟩ := po_iff.1 hp
  obtain ⟨Ak, ck, rfl, hckl, hckm, hpk⟩ := RepS.open_ hpk
  obtain ⟨Ao, co, rfl, hcol, hcom, hpo⟩ := RepS.open_ hpo
  obtain ⟨Ar, cr, rfl, hcrl, hcrm, hpr⟩ := RepS.open_ hpr
  obtain ⟨Ac, cc, rfl, hccl, hccm, hcl⟩ := RepS.open_ hcl
  refine calls_st (n := 67) Tryd.func64 rfl rfl rfl ?_
  intro G bF cs hb hfn hR hP
  simp only [ini]
  refine st_seq ?_
  refine st_region ?_
  refine sr_op rfl rfl (ow_box H (v := .agg #[.string p.name, .slice Ak p.kinds.length ck, .slice Ao p.offices.length co, .slice Ar p.rules.length cr, .int .i64 p.change.kind, .int .i64 p.change.n, .int .i64 p.change.no, .string p.change.name, .slice Ac p.change.l.length cc, .int .i64 p.mode]) rfl [.string p.name, .slice Ak p.kinds.length ck, .slice Ao p.offices.length co, .slice Ar p.rules.length cr, .int .i64 p.change.kind, .int .i64 p.change.n, .int .i64 p.change.no, .string p.change.name, .slice Ac p.change.l.length cc, .int .i64 p.mode] rfl (fun g1 _ H => ?_))
  refine sr_op rfl rfl (ow_assign (v := .bool false) rfl ?_)
  refine sr_nil ?_
  refine st_seq ?_
  refine st_seq ?_
  refine st_region ?_
  refine sr_op rfl rfl (ow_fieldAddr fd28_1 ty22 rfl rfl (r := 1) rfl ?_)
  refine sr_op rfl rfl (ow_load (v := .slice Ak p.kinds.length ck) ty22 H rfl 0 rfl rfl rfl rfl ?_)
  refine sr_op rfl rfl (ow_lenS sl22 rfl rfl ?_)
  refine sr_op rfl rfl (ow_lss rfl rfl ?_)
  refine sr_op rfl rfl (ow_move (v := .bool (decide ((p.kinds.length : Int) < 1))) rfl ?_)
  refine sr_cut 8 (fun m_ w_ => ∃ (r_ : Sl) (v_ : Bool), m_ = (17, .bool v_) :: (1, .pointer (some ⟨g1, 0, none⟩)) :: (2, .bool false) :: r_ ∧ Hp B I w_ ((g1, Ob [.string p.name, .slice Ak p.kinds.length ck, .slice Ao p.offices.length co, .slice Ar p.rules.length cr, .int .i64 p.change.kind, .int .i64 p.change.n, .int .i64 p.change.no, .string p.change.name, .slice Ac p.change.l.length cc, .int .i64 p.mode] 28) :: L) ∧ v_ = ((decide ((p.kinds.length : Int) < 1)) || (!decide ((p.rules.length : Int) = (p.kinds.length : Int))))) (fun again => ?_) ?_
  · rcases hg : decide ((p.kinds.length : Int) < 1) with _ | _
    · refine sr_want rfl (j := 4) (d := 9) rfl rfl rfl (v := false) rfl rfl (ow_fieldAddr fd28_3 ty23 rfl rfl (r := 3) rfl ?_)
      refine sr_want rfl (j := 4) (d := 9) rfl rfl rfl (v := false) rfl rfl (ow_load (v := .slice Ar p.rules.length cr) ty23 H rfl 0 rfl rfl rfl rfl ?_)
      refine sr_want rfl (j := 4) (d := 9) rfl rfl rfl (v := false) rfl rfl (ow_lenS sl23 rfl rfl ?_)
      refine sr_want rfl (j := 4) (d := 9) rfl rfl rfl (v := false) rfl rfl (ow_fieldAddr fd28_1 ty22 rfl rfl (r := 1) rfl ?_)
      refine sr_want rfl (j := 4) (d := 9) rfl rfl rfl (v := false) rfl rfl (ow_load (v := .slice Ak p.kinds.length ck) ty22 H rfl 0 rfl rfl rfl rfl ?_)
      refine sr_want rfl (j := 4) (d := 9) rfl rfl rfl (v := false) rfl rfl (ow_lenS sl22 rfl rfl ?_)
      refine sr_want rfl (j := 4) (d := 9) rfl rfl rfl (v := false) rfl rfl (ow_neq rfl rfl ?_)
      refine sr_op rfl rfl (ow_pick (v := .bool (!decide ((p.rules.length : Int) = (p.kinds.length : Int)))) rfl rfl ?_)
      exact sr_live [17, 1, 2] (again _ _ ⟨_, _, rfl, H, by rw [hg] <;> rfl⟩)
    · refine sr_pass rfl (j := 4) (d := 9) rfl rfl rfl (u := true) (v := false) rfl rfl ?_
      refine sr_pass rfl (j := 4) (d := 9) rfl rfl rfl (u := true) (v := false) rfl rfl ?_
      refine sr_pass rfl (j := 4) (d := 9) rfl rfl rfl (u := true) (v := false) rfl rfl ?_
      refine sr_pass rfl (j := 4) (d := 9) rfl rfl rfl (u := true) (v := false) rfl rfl ?_
      refine sr_pass rfl (j := 4) (d := 9) rfl rfl rfl (u := true) (v := false) rfl rfl ?_
      refine sr_pass rfl (j := 4) (d := 9) rfl rfl rfl (u := true) (v := false) rfl rfl ?_
      refine sr_pass rfl (j := 4) (d := 9) rfl rfl rfl (u := true) (v := false) rfl rfl ?_
      refine sr_op rfl rfl (ow_pick (v := .bool true) rfl rfl ?_)
      exact sr_live [17, 1, 2] (again _ _ ⟨_, _, rfl, H, by rw [hg] <;> rfl⟩)
  rintro _ _ ⟨r, _, rfl, H, rfl⟩
  refine sr_op rfl rfl (ow_move (v := .bool ((decide ((p.kinds.length : Int) < 1)) || (!decide ((p.rules.length : Int) = (p.kinds.length : Int))))) rfl ?_)
  refine sr_cut 4 (fun m_ w_ => ∃ (r_ : Sl) (v_ : Bool), m_ = (22, .bool v_) :: (1, .pointer (some ⟨g1, 0, none⟩)) :: (2, .bool false) :: r_ ∧ Hp B I w_ ((g1, Ob [.string p.name, .slice Ak p.kinds.length ck, .slice Ao p.offices.length co, .slice Ar p.rules.length cr, .int .i64 p.change.kind, .int .i64 p.change.n, .int .i64 p.change.no, .string p.change.name, .slice Ac p.change.l.length cc, .int .i64 p.mode] 28) :: L) ∧ v_ = (((decide ((p.kinds.length : Int) < 1)) || (!decide ((p.rules.length : Int) = (p.kinds.length : Int)))) || (decide (p.mode < 1)))) (fun again => ?_) ?_
  · rcases hg : (decide ((p.kinds.length : Int) < 1)) || (!decide ((p.rules.length : Int) = (p.kinds.length : Int))) with _ | _
    · refine sr_want rfl (j := 13) (d := 18) rfl rfl rfl (v := false) rfl rfl (ow_fieldAddr fd28_5 ty3 rfl rfl (r := 9) rfl ?_)
      refine sr_want rfl (j := 13) (d := 18) rfl rfl rfl (v := false) rfl rfl (ow_load (v := .int .i64 p.mode) ty3 H rfl 0 rfl rfl rfl rfl ?_)
      refine sr_want rfl (j := 13) (d := 18) rfl rfl rfl (v := false) rfl rfl (ow_lss rfl rfl ?_)
      refine sr_op rfl rfl (ow_pick (v := .bool (decide (p.mode < 1))) rfl rfl ?_)
      exact sr_live [22, 1, 2] (again _ _ ⟨_, _, rfl, H, by rw [hg] <;> rfl⟩)
    · refine sr_pass rfl (j := 13) (d := 18) rfl rfl rfl (u := true) (v := false) rfl rfl ?_
      refine sr_pass rfl (j := 13) (d := 18) rfl rfl rfl (u := true) (v := false) rfl rfl ?_
      refine sr_pass rfl (j := 13) (d := 18) rfl rfl rfl (u := true) (v := false) rfl rfl ?_
      refine sr_op rfl rfl (ow_pick (v := .bool true) rfl rfl ?_)
      exact sr_live [22, 1, 2] (again _ _ ⟨_, _, rfl, H, by rw [hg] <;> rfl⟩)
  rintro _ _ ⟨r, _, rfl, H, rfl⟩
  refine sr_op rfl rfl (ow_move (v := .bool (((decide ((p.kinds.length : Int) < 1)) || (!decide ((p.rules.length : Int) = (p.kinds.length : Int)))) || (decide (p.mode < 1)))) rfl ?_)
  refine sr_cut 4 (fun m_ w_ => ∃ (r_ : Sl) (v_ : Bool), m_ = (27, .bool v_) :: (1, .pointer (some ⟨g1, 0, none⟩)) :: (2, .bool false) :: r_ ∧ Hp B I w_ ((g1, Ob [.string p.name, .slice Ak p.kinds.length ck, .slice Ao p.offices.length co, .slice Ar p.rules.length cr, .int .i64 p.change.kind, .int .i64 p.change.n, .int .i64 p.change.no, .string p.change.name, .slice Ac p.change.l.length cc, .int .i64 p.mode] 28) :: L) ∧ v_ = ((((decide ((p.kinds.length : Int) < 1)) || (!decide ((p.rules.length : Int) = (p.kinds.length : Int)))) || (decide (p.mode < 1))) || (decide (4 < p.mode)))) (fun again => ?_) ?_
  · rcases hg : ((decide ((p.kinds.length : Int) < 1)) || (!decide ((p.rules.length : Int) = (p.kinds.length : Int)))) || (decide (p.mode < 1)) with _ | _
    · refine sr_want rfl (j := 18) (d := 23) rfl rfl rfl (v := false) rfl rfl (ow_fieldAddr fd28_5 ty3 rfl rfl (r := 9) rfl ?_)
      refine sr_want rfl (j := 18) (d := 23) rfl rfl rfl (v := false) rfl rfl (ow_load (v := .int .i64 p.mode) ty3 H rfl 0 rfl rfl rfl rfl ?_)
      refine sr_want rfl (j := 18) (d := 23) rfl rfl rfl (v := false) rfl rfl (ow_gtr rfl rfl ?_)
      refine sr_op rfl rfl (ow_pick (v := .bool (decide (4 < p.mode))) rfl rfl ?_)
      exact sr_live [27, 1, 2] (again _ _ ⟨_, _, rfl, H, by rw [hg] <;> rfl⟩)
    · refine sr_pass rfl (j := 18) (d := 23) rfl rfl rfl (u := true) (v := false) rfl rfl ?_
      refine sr_pass rfl (j := 18) (d := 23) rfl rfl rfl (u := true) (v := false) rfl rfl ?_
      refine sr_pass rfl (j := 18) (d := 23) rfl rfl rfl (u := true) (v := false) rfl rfl ?_
      refine sr_op rfl rfl (ow_pick (v := .bool true) rfl rfl ?_)
      exact sr_live [27, 1, 2] (again _ _ ⟨_, _, rfl, H, by rw [hg] <;> rfl⟩)
  rintro _ _ ⟨r, _, rfl, H, rfl⟩
  refine sr_nil ?_
  refine st_cond ((((decide ((p.kinds.length : Int) < 1)) || (!decide ((p.rules.length : Int) = (p.kinds.length : Int)))) || (decide (p.mode < 1))) || (decide (4 < p.mode))) rfl (fun hc2 => ?_) (fun hc2 => ?_)
  · refine st_seq ?_
    refine st_region ?_
    refine sr_op rfl rfl (ow_assign (v := .bool false) rfl ?_)
    refine sr_nil ?_
    refine st_ret hb (hR _ _ (.bool false) (res_run (vs := [.bool false]) Tryd.results64 ⟨_, _, rfl, rfl, rfl⟩) ?_)
    exact ⟨_, rfl, by rw [form_eq, formed_no hc2]; rfl, H.drop 1⟩
  · have hm0 := formed_yes hc2
    simp only [Bool.and_eq_true, decide_eq_true_eq] at hm0
    refine st_skip ?_
    refine st_seq ?_
    refine st_seq ?_
    refine st_region ?_
    refine sr_op rfl rfl (ow_assign (v := .int .i64 0) rfl ?_)
    refine sr_nil ?_
    refine st_block ?_
    refine st_loop ?_
    refine st_live [1, 3] ?_
    refine st_ind (fun d_ m_ w_ => ∃ (i : Nat) (r_ : Sl), d_ = p.rules.length - i ∧ m_ = (1, .pointer (some ⟨g1, 0, none⟩)) :: (3, .int .i64 (i : Int)) :: r_ ∧ Hp B I w_ ((g1, Ob [.string p.name, .slice Ak p.kinds.length ck, .slice Ao p.offices.length co, .slice Ar p.rules.length cr, .int .i64 p.change.kind, .int .i64 p.change.n, .int .i64 p.change.no, .string p.change.name, .slice Ac p.change.l.length cc, .int .i64 p.mode] 28) :: L) ∧ i ≤ p.rules.length ∧ rulesG p.kinds p.rules 0 = rulesG p.kinds (p.rules.drop i) i) _ ⟨0, _, rfl, rfl, H, Nat.zero_le _, rfl⟩ ?_
    rintro _ _ _ ⟨i, r3, rfl, rfl, H, hi, ha⟩ ih4
    refine st_seq ?_
    refine st_seq ?_
    refine st_region ?_
    refine sr_op rfl rfl (ow_move (v := .int .i64 (i : Int)) rfl ?_)
    refine sr_op rfl rfl (ow_fieldAddr fd28_3 ty23 rfl rfl (r := 3) rfl ?_)
    refine sr_op rfl rfl (ow_load (v := .slice Ar p.rules.length cr) ty23 H rfl 0 rfl rfl rfl rfl ?_)
    refine sr_op rfl rfl (ow_lenS sl23 rfl rfl ?_)
    refine sr_op rfl rfl (ow_lss rfl rfl ?_)
    refine sr_nil ?_
    refine st_cond (decide ((i : Int) < (p.rules.length : Int))) rfl (fun hc5 => ?_) (fun hc5 => ?_)
    · have hc5 := of_decide_eq_true hc5
      refine st_skip ?_
      refine st_seq ?_
      refine st_block ?_
      refine st_seq ?_
      refine st_region ?_
      refine sr_op rfl rfl (ow_fieldAddr fd28_3 ty23 rfl rfl (r := 3) rfl ?_)
      refine sr_op rfl rfl (ow_load (v := .slice Ar p.rules.length cr) ty23 H rfl 0 rfl rfl rfl rfl ?_)
      refine sr_op rfl rfl (ow_move (v := .int .i64 (i : Int)) rfl ?_)
      obtain ⟨r6, he6⟩ : ∃ q_, p.rules[i]? = some q_ := ⟨_, List.getElem?_eq_getElem (by omega)⟩
      obtain ⟨b6, o6, us6, hA6, hat6, hul6, hr6⟩ := RepS.get hpr he6
      obtain ⟨v6, rfl, r6K, r6Kn, r6Th, r6k, r6n, r6o, r6s, r6l⟩ := ru_iff.1 hr6
      obtain ⟨A6, c6, rfl, r6c, r6m, r6l⟩ := RepS.open_ r6l
      refine sr_op rfl rfl (ow_indexAddrA sl23 ty43 hA6 rfl rfl (by omega) (by omega) (r := o6 + i * 8) rfl ?_)
      refine sr_op rfl rfl (ow_loadI (v := .agg #[.string r6.kind, .int .i64 r6.kindNo, .int .i64 r6.think, .int .i64 r6.expr.kind, .int .i64 r6.expr.n, .int .i64 r6.expr.no, .string r6.expr.name, .slice A6 r6.expr.l.length c6]) ty43 H rfl hat6 rfl rfl rfl ?_)
      refine sr_op rfl rfl (ow_alloc ty43 H [.string ⟨#[]⟩, .int .i64 0, .int .i64 0, .int .i64 0, .int .i64 0, .int .i64 0, .string ⟨#[]⟩, .slice none 0 0] rfl (fun g7 _ H => ?_))
      refine sr_op rfl rfl (ow_store ty43 H rfl (v := .agg #[.string r6.kind, .int .i64 r6.kindNo, .int .i64 r6.think, .int .i64 r6.expr.kind, .int .i64 r6.expr.n, .int .i64 r6.expr.no, .string r6.expr.name, .slice A6 r6.expr.l.length c6]) rfl [.string r6.kind, .int .i64 r6.kindNo, .int .i64 r6.think, .int .i64 r6.expr.kind, .int .i64 r6.expr.n, .int .i64 r6.expr.no, .string r6.expr.name, .slice A6 r6.expr.l.length c6] rfl rfl rfl 0 rfl rfl (fun _ H => ?_))
      refine sr_nil ?_
      refine st_seq ?_
      obtain ⟨k8, he8⟩ : ∃ q_, p.kinds[i]? = some q_ := ⟨_, List.getElem?_eq_getElem (by omega)⟩
      obtain ⟨b8, o8, us8, hA8, hat8, hul8, hr8⟩ := RepS.get hpk he8
      obtain ⟨rfl, k863⟩ := s_iff.1 hr8
      refine st_cut (fun m_ w_ => ∃ (r_ : Sl) (v63_ : Bool), m_ = (1, .pointer (some ⟨g1, 0, none⟩)) :: (3, .int .i64 (i : Int)) :: (63, .bool v63_) :: r_ ∧ Hp B I w_ ((g7, Ob [.string r6.kind, .int .i64 r6.kindNo, .int .i64 r6.think, .int .i64 r6.expr.kind, .int .i64 r6.expr.n, .int .i64 r6.expr.no, .string r6.expr.name, .slice A6 r6.expr.l.length c6] 43) :: (g1, Ob [.string p.name, .slice Ak p.kinds.length ck, .slice Ao p.offices.length co, .slice Ar p.rules.length cr, .int .i64 p.change.kind, .int .i64 p.change.n, .int .i64 p.change.no, .string p.change.name, .slice Ac p.change.l.length cc, .int .i64 p.mode] 28) :: L) ∧ v63_ = (!(decide (r6.kind = k8)) || ((decide (r6.think < 0)) || ((decide (1099511627776 ≤ r6.think)) || (!(allX (partG true) r6.expr)))))) (fun again => ?_) ?_
      · rcases Bool.eq_false_or_eq_true (decide (r6.kind = k8)) with hg9 | hg9
        · rcases Bool.eq_false_or_eq_true (decide (r6.think < 0)) with hg10 | hg10
          · refine st_draw (F := (fun w_ => ∃ I2, Le I I2 ∧ Hp B I2 w_ [(g7, Ob [.string r6.kind, .int .i64 r6.kindNo, .int .i64 r6.think, .int .i64 r6.expr.kind, .int .i64 r6.expr.n, .int .i64 r6.expr.no, .string r6.expr.name, .slice A6 r6.expr.l.length c6] 43), (g1, Ob [.string p.name, .slice Ak p.kinds.length ck, .slice Ao p.offices.length co, .slice Ar p.rules.length cr, .int .i64 p.change.kind, .int .i64 p.change.n, .int .i64 p.change.no, .string p.change.name, .slice Ac p.change.l.length cc, .int .i64 p.mode] 28)])) (p0 := [0, 1, 2, 3, 4, 5, 6, 7, 8, 9, 10, 11, 12, 13, 14, 15, 16, 17, 18, 19, 20]) (plan := [(21, [22, 23], [])]) [] [] [(60, undef), (59, undef), (58, .bool true), (57, .bool true), (56, undef), (55, undef), (54, undef), (53, .bool (decide (r6.think < 0))), (52, .bool (decide (r6.think < 0))), (51, .bool (decide (r6.think < 0))), (50, .int .i64 r6.think), (49, .pointer (some ⟨g7, 2, none⟩)), (48, .bool (!decide (r6.kind = k8))), (47, .bool (!decide (r6.kind = k8))), (46, .string k8), (45, .pointer (some ⟨b8, o8 + i * 1, none⟩)), (44, .int .i64 (i : Int)), (43, .slice Ak p.kinds.length ck), (42, .pointer (some ⟨g1, 1, none⟩)), (41, .string r6.kind), (40, .pointer (some ⟨g7, 0, none⟩))] (by kernel_rfl) rfl ?_ ⟨_, Le.refl _, H.drew.pick [0, 1] (by decide)⟩ ?_
            · refine ⟨kn_op rfl rfl (wantB_none rfl) fun _ hF2 => ?_, ?_⟩
              · obtain ⟨_, hle2, H2⟩ := hF2
                refine  (ow_fieldAddr fd43_0 ty9 rfl rfl (r := 0) rfl ?_)
                exact ⟨rfl, rfl⟩
              refine ⟨kn_op rfl rfl (wantB_none rfl) fun _ hF2 => ?_, ?_⟩
              · obtain ⟨_, hle2, H2⟩ := hF2
                refine  (ow_load (v := .string r6.kind) ty9 H2 rfl 0 rfl rfl rfl rfl ?_)
                exact ⟨rfl, rfl⟩
              refine ⟨kn_op rfl rfl (wantB_none rfl) fun _ hF2 => ?_, ?_⟩
              · obtain ⟨_, hle2, H2⟩ := hF2
                refine  (ow_fieldAddr fd28_1 ty22 rfl rfl (r := 1) rfl ?_)
                exact ⟨rfl, rfl⟩
              refine ⟨kn_op rfl rfl (wantB_none rfl) fun _ hF2 => ?_, ?_⟩
              · obtain ⟨_, hle2, H2⟩ := hF2
                refine  (ow_load (v := .slice Ak p.kinds.length ck) ty22 H2 rfl 1 rfl rfl rfl rfl ?_)
                exact ⟨rfl, rfl⟩
              refine ⟨kn_op rfl rfl (wantB_none rfl) fun _ hF2 => ?_, ?_⟩
              · obtain ⟨_, hle2, H2⟩ := hF2
                refine  (ow_move (v := .int .i64 (i : Int)) rfl ?_)
                exact ⟨rfl, rfl⟩
              refine ⟨kn_op rfl rfl (wantB_none rfl) fun _ hF2 => ?_, ?_⟩
              · obtain ⟨_, hle2, H2⟩ := hF2
                refine  (ow_indexAddrA sl22 ty9 hA8 rfl rfl (by omega) (by omega) (r := o8 + i * 1) rfl ?_)
                exact ⟨rfl, rfl⟩
              refine ⟨kn_op rfl rfl (wantB_none rfl) fun _ hF2 => ?_, ?_⟩
              · obtain ⟨_, hle2, H2⟩ := hF2
                refine  (ow_loadI (v := .string k8) ty9 H2 rfl (At.mono hle2 hat8) rfl rfl rfl ?_)
                exact ⟨rfl, rfl⟩
              refine ⟨kn_op rfl rfl (wantB_none rfl) fun _ hF2 => ?_, ?_⟩
              · obtain ⟨_, hle2, H2⟩ := hF2
                refine  (ow_sne rfl rfl ?_)
                exact ⟨rfl, rfl⟩
              refine ⟨kn_op rfl rfl (wantB_none rfl) fun _ hF2 => ?_, ?_⟩
              · obtain ⟨_, hle2, H2⟩ := hF2
                refine  (ow_move (v := .bool (!decide (r6.kind = k8))) rfl ?_)
                exact ⟨rfl, rfl⟩
              refine ⟨kn_op rfl rfl ((wantB_some (j := 8) rfl rfl (d := 48) rfl rfl (u := false) (by exact congrArg Value.bool (by rw [hg9] <;> rfl))).trans rfl) fun _ hF2 => ?_, ?_⟩
              · obtain ⟨_, hle2, H2⟩ := hF2
                refine  (ow_fieldAddr fd43_2 ty3 rfl rfl (r := 2) rfl ?_)
                exact ⟨rfl, rfl⟩
              refine ⟨kn_op rfl rfl ((wantB_some (j := 8) rfl rfl (d := 48) rfl rfl (u := false) (by exact congrArg Value.bool (by rw [hg9] <;> rfl))).trans rfl) fun _ hF2 => ?_, ?_⟩
              · obtain ⟨_, hle2, H2⟩ := hF2
                refine  (ow_load (v := .int .i64 r6.think) ty3 H2 rfl 0 rfl rfl rfl rfl ?_)
                exact ⟨rfl, rfl⟩
              refine ⟨kn_op rfl rfl ((wantB_some (j := 8) rfl rfl (d := 48) rfl rfl (u := false) (by exact congrArg Value.bool (by rw [hg9] <;> rfl))).trans rfl) fun _ hF2 => ?_, ?_⟩
              · obtain ⟨_, hle2, H2⟩ := hF2
                refine  (ow_lss rfl rfl ?_)
                exact ⟨rfl, rfl⟩
              refine ⟨kn_op rfl rfl (wantB_none rfl) fun _ hF2 => ?_, ?_⟩
              · obtain ⟨_, hle2, H2⟩ := hF2
                refine  (ow_pick (a := false) (v := .bool (decide (r6.think < 0))) (congrArg Value.bool (by rw [hg9] <;> rfl)) rfl ?_)
                exact ⟨rfl, rfl⟩
              refine ⟨kn_op rfl rfl (wantB_none rfl) fun _ hF2 => ?_, ?_⟩
              · obtain ⟨_, hle2, H2⟩ := hF2
                refine  (ow_move (v := .bool (decide (r6.think < 0))) rfl ?_)
                exact ⟨rfl, rfl⟩
              refine ⟨kn_pass rfl rfl ((wantB_some (j := 13) rfl rfl (d := 53) rfl rfl (u := true) (by exact congrArg Value.bool hg10)).trans rfl) rfl, ?_⟩
              refine ⟨kn_pass rfl rfl ((wantB_some (j := 13) rfl rfl (d := 53) rfl rfl (u := true) (by exact congrArg Value.bool hg10)).trans rfl) rfl, ?_⟩
              refine ⟨kn_pass rfl rfl ((wantB_some (j := 13) rfl rfl (d := 53) rfl rfl (u := true) (by exact congrArg Value.bool hg10)).trans rfl) rfl, ?_⟩
              refine ⟨kn_op rfl rfl (wantB_none rfl) fun _ hF2 => ?_, ?_⟩
              · obtain ⟨_, hle2, H2⟩ := hF2
                refine  (ow_pick (a := true) (v := .bool true) (congrArg Value.bool hg10) rfl ?_)
                exact ⟨rfl, rfl⟩
              refine ⟨kn_op rfl rfl (wantB_none rfl) fun _ hF2 => ?_, ?_⟩
              · obtain ⟨_, hle2, H2⟩ := hF2
                refine  (ow_move (v := .bool true) rfl ?_)
                exact ⟨rfl, rfl⟩
              refine ⟨kn_pass rfl rfl ((wantB_some (j := 18) rfl rfl (d := 58) rfl rfl (u := true) rfl).trans rfl) rfl, ?_⟩
              refine ⟨kn_pass rfl rfl ((wantB_some (j := 18) rfl rfl (d := 58) rfl rfl (u := true) rfl).trans rfl) rfl, ?_⟩
              exact trivial
            have H := H.drew
            refine cw_pass rfl ((wantB_some (j := 18) rfl rfl (d := 58) rfl rfl (u := true) rfl).trans rfl) ?_
            refine af_some [(63, .bool true), (62, undef)] (fun w_ => ∃ I2, Le I I2 ∧ Hp B I2 w_ [(g7, Ob [.string r6.kind, .int .i64 r6.kindNo, .int .i64 r6.think, .int .i64 r6.expr.kind, .int .i64 r6.expr.n, .int .i64 r6.expr.no, .string r6.expr.name, .slice A6 r6.expr.l.length c6] 43), (g1, Ob [.string p.name, .slice Ak p.kinds.length ck, .slice Ao p.offices.length co, .slice Ar p.rules.length cr, .int .i64 p.change.kind, .int .i64 p.change.n, .int .i64 p.change.no, .string p.change.name, .slice Ac p.change.l.length cc, .int .i64 p.mode] 28)]) rfl ⟨_, Le.refl _, H.pick [0, 1] (by decide)⟩ ?_ ?_
            · refine ⟨kn_pass rfl rfl ((wantB_some (j := 18) rfl rfl (d := 58) rfl rfl (u := true) rfl).trans rfl) rfl, ?_⟩
              refine ⟨kn_op rfl rfl (wantB_none rfl) fun _ hF2 => ?_, ?_⟩
              · obtain ⟨_, hle2, H2⟩ := hF2
                refine  (ow_pick (v := .bool true) rfl rfl ?_)
                exact ⟨rfl, rfl⟩
              exact trivial
            refine cw_nil ?_
            exact st_live [1, 3, 63] (again _ _ ⟨_, _, rfl, H, by first | rfl | (rw [hg9, hg10] <;> rfl) | simp [hg9, hg10]⟩)
          · rcases Bool.eq_false_or_eq_true (decide (1099511627776 ≤ r6.think)) with hg11 | hg11
            · refine st_draw (F := (fun w_ => ∃ I2, Le I I2 ∧ Hp B I2 w_ [(g7, Ob [.string r6.kind, .int .i64 r6.kindNo, .int .i64 r6.think, .int .i64 r6.expr.kind, .int .i64 r6.expr.n, .int .i64 r6.expr.no, .string r6.expr.name, .slice A6 r6.expr.l.length c6] 43), (g1, Ob [.string p.name, .slice Ak p.kinds.length ck, .slice Ao p.offices.length co, .slice Ar p.rules.length cr, .int .i64 p.change.kind, .int .i64 p.change.n, .int .i64 p.change.no, .string p.change.name, .slice Ac p.change.l.length cc, .int .i64 p.mode] 28)])) (p0 := [0, 1, 2, 3, 4, 5, 6, 7, 8, 9, 10, 11, 12, 13, 14, 15, 16, 17, 18, 19, 20]) (plan := [(21, [22, 23], [])]) [] [] [(60, undef), (59, undef), (58, .bool (decide (1099511627776 ≤ r6.think))), (57, .bool (decide (1099511627776 ≤ r6.think))), (56, .bool (decide (1099511627776 ≤ r6.think))), (55, .int .i64 r6.think), (54, .pointer (some ⟨g7, 2, none⟩)), (53, .bool (decide (r6.think < 0))), (52, .bool (decide (r6.think < 0))), (51, .bool (decide (r6.think < 0))), (50, .int .i64 r6.think), (49, .pointer (some ⟨g7, 2, none⟩)), (48, .bool (!decide (r6.kind = k8))), (47, .bool (!decide (r6.kind = k8))), (46, .string k8), (45, .pointer (some ⟨b8, o8 + i * 1, none⟩)), (44, .int .i64 (i : Int)), (43, .slice Ak p.kinds.length ck), (42, .pointer (some ⟨g1, 1, none⟩)), (41, .string r6.kind), (40, .pointer (some ⟨g7, 0, none⟩))] (by kernel_rfl) rfl ?_ ⟨_, Le.refl _, H.drew.pick [0, 1] (by decide)⟩ ?_
              · refine ⟨kn_op rfl rfl (wantB_none rfl) fun _ hF2 => ?_, ?_⟩
                · obtain ⟨_, hle2, H2⟩ := hF2
                  refine  (ow_fieldAddr fd43_0 ty9 rfl rfl (r := 0) rfl ?_)
                  exact ⟨rfl, rfl⟩
                refine ⟨kn_op rfl rfl (wantB_none rfl) fun _ hF2 => ?_, ?_⟩
                · obtain ⟨_, hle2, H2⟩ := hF2
                  refine  (ow_load (v := .string r6.kind) ty9 H2 rfl 0 rfl rfl rfl rfl ?_)
                  exact ⟨rfl, rfl⟩
                refine ⟨kn_op rfl rfl (wantB_none rfl) fun _ hF2 => ?_, ?_⟩
                · obtain ⟨_, hle2, H2⟩ := hF2
                  refine  (ow_fieldAddr fd28_1 ty22 rfl rfl (r := 1) rfl ?_)
                  exact ⟨rfl, rfl⟩
                refine ⟨kn_op rfl rfl (wantB_none rfl) fun _ hF2 => ?_, ?_⟩
                · obtain ⟨_, hle2, H2⟩ := hF2
                  refine  (ow_load (v := .slice Ak p.kinds.length ck) ty22 H2 rfl 1 rfl rfl rfl rfl ?_)
                  exact ⟨rfl, rfl⟩
                refine ⟨kn_op rfl rfl (wantB_none rfl) fun _ hF2 => ?_, ?_⟩
                · obtain ⟨_, hle2, H2⟩ := hF2
                  refine  (ow_move (v := .int .i64 (i : Int)) rfl ?_)
                  exact ⟨rfl, rfl⟩
                refine ⟨kn_op rfl rfl (wantB_none rfl) fun _ hF2 => ?_, ?_⟩
                · obtain ⟨_, hle2, H2⟩ := hF2
                  refine  (ow_indexAddrA sl22 ty9 hA8 rfl rfl (by omega) (by omega) (r := o8 + i * 1) rfl ?_)
                  exact ⟨rfl, rfl⟩
                refine ⟨kn_op rfl rfl (wantB_none rfl) fun _ hF2 => ?_, ?_⟩
                · obtain ⟨_, hle2, H2⟩ := hF2
                  refine  (ow_loadI (v := .string k8) ty9 H2 rfl (At.mono hle2 hat8) rfl rfl rfl ?_)
                  exact ⟨rfl, rfl⟩
                refine ⟨kn_op rfl rfl (wantB_none rfl) fun _ hF2 => ?_, ?_⟩
                · obtain ⟨_, hle2, H2⟩ := hF2
                  refine  (ow_sne rfl rfl ?_)
                  exact ⟨rfl, rfl⟩
                refine ⟨kn_op rfl rfl (wantB_none rfl) fun _ hF2 => ?_, ?_⟩
                · obtain ⟨_, hle2, H2⟩ := hF2
                  refine  (ow_move (v := .bool (!decide (r6.kind = k8))) rfl ?_)
                  exact ⟨rfl, rfl⟩
                refine ⟨kn_op rfl rfl ((wantB_some (j := 8) rfl rfl (d := 48) rfl rfl (u := false) (by exact congrArg Value.bool (by rw [hg9] <;> rfl))).trans rfl) fun _ hF2 => ?_, ?_⟩
                · obtain ⟨_, hle2, H2⟩ := hF2
                  refine  (ow_fieldAddr fd43_2 ty3 rfl rfl (r := 2) rfl ?_)
                  exact ⟨rfl, rfl⟩
                refine ⟨kn_op rfl rfl ((wantB_some (j := 8) rfl rfl (d := 48) rfl rfl (u := false) (by exact congrArg Value.bool (by rw [hg9] <;> rfl))).trans rfl) fun _ hF2 => ?_, ?_⟩
                · obtain ⟨_, hle2, H2⟩ := hF2
                  refine  (ow_load (v := .int .i64 r6.think) ty3 H2 rfl 0 rfl rfl rfl rfl ?_)
                  exact ⟨rfl, rfl⟩
                refine ⟨kn_op rfl rfl ((wantB_some (j := 8) rfl rfl (d := 48) rfl rfl (u := false) (by exact congrArg Value.bool (by rw [hg9] <;> rfl))).trans rfl) fun _ hF2 => ?_, ?_⟩
                · obtain ⟨_, hle2, H2⟩ := hF2
                  refine  (ow_lss rfl rfl ?_)
                  exact ⟨rfl, rfl⟩
                refine ⟨kn_op rfl rfl (wantB_none rfl) fun _ hF2 => ?_, ?_⟩
                · obtain ⟨_, hle2, H2⟩ := hF2
                  refine  (ow_pick (a := false) (v := .bool (decide (r6.think < 0))) (congrArg Value.bool (by rw [hg9] <;> rfl)) rfl ?_)
                  exact ⟨rfl, rfl⟩
                refine ⟨kn_op rfl rfl (wantB_none rfl) fun _ hF2 => ?_, ?_⟩
                · obtain ⟨_, hle2, H2⟩ := hF2
                  refine  (ow_move (v := .bool (decide (r6.think < 0))) rfl ?_)
                  exact ⟨rfl, rfl⟩
                refine ⟨kn_op rfl rfl ((wantB_some (j := 13) rfl rfl (d := 53) rfl rfl (u := false) (by exact congrArg Value.bool hg10)).trans rfl) fun _ hF2 => ?_, ?_⟩
                · obtain ⟨_, hle2, H2⟩ := hF2
                  refine  (ow_fieldAddr fd43_2 ty3 rfl rfl (r := 2) rfl ?_)
                  exact ⟨rfl, rfl⟩
                refine ⟨kn_op rfl rfl ((wantB_some (j := 13) rfl rfl (d := 53) rfl rfl (u := false) (by exact congrArg Value.bool hg10)).trans rfl) fun _ hF2 => ?_, ?_⟩
                · obtain ⟨_, hle2, H2⟩ := hF2
                  refine  (ow_load (v := .int .i64 r6.think) ty3 H2 rfl 0 rfl rfl rfl rfl ?_)
                  exact ⟨rfl, rfl⟩
                refine ⟨kn_op rfl rfl ((wantB_some (j := 13) rfl rfl (d := 53) rfl rfl (u := false) (by exact congrArg Value.bool hg10)).trans rfl) fun _ hF2 => ?_, ?_⟩
                · obtain ⟨_, hle2, H2⟩ := hF2
                  refine  (ow_geq rfl rfl ?_)
                  exact ⟨rfl, rfl⟩
                refine ⟨kn_op rfl rfl (wantB_none rfl) fun _ hF2 => ?_, ?_⟩
                · obtain ⟨_, hle2, H2⟩ := hF2
                  refine  (ow_pick (a := false) (v := .bool (decide (1099511627776 ≤ r6.think))) (congrArg Value.bool hg10) rfl ?_)
                  exact ⟨rfl, rfl⟩
                refine ⟨kn_op rfl rfl (wantB_none rfl) fun _ hF2 => ?_, ?_⟩
                · obtain ⟨_, hle2, H2⟩ := hF2
                  refine  (ow_move (v := .bool (decide (1099511627776 ≤ r6.think))) rfl ?_)
                  exact ⟨rfl, rfl⟩
                refine ⟨kn_pass rfl rfl ((wantB_some (j := 18) rfl rfl (d := 58) rfl rfl (u := true) (by exact congrArg Value.bool hg11)).trans rfl) rfl, ?_⟩
                refine ⟨kn_pass rfl rfl ((wantB_some (j := 18) rfl rfl (d := 58) rfl rfl (u := true) (by exact congrArg Value.bool hg11)).trans rfl) rfl, ?_⟩
                exact trivial
              have H := H.drew
              refine cw_pass rfl ((wantB_some (j := 18) rfl rfl (d := 58) rfl rfl (u := true) (by exact congrArg Value.bool hg11)).trans rfl) ?_
              refine af_some [(63, .bool true), (62, undef)] (fun w_ => ∃ I2, Le I I2 ∧ Hp B I2 w_ [(g7, Ob [.string r6.kind, .int .i64 r6.kindNo, .int .i64 r6.think, .int .i64 r6.expr.kind, .int .i64 r6.expr.n, .int .i64 r6.expr.no, .string r6.expr.name, .slice A6 r6.expr.l.length c6] 43), (g1, Ob [.string p.name, .slice Ak p.kinds.length ck, .slice Ao p.offices.length co, .slice Ar p.rules.length cr, .int .i64 p.change.kind, .int .i64 p.change.n, .int .i64 p.change.no, .string p.change.name, .slice Ac p.change.l.length cc, .int .i64 p.mode] 28)]) rfl ⟨_, Le.refl _, H.pick [0, 1] (by decide)⟩ ?_ ?_
              · refine ⟨kn_pass rfl rfl ((wantB_some (j := 18) rfl rfl (d := 58) rfl rfl (u := true) (by exact congrArg Value.bool hg11)).trans rfl) rfl, ?_⟩
                refine ⟨kn_op rfl rfl (wantB_none rfl) fun _ hF2 => ?_, ?_⟩
                · obtain ⟨_, hle2, H2⟩ := hF2
                  refine  (ow_pick (a := true) (v := .bool true) (congrArg Value.bool hg11) rfl ?_)
                  exact ⟨rfl, rfl⟩
                exact trivial
              refine cw_nil ?_
              exact st_live [1, 3, 63] (again _ _ ⟨_, _, rfl, H, by first | rfl | (rw [hg9, hg10, hg11] <;> rfl) | simp [hg9, hg10, hg11]⟩)
            · refine st_draw (F := (fun w_ => ∃ I2, Le I I2 ∧ Hp B I2 w_ [(g7, Ob [.string r6.kind, .int .i64 r6.kindNo, .int .i64 r6.think, .int .i64 r6.expr.kind, .int .i64 r6.expr.n, .int .i64 r6.expr.no, .string r6.expr.name, .slice A6 r6.expr.l.length c6] 43), (g1, Ob [.string p.name, .slice Ak p.kinds.length ck, .slice Ao p.offices.length co, .slice Ar p.rules.length cr, .int .i64 p.change.kind, .int .i64 p.change.n, .int .i64 p.change.no, .string p.change.name, .slice Ac p.change.l.length cc, .int .i64 p.mode] 28)])) (p0 := [0, 1, 2, 3, 4, 5, 6, 7, 8, 9, 10, 11, 12, 13, 14, 15, 16, 17, 18, 19, 20]) (plan := [(21, [22, 23], [])]) [] [] [(60, .agg #[.int .i64 r6.expr.kind, .int .i64 r6.expr.n, .int .i64 r6.expr.no, .string r6.expr.name, .slice A6 r6.expr.l.length c6]), (59, .pointer (some ⟨g7, 3, none⟩)), (58, .bool (decide (1099511627776 ≤ r6.think))), (57, .bool (decide (1099511627776 ≤ r6.think))), (56, .bool (decide (1099511627776 ≤ r6.think))), (55, .int .i64 r6.think), (54, .pointer (some ⟨g7, 2, none⟩)), (53, .bool (decide (r6.think < 0))), (52, .bool (decide (r6.think < 0))), (51, .bool (decide (r6.think < 0))), (50, .int .i64 r6.think), (49, .pointer (some ⟨g7, 2, none⟩)), (48, .bool (!decide (r6.kind = k8))), (47, .bool (!decide (r6.kind = k8))), (46, .string k8), (45, .pointer (some ⟨b8, o8 + i * 1, none⟩)), (44, .int .i64 (i : Int)), (43, .slice Ak p.kinds.length ck), (42, .pointer (some ⟨g1, 1, none⟩)), (41, .string r6.kind), (40, .pointer (some ⟨g7, 0, none⟩))] (by kernel_rfl) rfl ?_ ⟨_, Le.refl _, H.drew.pick [0, 1] (by decide)⟩ ?_
              · refine ⟨kn_op rfl rfl (wantB_none rfl) fun _ hF2 => ?_, ?_⟩
                · obtain ⟨_, hle2, H2⟩ := hF2
                  refine  (ow_fieldAddr fd43_0 ty9 rfl rfl (r := 0) rfl ?_)
                  exact ⟨rfl, rfl⟩
                refine ⟨kn_op rfl rfl (wantB_none rfl) fun _ hF2 => ?_, ?_⟩
                · obtain ⟨_, hle2, H2⟩ := hF2
                  refine  (ow_load (v := .string r6.kind) ty9 H2 rfl 0 rfl rfl rfl rfl ?_)
                  exact ⟨rfl, rfl⟩
                refine ⟨kn_op rfl rfl (wantB_none rfl) fun _ hF2 => ?_, ?_⟩
                · obtain ⟨_, hle2, H2⟩ := hF2
                  refine  (ow_fieldAddr fd28_1 ty22 rfl rfl (r := 1) rfl ?_)
                  exact ⟨rfl, rfl⟩
                refine ⟨kn_op rfl rfl (wantB_none rfl) fun _ hF2 => ?_, ?_⟩
                · obtain ⟨_, hle2, H2⟩ := hF2
                  refine  (ow_load (v := .slice Ak p.kinds.length ck) ty22 H2 rfl 1 rfl rfl rfl rfl ?_)
                  exact ⟨rfl, rfl⟩
                refine ⟨kn_op rfl rfl (wantB_none rfl) fun _ hF2 => ?_, ?_⟩
                · obtain ⟨_, hle2, H2⟩ := hF2
                  refine  (ow_move (v := .int .i64 (i : Int)) rfl ?_)
                  exact ⟨rfl, rfl⟩
                refine ⟨kn_op rfl rfl (wantB_none rfl) fun _ hF2 => ?_, ?_⟩
                · obtain ⟨_, hle2, H2⟩ := hF2
                  refine  (ow_indexAddrA sl22 ty9 hA8 rfl rfl (by omega) (by omega) (r := o8 + i * 1) rfl ?_)
                  exact ⟨rfl, rfl⟩
                refine ⟨kn_op rfl rfl (wantB_none rfl) fun _ hF2 => ?_, ?_⟩
                · obtain ⟨_, hle2, H2⟩ := hF2
                  refine  (ow_loadI (v := .string k8) ty9 H2 rfl (At.mono hle2 hat8) rfl rfl rfl ?_)
                  exact ⟨rfl, rfl⟩
                refine ⟨kn_op rfl rfl (wantB_none rfl) fun _ hF2 => ?_, ?_⟩
                · obtain ⟨_, hle2, H2⟩ := hF2
                  refine  (ow_sne rfl rfl ?_)
                  exact ⟨rfl, rfl⟩
                refine ⟨kn_op rfl rfl (wantB_none rfl) fun _ hF2 => ?_, ?_⟩
                · obtain ⟨_, hle2, H2⟩ := hF2
                  refine  (ow_move (v := .bool (!decide (r6.kind = k8))) rfl ?_)
                  exact ⟨rfl, rfl⟩
                refine ⟨kn_op rfl rfl ((wantB_some (j := 8) rfl rfl (d := 48) rfl rfl (u := false) (by exact congrArg Value.bool (by rw [hg9] <;> rfl))).trans rfl) fun _ hF2 => ?_, ?_⟩
                · obtain ⟨_, hle2, H2⟩ := hF2
                  refine  (ow_fieldAddr fd43_2 ty3 rfl rfl (r := 2) rfl ?_)
                  exact ⟨rfl, rfl⟩
                refine ⟨kn_op rfl rfl ((wantB_some (j := 8) rfl rfl (d := 48) rfl rfl (u := false) (by exact congrArg Value.bool (by rw [hg9] <;> rfl))).trans rfl) fun _ hF2 => ?_, ?_⟩
                · obtain ⟨_, hle2, H2⟩ := hF2
                  refine  (ow_load (v := .int .i64 r6.think) ty3 H2 rfl 0 rfl rfl rfl rfl ?_)
                  exact ⟨rfl, rfl⟩
                refine ⟨kn_op rfl rfl ((wantB_some (j := 8) rfl rfl (d := 48) rfl rfl (u := false) (by exact congrArg Value.bool (by rw [hg9] <;> rfl))).trans rfl) fun _ hF2 => ?_, ?_⟩
                · obtain ⟨_, hle2, H2⟩ := hF2
                  refine  (ow_lss rfl rfl ?_)
                  exact ⟨rfl, rfl⟩
                refine ⟨kn_op rfl rfl (wantB_none rfl) fun _ hF2 => ?_, ?_⟩
                · obtain ⟨_, hle2, H2⟩ := hF2
                  refine  (ow_pick (a := false) (v := .bool (decide (r6.think < 0))) (congrArg Value.bool (by rw [hg9] <;> rfl)) rfl ?_)
                  exact ⟨rfl, rfl⟩
                refine ⟨kn_op rfl rfl (wantB_none rfl) fun _ hF2 => ?_, ?_⟩
                · obtain ⟨_, hle2, H2⟩ := hF2
                  refine  (ow_move (v := .bool (decide (r6.think < 0))) rfl ?_)
                  exact ⟨rfl, rfl⟩
                refine ⟨kn_op rfl rfl ((wantB_some (j := 13) rfl rfl (d := 53) rfl rfl (u := false) (by exact congrArg Value.bool hg10)).trans rfl) fun _ hF2 => ?_, ?_⟩
                · obtain ⟨_, hle2, H2⟩ := hF2
                  refine  (ow_fieldAddr fd43_2 ty3 rfl rfl (r := 2) rfl ?_)
                  exact ⟨rfl, rfl⟩
                refine ⟨kn_op rfl rfl ((wantB_some (j := 13) rfl rfl (d := 53) rfl rfl (u := false) (by exact congrArg Value.bool hg10)).trans rfl) fun _ hF2 => ?_, ?_⟩
                · obtain ⟨_, hle2, H2⟩ := hF2
                  refine  (ow_load (v := .int .i64 r6.think) ty3 H2 rfl 0 rfl rfl rfl rfl ?_)
                  exact ⟨rfl, rfl⟩
                refine ⟨kn_op rfl rfl ((wantB_some (j := 13) rfl rfl (d := 53) rfl rfl (u := false) (by exact congrArg Value.bool hg10)).trans rfl) fun _ hF2 => ?_, ?_⟩
                · obtain ⟨_, hle2, H2⟩ := hF2
                  refine  (ow_geq rfl rfl ?_)
                  exact ⟨rfl, rfl⟩
                refine ⟨kn_op rfl rfl (wantB_none rfl) fun _ hF2 => ?_, ?_⟩
                · obtain ⟨_, hle2, H2⟩ := hF2
                  refine  (ow_pick (a := false) (v := .bool (decide (1099511627776 ≤ r6.think))) (congrArg Value.bool hg10) rfl ?_)
                  exact ⟨rfl, rfl⟩
                refine ⟨kn_op rfl rfl (wantB_none rfl) fun _ hF2 => ?_, ?_⟩
                · obtain ⟨_, hle2, H2⟩ := hF2
                  refine  (ow_move (v := .bool (decide (1099511627776 ≤ r6.think))) rfl ?_)
                  exact ⟨rfl, rfl⟩
                refine ⟨kn_op rfl rfl ((wantB_some (j := 18) rfl rfl (d := 58) rfl rfl (u := false) (by exact congrArg Value.bool hg11)).trans rfl) fun _ hF2 => ?_, ?_⟩
                · obtain ⟨_, hle2, H2⟩ := hF2
                  refine  (ow_fieldAddr fd43_3 ty26 rfl rfl (r := 3) rfl ?_)
                  exact ⟨rfl, rfl⟩
                refine ⟨kn_op rfl rfl ((wantB_some (j := 18) rfl rfl (d := 58) rfl rfl (u := false) (by exact congrArg Value.bool hg11)).trans rfl) fun _ hF2 => ?_, ?_⟩
                · obtain ⟨_, hle2, H2⟩ := hF2
                  refine  (ow_load (v := .agg #[.int .i64 r6.expr.kind, .int .i64 r6.expr.n, .int .i64 r6.expr.no, .string r6.expr.name, .slice A6 r6.expr.l.length c6]) ty26 H2 rfl 0 rfl rfl rfl rfl ?_)
                  exact ⟨rfl, rfl⟩
                exact trivial
              have H := H.drew
              refine cw_op rfl ((wantB_some (j := 18) rfl rfl (d := 58) rfl rfl (u := false) (by exact congrArg Value.bool hg11)).trans rfl) (ow_call en105 rfl (formedExpr_c true r6.expr.pc (x := r6.expr) (Nat.le_refl _) H (ex_iff.2 ⟨_, rfl, r6k, r6n, r6o, r6s, r6l⟩)) ?_)
              rintro _ _ ⟨rfl, H⟩
              refine af_some [(63, .bool (!(allX (partG true) r6.expr))), (62, .bool (!(allX (partG true) r6.expr)))] (fun w_ => ∃ I2, Le I I2 ∧ Hp B I2 w_ [(g7, Ob [.string r6.kind, .int .i64 r6.kindNo, .int .i64 r6.think, .int .i64 r6.expr.kind, .int .i64 r6.expr.n, .int .i64 r6.expr.no, .string r6.expr.name, .slice A6 r6.expr.l.length c6] 43), (g1, Ob [.string p.name, .slice Ak p.kinds.length ck, .slice Ao p.offices.length co, .slice Ar p.rules.length cr, .int .i64 p.change.kind, .int .i64 p.change.n, .int .i64 p.change.no, .string p.change.name, .slice Ac p.change.l.length cc, .int .i64 p.mode] 28)]) rfl ⟨_, Le.refl _, H.pick [0, 1] (by decide)⟩ ?_ ?_
              · refine ⟨kn_op rfl rfl ((wantB_some (j := 18) rfl rfl (d := 58) rfl rfl (u := false) (by exact congrArg Value.bool hg11)).trans rfl) fun _ hF2 => ?_, ?_⟩
                · obtain ⟨_, hle2, H2⟩ := hF2
                  refine  (ow_not rfl ?_)
                  exact ⟨rfl, rfl⟩
                refine ⟨kn_op rfl rfl (wantB_none rfl) fun _ hF2 => ?_, ?_⟩
                · obtain ⟨_, hle2, H2⟩ := hF2
                  refine  (ow_pick (a := false) (v := .bool (!(allX (partG true) r6.expr))) (congrArg Value.bool hg11) rfl ?_)
                  exact ⟨rfl, rfl⟩
                exact trivial
              refine cw_nil ?_
              exact st_live [1, 3, 63] (again _ _ ⟨_, _, rfl, H, by first | rfl | (rw [hg9, hg10, hg11] <;> rfl) | simp [hg9, hg10, hg11]⟩)
        · refine st_draw (F := (fun w_ => ∃ I2, Le I I2 ∧ Hp B I2 w_ [(g7, Ob [.string r6.kind, .int .i64 r6.kindNo, .int .i64 r6.think, .int .i64 r6.expr.kind, .int .i64 r6.expr.n, .int .i64 r6.expr.no, .string r6.expr.name, .slice A6 r6.expr.l.length c6] 43), (g1, Ob [.string p.name, .slice Ak p.kinds.length ck, .slice Ao p.offices.length co, .slice Ar p.rules.length cr, .int .i64 p.change.kind, .int .i64 p.change.n, .int .i64 p.change.no, .string p.change.name, .slice Ac p.change.l.length cc, .int .i64 p.mode] 28)])) (p0 := [0, 1, 2, 3, 4, 5, 6, 7, 8, 9, 10, 11, 12, 13, 14, 15, 16, 17, 18, 19, 20]) (plan := [(21, [22, 23], [])]) [] [] [(60, undef), (59, undef), (58, .bool true), (57, .bool true), (56, undef), (55, undef), (54, undef), (53, .bool true), (52, .bool true), (51, undef), (50, undef), (49, undef), (48, .bool (!decide (r6.kind = k8))), (47, .bool (!decide (r6.kind = k8))), (46, .string k8), (45, .pointer (some ⟨b8, o8 + i * 1, none⟩)), (44, .int .i64 (i : Int)), (43, .slice Ak p.kinds.length ck), (42, .pointer (some ⟨g1, 1, none⟩)), (41, .string r6.kind), (40, .pointer (some ⟨g7, 0, none⟩))] (by kernel_rfl) rfl ?_ ⟨_, Le.refl _, H.drew.pick [0, 1] (by decide)⟩ ?_
          · refine ⟨kn_op rfl rfl (wantB_none rfl) fun _ hF2 => ?_, ?_⟩
            · obtain ⟨_, hle2, H2⟩ := hF2
              refine  (ow_fieldAddr fd43_0 ty9 rfl rfl (r := 0) rfl ?_)
              exact ⟨rfl, rfl⟩
            refine ⟨kn_op rfl rfl (wantB_none rfl) fun _ hF2 => ?_, ?_⟩
            · obtain ⟨_, hle2, H2⟩ := hF2
              refine  (ow_load (v := .string r6.kind) ty9 H2 rfl 0 rfl rfl rfl rfl ?_)
              exact ⟨rfl, rfl⟩
            refine ⟨kn_op rfl rfl (wantB_none rfl) fun _ hF2 => ?_, ?_⟩
            · obtain ⟨_, hle2, H2⟩ := hF2
              refine  (ow_fieldAddr fd28_1 ty22 rfl rfl (r := 1) rfl ?_)
              exact ⟨rfl, rfl⟩
            refine ⟨kn_op rfl rfl (wantB_none rfl) fun _ hF2 => ?_, ?_⟩
            · obtain ⟨_, hle2, H2⟩ := hF2
              refine  (ow_load (v := .slice Ak p.kinds.length ck) ty22 H2 rfl 1 rfl rfl rfl rfl ?_)
              exact ⟨rfl, rfl⟩
            refine ⟨kn_op rfl rfl (wantB_none rfl) fun _ hF2 => ?_, ?_⟩
            · obtain ⟨_, hle2, H2⟩ := hF2
              refine  (ow_move (v := .int .i64 (i : Int)) rfl ?_)
              exact ⟨rfl, rfl⟩
            refine ⟨kn_op rfl rfl (wantB_none rfl) fun _ hF2 => ?_, ?_⟩
            · obtain ⟨_, hle2, H2⟩ := hF2
              refine  (ow_indexAddrA sl22 ty9 hA8 rfl rfl (by omega) (by omega) (r := o8 + i * 1) rfl ?_)
              exact ⟨rfl, rfl⟩
            refine ⟨kn_op rfl rfl (wantB_none rfl) fun _ hF2 => ?_, ?_⟩
            · obtain ⟨_, hle2, H2⟩ := hF2
              refine  (ow_loadI (v := .string k8) ty9 H2 rfl (At.mono hle2 hat8) rfl rfl rfl ?_)
              exact ⟨rfl, rfl⟩
            refine ⟨kn_op rfl rfl (wantB_none rfl) fun _ hF2 => ?_, ?_⟩
            · obtain ⟨_, hle2, H2⟩ := hF2
              refine  (ow_sne rfl rfl ?_)
              exact ⟨rfl, rfl⟩
            refine ⟨kn_op rfl rfl (wantB_none rfl) fun _ hF2 => ?_, ?_⟩
            · obtain ⟨_, hle2, H2⟩ := hF2
              refine  (ow_move (v := .bool (!decide (r6.kind = k8))) rfl ?_)
              exact ⟨rfl, rfl⟩
            refine ⟨kn_pass rfl rfl ((wantB_some (j := 8) rfl rfl (d := 48) rfl rfl (u := true) (by exact congrArg Value.bool (by rw [hg9] <;> rfl))).trans rfl) rfl, ?_⟩
            refine ⟨kn_pass rfl rfl ((wantB_some (j := 8) rfl rfl (d := 48) rfl rfl (u := true) (by exact congrArg Value.bool (by rw [hg9] <;> rfl))).trans rfl) rfl, ?_⟩
            refine ⟨kn_pass rfl rfl ((wantB_some (j := 8) rfl rfl (d := 48) rfl rfl (u := true) (by exact congrArg Value.bool (by rw [hg9] <;> rfl))).trans rfl) rfl, ?_⟩
            refine ⟨kn_op rfl rfl (wantB_none rfl) fun _ hF2 => ?_, ?_⟩
            · obtain ⟨_, hle2, H2⟩ := hF2
              refine  (ow_pick (a := true) (v := .bool true) (congrArg Value.bool (by rw [hg9] <;> rfl)) rfl ?_)
              exact ⟨rfl, rfl⟩
            refine ⟨kn_op rfl rfl (wantB_none rfl) fun _ hF2 => ?_, ?_⟩
            · obtain ⟨_, hle2, H2⟩ := hF2
              refine  (ow_move (v := .bool true) rfl ?_)
              exact ⟨rfl, rfl⟩
            refine ⟨kn_pass rfl rfl ((wantB_some (j := 13) rfl rfl (d := 53) rfl rfl (u := true) rfl).trans rfl) rfl, ?_⟩
            refine ⟨kn_pass rfl rfl ((wantB_some (j := 13) rfl rfl (d := 53) rfl rfl (u := true) rfl).trans rfl) rfl, ?_⟩
            refine ⟨kn_pass rfl rfl ((wantB_some (j := 13) rfl rfl (d := 53) rfl rfl (u := true) rfl).trans rfl) rfl, ?_⟩
            refine ⟨kn_op rfl rfl (wantB_none rfl) fun _ hF2 => ?_, ?_⟩
            · obtain ⟨_, hle2, H2⟩ := hF2
              refine  (ow_pick (v := .bool true) rfl rfl ?_)
              exact ⟨rfl, rfl⟩
            refine ⟨kn_op rfl rfl (wantB_none rfl) fun _ hF2 => ?_, ?_⟩
            · obtain ⟨_, hle2, H2⟩ := hF2
              refine  (ow_move (v := .bool true) rfl ?_)
              exact ⟨rfl, rfl⟩
            refine ⟨kn_pass rfl rfl ((wantB_some (j := 18) rfl rfl (d := 58) rfl rfl (u := true) rfl).trans rfl) rfl, ?_⟩
            refine ⟨kn_pass rfl rfl ((wantB_some (j := 18) rfl rfl (d := 58) rfl rfl (u := true) rfl).trans rfl) rfl, ?_⟩
            exact trivial
          have H := H.drew
          refine cw_pass rfl ((wantB_some (j := 18) rfl rfl (d := 58) rfl rfl (u := true) rfl).trans rfl) ?_
          refine af_some [(63, .bool true), (62, undef)] (fun w_ => ∃ I2, Le I I2 ∧ Hp B I2 w_ [(g7, Ob [.string r6.kind, .int .i64 r6.kindNo, .int .i64 r6.think, .int .i64 r6.expr.kind, .int .i64 r6.expr.n, .int .i64 r6.expr.no, .string r6.expr.name, .slice A6 r6.expr.l.length c6] 43), (g1, Ob [.string p.name, .slice Ak p.kinds.length ck, .slice Ao p.offices.length co, .slice Ar p.rules.length cr, .int .i64 p.change.kind, .int .i64 p.change.n, .int .i64 p.change.no, .string p.change.name, .slice Ac p.change.l.length cc, .int .i64 p.mode] 28)]) rfl ⟨_, Le.refl _, H.pick [0, 1] (by decide)⟩ ?_ ?_
          · refine ⟨kn_pass rfl rfl ((wantB_some (j := 18) rfl rfl (d := 58) rfl rfl (u := true) rfl).trans rfl) rfl, ?_⟩
            refine ⟨kn_op rfl rfl (wantB_none rfl) fun _ hF2 => ?_, ?_⟩
            · obtain ⟨_, hle2, H2⟩ := hF2
              refine  (ow_pick (v := .bool true) rfl rfl ?_)
              exact ⟨rfl, rfl⟩
            exact trivial
          refine cw_nil ?_
          exact st_live [1, 3, 63] (again _ _ ⟨_, _, rfl, H, by first | rfl | (rw [hg9] <;> rfl) | simp [hg9]⟩)
      rintro _ _ ⟨r12, _, rfl, H, rfl⟩
      refine st_cond (!(decide (r6.kind = k8)) || ((decide (r6.think < 0)) || ((decide (1099511627776 ≤ r6.think)) || (!(allX (partG true) r6.expr))))) rfl (fun hc13 => ?_) (fun hc13 => ?_)
      · refine st_seq ?_
        refine st_region ?_
        refine sr_op rfl rfl (ow_assign (v := .bool false) rfl ?_)
        refine sr_nil ?_
        refine st_ret hb (hR _ _ (.bool false) (res_run (vs := [.bool false]) Tryd.results64 ⟨_, _, rfl, rfl, rfl⟩) ?_)
        exact ⟨_, rfl, by rw [form_eq, ha, rulesG_step he6 he8, rule_no hc13, Bool.false_and, Bool.false_and, Bool.and_false], H.drop 2⟩
      · refine st_skip ?_
        refine st_inBlock ?_
        refine st_region ?_
        refine sr_op rfl rfl (ow_move (v := .int .i64 (i : Int)) rfl ?_)
        refine sr_op rfl rfl (ow_add (r := ((i + 1 : Nat) : Int)) rfl rfl (inc_i64 (by omega)) ?_)
        refine sr_op rfl rfl (ow_assign (v := .int .i64 ((i + 1 : Nat) : Int)) rfl ?_)
        refine sr_nil ?_
        exact st_inLoop (st_live [1, 3] (ih4 _ _ _ (by omega) ⟨i + 1, _, rfl, rfl, H.drop 1, by omega, by rw [ha, rulesG_step he6 he8, rule_yes hc13, Bool.true_and]⟩))
    · have hc5 := of_decide_eq_false hc5
      refine st_exit rfl ?_
      refine st_seq ?_
      refine st_region ?_
      refine sr_op rfl rfl (ow_fieldAddr fd28_4 ty26 rfl rfl (r := 4) rfl ?_)
      refine sr_op rfl rfl (ow_load (v := .agg #[.int .i64 p.change.kind, .int .i64 p.change.n, .int .i64 p.change.no, .string p.change.name, .slice Ac p.change.l.length cc]) ty26 H rfl 0 rfl rfl rfl rfl ?_)
      refine sr_op rfl rfl (ow_call en105 rfl (formedExpr_c false p.change.pc (x := p.change) (Nat.le_refl _) H (ex_iff.2 ⟨_, rfl, hck, hcn, hcno, hcs, hcl⟩)) ?_)
      rintro _ _ ⟨rfl, H⟩
      refine sr_op rfl rfl (ow_assign (v := .bool (allX (partG false) p.change)) rfl ?_)
      refine sr_nil ?_
      refine st_ret hb (hR _ _ (.bool (allX (partG false) p.change)) (res_run (vs := [.bool (allX (partG false) p.change)]) Tryd.results64 ⟨_, _, rfl, rfl, rfl⟩) ?_)
      have ht : rulesG p.kinds p.rules 0 = true := by rw [ha, List.drop_of_length_le (by omega)]; rfl
      exact ⟨_, rfl, by rw [form_eq, formed_yes hc2, ht]; rfl, H.drop 1⟩
end Go.Proofs.YtbbflenaeihmeaaDoor
