/-
  Walks: the kinds of expressions, the form of a policy.
-/
import Derived.Test.YtbbflenaeihmeaaDoorP7
set_option linter.unusedVariables false
set_option linter.unusedSimpArgs false
set_option maxRecDepth 10000
set_option maxHeartbeats 4000000
namespace Go.Proofs.YtbbflenaeihmeaaDoor
open Go Go.RowKit

def withinB (n a b : Int) : Bool := decide (a ≤ n) && decide (n ≤ b)
def k1B (n : Int) (nm : ByteArray) (c : Nat) : Bool := decide (n = 0) && decide ((c : Int) = 0)
def k2B (n : Int) (nm : ByteArray) (c : Nat) : Bool := withinB n 1 4096 && decide ((c : Int) = 0)
def k3B (n : Int) (nm : ByteArray) (c : Nat) : Bool := (decide (nm = ⟨#[]⟩) && withinB (c : Int) 1 16) && withinB n 1 (c : Int)
def k4B (n : Int) (nm : ByteArray) (c : Nat) : Bool := (decide (nm = ⟨#[]⟩) && decide ((c : Int) = 2)) && withinB n 0 1099511627776
def kindOk (x : Ex) : Bool := if x.kind = 1 then k1B x.n x.name x.l.length else if x.kind = 2 then k2B x.n x.name x.l.length else if x.kind = 3 then k3B x.n x.name x.l.length else if x.kind = 4 then k4B x.n x.name x.l.length else false
theorem kindOk1 {x : Ex} (h : x.kind = 1) : kindOk x = k1B x.n x.name x.l.length := by simp [kindOk, h]
theorem kindOk2 {x : Ex} (h : x.kind = 2) : kindOk x = k2B x.n x.name x.l.length := by simp [kindOk, h]
theorem kindOk3 {x : Ex} (h : x.kind = 3) : kindOk x = k3B x.n x.name x.l.length := by simp [kindOk, h]
theorem kindOk4 {x : Ex} (h : x.kind = 4) : kindOk x = k4B x.n x.name x.l.length := by simp [kindOk, h]
theorem kindOk0 {x : Ex} (h : withinB x.kind 1 4 = false) : kindOk x = false := by
  unfold kindOk
  unfold withinB at h
  repeat' split
  all_goals simp_all
theorem kind_cases (k : Int) : k = 1 ∨ k = 2 ∨ k = 3 ∨ k = 4 ∨ withinB k 1 4 = false := by
  unfold withinB
  by_cases h1 : 1 ≤ k <;> by_cases h2 : k ≤ 4 <;> simp [h1, h2]
  omega
def partOk (up : Bool) (q : Pt) : Bool := kindOk q.1 && (up || !decide (q.1.kind = 4))
def ruleOk (k : ByteArray) (r : Ru) : Bool := decide (r.kind = k) && withinB r.think 0 1099511627775
def rulesF (ks : List ByteArray) : List Ru → Nat → Bool
  | [], _ => true
  | r :: l, i => (match ks[i]? with | some k => ruleOk k r | none => false) && rulesF ks l (i + 1)
def formF (m : Int) : List Ex → Nat → Bool
  | [], _ => true
  | x :: l, i => (partsX x 1).all (partOk (decide ((i : Int) < m))) && formF m l (i + 1)
def formB (p : Po) : Bool := (((decide (0 < (p.kinds.length : Int)) && decide ((p.rules.length : Int) = (p.kinds.length : Int))) && withinB p.mode 1 4) && rulesF p.kinds p.rules 0) && formF ((exprs p).length - 1) (exprs p) 0
theorem rulesF_step {ks : List ByteArray} {l : List Ru} {i : Nat} {r : Ru} {k : ByteArray} (hr : l[i]? = some r) (hk : ks[i]? = some k) : rulesF ks (l.drop i) i = (ruleOk k r && rulesF ks (l.drop (i + 1)) (i + 1)) := by
  rw [drop_some hr, rulesF, hk]
theorem formF_step {m : Int} {l : List Ex} {i : Nat} {x : Ex} (hx : l[i]? = some x) : formF m (l.drop i) i = ((partsX x 1).all (partOk (decide ((i : Int) < m))) && formF m (l.drop (i + 1)) (i + 1)) := by
  rw [drop_some hx, formF]
theorem kind1_c {B I L w} (H : Hp B I w L) (k n no : Int) (nm : ByteArray) (A : Option Addr) (l c : Nat) : Calls Tryd.prog 173 #[.agg #[.int .i64 k, .int .i64 n, .int .i64 no, .string nm, .slice A l c]] w (Rt fun r w' => r = .bool (k1B n nm l) ∧ Hp B I w' L) := by
  refine calls_st (n := 12) Tryd.func173 rfl rfl rfl ?_
  intro G bF cs hb hfn hR hP
  simp only [ini]
  refine st_seq ?_
  refine st_region ?_
  refine sr_op rfl rfl (ow_box H (v := .agg #[.int .i64 k, .int .i64 n, .int .i64 no, .string nm, .slice A l c]) rfl [.int .i64 k, .int .i64 n, .int .i64 no, .string nm, .slice A l c] rfl (fun g1 _ H => ?_))
  refine sr_op rfl rfl (ow_assign (v := .bool false) rfl ?_)
  refine sr_nil ?_
  refine st_seq ?_
  refine st_region ?_
  refine sr_op rfl rfl (ow_fieldAddr fd26_1 ty3 rfl rfl (r := 1) rfl ?_)
  refine sr_op rfl rfl (ow_load (v := .int .i64 n) ty3 H rfl 0 rfl rfl rfl rfl ?_)
  refine sr_op rfl rfl (ow_eql rfl rfl ?_)
  refine sr_op rfl rfl (ow_move (v := .bool (decide (n = 0))) rfl ?_)
  refine sr_cut 5 (fun m_ w_ => ∃ (r_ : Sl) (v_ : Bool), m_ = (11, .bool v_) :: (2, .bool false) :: r_ ∧ Hp B I w_ ((g1, Ob [.int .i64 k, .int .i64 n, .int .i64 no, .string nm, .slice A l c] 26) :: L) ∧ v_ = ((decide (n = 0)) && (decide ((l : Int) = 0)))) (fun again => ?_) ?_
  · rcases hg : decide (n = 0) with _ | _
    · refine sr_pass rfl (j := 3) (d := 6) rfl rfl rfl (u := false) (v := true) rfl rfl ?_
      refine sr_pass rfl (j := 3) (d := 6) rfl rfl rfl (u := false) (v := true) rfl rfl ?_
      refine sr_pass rfl (j := 3) (d := 6) rfl rfl rfl (u := false) (v := true) rfl rfl ?_
      refine sr_pass rfl (j := 3) (d := 6) rfl rfl rfl (u := false) (v := true) rfl rfl ?_
      refine sr_op rfl rfl (ow_pick (v := .bool false) rfl rfl ?_)
      exact sr_live [11, 2] (again _ _ ⟨_, _, rfl, H, by rw [hg] <;> rfl⟩)
    · refine sr_want rfl (j := 3) (d := 6) rfl rfl rfl (v := true) rfl rfl (ow_fieldAddr fd26_4 ty24 rfl rfl (r := 4) rfl ?_)
      refine sr_want rfl (j := 3) (d := 6) rfl rfl rfl (v := true) rfl rfl (ow_load (v := .slice A l c) ty24 H rfl 0 rfl rfl rfl rfl ?_)
      refine sr_want rfl (j := 3) (d := 6) rfl rfl rfl (v := true) rfl rfl (ow_lenS sl24 rfl rfl ?_)
      refine sr_want rfl (j := 3) (d := 6) rfl rfl rfl (v := true) rfl rfl (ow_eql rfl rfl ?_)
      refine sr_op rfl rfl (ow_pick (v := .bool (decide ((l : Int) = 0))) rfl rfl ?_)
      exact sr_live [11, 2] (again _ _ ⟨_, _, rfl, H, by rw [hg] <;> rfl⟩)
  rintro _ _ ⟨r, _, rfl, H, rfl⟩
  refine sr_op rfl rfl (ow_assign (v := .bool ((decide (n = 0)) && (decide ((l : Int) = 0)))) rfl ?_)
  refine sr_nil ?_
  refine st_ret hb (hR _ _ (.bool ((decide (n = 0)) && (decide ((l : Int) = 0)))) (res_run (vs := [.bool ((decide (n = 0)) && (decide ((l : Int) = 0)))]) Tryd.results173 ⟨_, _, rfl, rfl, rfl⟩) ?_)
  exact ⟨_, rfl, rfl, H.drop 1⟩
theorem kind2_c {B I L w} (H : Hp B I w L) (k n no : Int) (nm : ByteArray) (A : Option Addr) (l c : Nat) : Calls Tryd.prog 174 #[.agg #[.int .i64 k, .int .i64 n, .int .i64 no, .string nm, .slice A l c]] w (Rt fun r w' => r = .bool (k2B n nm l) ∧ Hp B I w' L) := by
  refine calls_st (n := 12) Tryd.func174 rfl rfl rfl ?_
  intro G bF cs hb hfn hR hP
  simp only [ini]
  refine st_seq ?_
  refine st_region ?_
  refine sr_op rfl rfl (ow_box H (v := .agg #[.int .i64 k, .int .i64 n, .int .i64 no, .string nm, .slice A l c]) rfl [.int .i64 k, .int .i64 n, .int .i64 no, .string nm, .slice A l c] rfl (fun g1 _ H => ?_))
  refine sr_op rfl rfl (ow_assign (v := .bool false) rfl ?_)
  refine sr_nil ?_
  refine st_seq ?_
  refine st_region ?_
  refine sr_op rfl rfl (ow_fieldAddr fd26_1 ty3 rfl rfl (r := 1) rfl ?_)
  refine sr_op rfl rfl (ow_load (v := .int .i64 n) ty3 H rfl 0 rfl rfl rfl rfl ?_)
  refine sr_op rfl rfl (ow_call en69 rfl (within_c H n 1 4096) ?_)
  rintro _ _ ⟨rfl, H⟩
  refine sr_op rfl rfl (ow_move (v := .bool (withinB n 1 4096)) rfl ?_)
  refine sr_cut 5 (fun m_ w_ => ∃ (r_ : Sl) (v_ : Bool), m_ = (11, .bool v_) :: (2, .bool false) :: r_ ∧ Hp B I w_ ((g1, Ob [.int .i64 k, .int .i64 n, .int .i64 no, .string nm, .slice A l c] 26) :: L) ∧ v_ = ((withinB n 1 4096) && (decide ((l : Int) = 0)))) (fun again => ?_) ?_
  · rcases hg : withinB n 1 4096 with _ | _
    · refine sr_pass rfl (j := 3) (d := 6) rfl rfl rfl (u := false) (v := true) rfl rfl ?_
      refine sr_pass rfl (j := 3) (d := 6) rfl rfl rfl (u := false) (v := true) rfl rfl ?_
      refine sr_pass rfl (j := 3) (d := 6) rfl rfl rfl (u := false) (v := true) rfl rfl ?_
      refine sr_pass rfl (j := 3) (d := 6) rfl rfl rfl (u := false) (v := true) rfl rfl ?_
      refine sr_op rfl rfl (ow_pick (v := .bool false) rfl rfl ?_)
      exact sr_live [11, 2] (again _ _ ⟨_, _, rfl, H, by rw [hg] <;> rfl⟩)
    · refine sr_want rfl (j := 3) (d := 6) rfl rfl rfl (v := true) rfl rfl (ow_fieldAddr fd26_4 ty24 rfl rfl (r := 4) rfl ?_)
      refine sr_want rfl (j := 3) (d := 6) rfl rfl rfl (v := true) rfl rfl (ow_load (v := .slice A l c) ty24 H rfl 0 rfl rfl rfl rfl ?_)
      refine sr_want rfl (j := 3) (d := 6) rfl rfl rfl (v := true) rfl rfl (ow_lenS sl24 rfl rfl ?_)
      refine sr_want rfl (j := 3) (d := 6) rfl rfl rfl (v := true) rfl rfl (ow_eql rfl rfl ?_)
      refine sr_op rfl rfl (ow_pick (v := .bool (decide ((l : Int) = 0))) rfl rfl ?_)
      exact sr_live [11, 2] (again _ _ ⟨_, _, rfl, H, by rw [hg] <;> rfl⟩)
  rintro _ _ ⟨r, _, rfl, H, rfl⟩
  refine sr_op rfl rfl (ow_assign (v := .bool ((withinB n 1 4096) && (decide ((l : Int) = 0)))) rfl ?_)
  refine sr_nil ?_
  refine st_ret hb (hR _ _ (.bool ((withinB n 1 4096) && (decide ((l : Int) = 0)))) (res_run (vs := [.bool ((withinB n 1 4096) && (decide ((l : Int) = 0)))]) Tryd.results174 ⟨_, _, rfl, rfl, rfl⟩) ?_)
  exact ⟨_, rfl, rfl, H.drop 1⟩
theorem kind3_c {B I L w} (H : Hp B I w L) (k n no : Int) (nm : ByteArray) (A : Option Addr) (l c : Nat) : Calls Tryd.prog 175 #[.agg #[.int .i64 k, .int .i64 n, .int .i64 no, .string nm, .slice A l c]] w (Rt fun r w' => r = .bool (k3B n nm l) ∧ Hp B I w' L) := by
  refine calls_st (n := 20) Tryd.func175 rfl rfl rfl ?_
  intro G bF cs hb hfn hR hP
  simp only [ini]
  refine st_seq ?_
  refine st_region ?_
  refine sr_op rfl rfl (ow_box H (v := .agg #[.int .i64 k, .int .i64 n, .int .i64 no, .string nm, .slice A l c]) rfl [.int .i64 k, .int .i64 n, .int .i64 no, .string nm, .slice A l c] rfl (fun g1 _ H => ?_))
  refine sr_op rfl rfl (ow_assign (v := .bool false) rfl ?_)
  refine sr_nil ?_
  refine st_seq ?_
  refine st_region ?_
  refine sr_op rfl rfl (ow_fieldAddr fd26_3 ty9 rfl rfl (r := 3) rfl ?_)
  refine sr_op rfl rfl (ow_load (v := .string nm) ty9 H rfl 0 rfl rfl rfl rfl ?_)
  refine sr_op rfl rfl (ow_seq rfl rfl ?_)
  refine sr_op rfl rfl (ow_move (v := .bool (decide (nm = ⟨#[]⟩))) rfl ?_)
  refine sr_cut 5 (fun m_ w_ => ∃ (r_ : Sl) (v_ : Bool), m_ = (11, .bool v_) :: (1, .pointer (some ⟨g1, 0, none⟩)) :: (2, .bool false) :: r_ ∧ Hp B I w_ ((g1, Ob [.int .i64 k, .int .i64 n, .int .i64 no, .string nm, .slice A l c] 26) :: L) ∧ v_ = ((decide (nm = ⟨#[]⟩)) && (withinB (l : Int) 1 16))) (fun again => ?_) ?_
  · rcases hg : decide (nm = ⟨#[]⟩) with _ | _
    · refine sr_pass rfl (j := 3) (d := 6) rfl rfl rfl (u := false) (v := true) rfl rfl ?_
      refine sr_pass rfl (j := 3) (d := 6) rfl rfl rfl (u := false) (v := true) rfl rfl ?_
      refine sr_pass rfl (j := 3) (d := 6) rfl rfl rfl (u := false) (v := true) rfl rfl ?_
      refine sr_pass rfl (j := 3) (d := 6) rfl rfl rfl (u := false) (v := true) rfl rfl ?_
      refine sr_op rfl rfl (ow_pick (v := .bool false) rfl rfl ?_)
      exact sr_live [11, 1, 2] (again _ _ ⟨_, _, rfl, H, by rw [hg] <;> rfl⟩)
    · refine sr_want rfl (j := 3) (d := 6) rfl rfl rfl (v := true) rfl rfl (ow_fieldAddr fd26_4 ty24 rfl rfl (r := 4) rfl ?_)
      refine sr_want rfl (j := 3) (d := 6) rfl rfl rfl (v := true) rfl rfl (ow_load (v := .slice A l c) ty24 H rfl 0 rfl rfl rfl rfl ?_)
      refine sr_want rfl (j := 3) (d := 6) rfl rfl rfl (v := true) rfl rfl (ow_lenS sl24 rfl rfl ?_)
      refine sr_want rfl (j := 3) (d := 6) rfl rfl rfl (v := true) rfl rfl (ow_call en69 rfl (within_c H (l : Int) 1 16) ?_)
      rintro _ _ ⟨rfl, H⟩
      refine sr_op rfl rfl (ow_pick (v := .bool (withinB (l : Int) 1 16)) rfl rfl ?_)
      exact sr_live [11, 1, 2] (again _ _ ⟨_, _, rfl, H, by rw [hg] <;> rfl⟩)
  rintro _ _ ⟨r, _, rfl, H, rfl⟩
  refine sr_op rfl rfl (ow_move (v := .bool ((decide (nm = ⟨#[]⟩)) && (withinB (l : Int) 1 16))) rfl ?_)
  refine sr_cut 7 (fun m_ w_ => ∃ (r_ : Sl) (v_ : Bool), m_ = (19, .bool v_) :: (2, .bool false) :: r_ ∧ Hp B I w_ ((g1, Ob [.int .i64 k, .int .i64 n, .int .i64 no, .string nm, .slice A l c] 26) :: L) ∧ v_ = (((decide (nm = ⟨#[]⟩)) && (withinB (l : Int) 1 16)) && (withinB n 1 (l : Int)))) (fun again => ?_) ?_
  · rcases hg : (decide (nm = ⟨#[]⟩)) && (withinB (l : Int) 1 16) with _ | _
    · refine sr_pass rfl (j := 9) (d := 12) rfl rfl rfl (u := false) (v := true) rfl rfl ?_
      refine sr_pass rfl (j := 9) (d := 12) rfl rfl rfl (u := false) (v := true) rfl rfl ?_
      refine sr_pass rfl (j := 9) (d := 12) rfl rfl rfl (u := false) (v := true) rfl rfl ?_
      refine sr_pass rfl (j := 9) (d := 12) rfl rfl rfl (u := false) (v := true) rfl rfl ?_
      refine sr_pass rfl (j := 9) (d := 12) rfl rfl rfl (u := false) (v := true) rfl rfl ?_
      refine sr_pass rfl (j := 9) (d := 12) rfl rfl rfl (u := false) (v := true) rfl rfl ?_
      refine sr_op rfl rfl (ow_pick (v := .bool false) rfl rfl ?_)
      exact sr_live [19, 2] (again _ _ ⟨_, _, rfl, H, by rw [hg] <;> rfl⟩)
    · refine sr_want rfl (j := 9) (d := 12) rfl rfl rfl (v := true) rfl rfl (ow_fieldAddr fd26_1 ty3 rfl rfl (r := 1) rfl ?_)
      refine sr_want rfl (j := 9) (d := 12) rfl rfl rfl (v := true) rfl rfl (ow_load (v := .int .i64 n) ty3 H rfl 0 rfl rfl rfl rfl ?_)
      refine sr_want rfl (j := 9) (d := 12) rfl rfl rfl (v := true) rfl rfl (ow_fieldAddr fd26_4 ty24 rfl rfl (r := 4) rfl ?_)
      refine sr_want rfl (j := 9) (d := 12) rfl rfl rfl (v := true) rfl rfl (ow_load (v := .slice A l c) ty24 H rfl 0 rfl rfl rfl rfl ?_)
      refine sr_want rfl (j := 9) (d := 12) rfl rfl rfl (v := true) rfl rfl (ow_lenS sl24 rfl rfl ?_)
      refine sr_want rfl (j := 9) (d := 12) rfl rfl rfl (v := true) rfl rfl (ow_call en69 rfl (within_c H n 1 (l : Int)) ?_)
      rintro _ _ ⟨rfl, H⟩
      refine sr_op rfl rfl (ow_pick (v := .bool (withinB n 1 (l : Int))) rfl rfl ?_)
      exact sr_live [19, 2] (again _ _ ⟨_, _, rfl, H, by rw [hg] <;> rfl⟩)
  rintro _ _ ⟨r, _, rfl, H, rfl⟩
  refine sr_op rfl rfl (ow_assign (v := .bool (((decide (nm = ⟨#[]⟩)) && (withinB (l : Int) 1 16)) && (withinB n 1 (l : Int)))) rfl ?_)
  refine sr_nil ?_
  refine st_ret hb (hR _ _ (.bool (((decide (nm = ⟨#[]⟩)) && (withinB (l : Int) 1 16)) && (withinB n 1 (l : Int)))) (res_run (vs := [.bool (((decide (nm = ⟨#[]⟩)) && (withinB (l : Int) 1 16)) && (withinB n 1 (l : Int)))]) Tryd.results175 ⟨_, _, rfl, rfl, rfl⟩) ?_)
  exact ⟨_, rfl, rfl, H.drop 1⟩
theorem kind4_c {B I L w} (H : Hp B I w L) (k n no : Int) (nm : ByteArray) (A : Option Addr) (l c : Nat) : Calls Tryd.prog 176 #[.agg #[.int .i64 k, .int .i64 n, .int .i64 no, .string nm, .slice A l c]] w (Rt fun r w' => r = .bool (k4B n nm l) ∧ Hp B I w' L) := by
  refine calls_st (n := 17) Tryd.func176 rfl rfl rfl ?_
  intro G bF cs hb hfn hR hP
  simp only [ini]
  refine st_seq ?_
  refine st_region ?_
  refine sr_op rfl rfl (ow_box H (v := .agg #[.int .i64 k, .int .i64 n, .int .i64 no, .string nm, .slice A l c]) rfl [.int .i64 k, .int .i64 n, .int .i64 no, .string nm, .slice A l c] rfl (fun g1 _ H => ?_))
  refine sr_op rfl rfl (ow_assign (v := .bool false) rfl ?_)
  refine sr_nil ?_
  refine st_seq ?_
  refine st_region ?_
  refine sr_op rfl rfl (ow_fieldAddr fd26_3 ty9 rfl rfl (r := 3) rfl ?_)
  refine sr_op rfl rfl (ow_load (v := .string nm) ty9 H rfl 0 rfl rfl rfl rfl ?_)
  refine sr_op rfl rfl (ow_seq rfl rfl ?_)
  refine sr_op rfl rfl (ow_move (v := .bool (decide (nm = ⟨#[]⟩))) rfl ?_)
  refine sr_cut 5 (fun m_ w_ => ∃ (r_ : Sl) (v_ : Bool), m_ = (11, .bool v_) :: (1, .pointer (some ⟨g1, 0, none⟩)) :: (2, .bool false) :: r_ ∧ Hp B I w_ ((g1, Ob [.int .i64 k, .int .i64 n, .int .i64 no, .string nm, .slice A l c] 26) :: L) ∧ v_ = ((decide (nm = ⟨#[]⟩)) && (decide ((l : Int) = 2)))) (fun again => ?_) ?_
  · rcases hg : decide (nm = ⟨#[]⟩) with _ | _
    · refine sr_pass rfl (j := 3) (d := 6) rfl rfl rfl (u := false) (v := true) rfl rfl ?_
      refine sr_pass rfl (j := 3) (d := 6) rfl rfl rfl (u := false) (v := true) rfl rfl ?_
      refine sr_pass rfl (j := 3) (d := 6) rfl rfl rfl (u := false) (v := true) rfl rfl ?_
      refine sr_pass rfl (j := 3) (d := 6) rfl rfl rfl (u := false) (v := true) rfl rfl ?_
      refine sr_op rfl rfl (ow_pick (v := .bool false) rfl rfl ?_)
      exact sr_live [11, 1, 2] (again _ _ ⟨_, _, rfl, H, by rw [hg] <;> rfl⟩)
    · refine sr_want rfl (j := 3) (d := 6) rfl rfl rfl (v := true) rfl rfl (ow_fieldAddr fd26_4 ty24 rfl rfl (r := 4) rfl ?_)
      refine sr_want rfl (j := 3) (d := 6) rfl rfl rfl (v := true) rfl rfl (ow_load (v := .slice A l c) ty24 H rfl 0 rfl rfl rfl rfl ?_)
      refine sr_want rfl (j := 3) (d := 6) rfl rfl rfl (v := true) rfl rfl (ow_lenS sl24 rfl rfl ?_)
      refine sr_want rfl (j := 3) (d := 6) rfl rfl rfl (v := true) rfl rfl (ow_eql rfl rfl ?_)
      refine sr_op rfl rfl (ow_pick (v := .bool (decide ((l : Int) = 2))) rfl rfl ?_)
      exact sr_live [11, 1, 2] (again _ _ ⟨_, _, rfl, H, by rw [hg] <;> rfl⟩)
  rintro _ _ ⟨r, _, rfl, H, rfl⟩
  refine sr_op rfl rfl (ow_move (v := .bool ((decide (nm = ⟨#[]⟩)) && (decide ((l : Int) = 2)))) rfl ?_)
  refine sr_cut 4 (fun m_ w_ => ∃ (r_ : Sl) (v_ : Bool), m_ = (16, .bool v_) :: (2, .bool false) :: r_ ∧ Hp B I w_ ((g1, Ob [.int .i64 k, .int .i64 n, .int .i64 no, .string nm, .slice A l c] 26) :: L) ∧ v_ = (((decide (nm = ⟨#[]⟩)) && (decide ((l : Int) = 2))) && (withinB n 0 1099511627776))) (fun again => ?_) ?_
  · rcases hg : (decide (nm = ⟨#[]⟩)) && (decide ((l : Int) = 2)) with _ | _
    · refine sr_pass rfl (j := 9) (d := 12) rfl rfl rfl (u := false) (v := true) rfl rfl ?_
      refine sr_pass rfl (j := 9) (d := 12) rfl rfl rfl (u := false) (v := true) rfl rfl ?_
      refine sr_pass rfl (j := 9) (d := 12) rfl rfl rfl (u := false) (v := true) rfl rfl ?_
      refine sr_op rfl rfl (ow_pick (v := .bool false) rfl rfl ?_)
      exact sr_live [16, 2] (again _ _ ⟨_, _, rfl, H, by rw [hg] <;> rfl⟩)
    · refine sr_want rfl (j := 9) (d := 12) rfl rfl rfl (v := true) rfl rfl (ow_fieldAddr fd26_1 ty3 rfl rfl (r := 1) rfl ?_)
      refine sr_want rfl (j := 9) (d := 12) rfl rfl rfl (v := true) rfl rfl (ow_load (v := .int .i64 n) ty3 H rfl 0 rfl rfl rfl rfl ?_)
      refine sr_want rfl (j := 9) (d := 12) rfl rfl rfl (v := true) rfl rfl (ow_call en69 rfl (within_c H n 0 1099511627776) ?_)
      rintro _ _ ⟨rfl, H⟩
      refine sr_op rfl rfl (ow_pick (v := .bool (withinB n 0 1099511627776)) rfl rfl ?_)
      exact sr_live [16, 2] (again _ _ ⟨_, _, rfl, H, by rw [hg] <;> rfl⟩)
  rintro _ _ ⟨r, _, rfl, H, rfl⟩
  refine sr_op rfl rfl (ow_assign (v := .bool (((decide (nm = ⟨#[]⟩)) && (decide ((l : Int) = 2))) && (withinB n 0 1099511627776))) rfl ?_)
  refine sr_nil ?_
  refine st_ret hb (hR _ _ (.bool (((decide (nm = ⟨#[]⟩)) && (decide ((l : Int) = 2))) && (withinB n 0 1099511627776))) (res_run (vs := [.bool (((decide (nm = ⟨#[]⟩)) && (decide ((l : Int) = 2))) && (withinB n 0 1099511627776))]) Tryd.results176 ⟨_, _, rfl, rfl, rfl⟩) ?_)
  exact ⟨_, rfl, rfl, H.drop 1⟩
def kindsV : List Value := [.func (.func 172) #[] #[], .func (.func 173) #[] #[], .func (.func 174) #[] #[], .func (.func 175) #[] #[], .func (.func 176) #[] #[]]
theorem form_c {B I L w} (H : Hp B I w L) {p : Po} {us : List Value} (hp : RepL I (encPo p) us) (hg : At I 0 0 kindsV) (hsz : sizesB p = true) : Calls Tryd.prog 60 #[.agg us.toArray] w (fun q w' => ∃ I', Le I I' ∧ Hp B I' w' L ∧ ((q = .returned (.tuple #[]) ∧ formB p = true) ∨ (q = .panicked (stopV 200) ∧ formB p = false))) := by
  have hp0 := hp
  obtain ⟨hlo, hlk, hlr⟩ := sizes_len hsz
  obtain ⟨v1, v2, v3, v4, rfl, hpn, hpk, hpo, hpr, hck, hcn, hcno, hcs, hcl, hpm⟩ := po_iff.1 hp
  obtain ⟨Ak, ck, rfl, hckl, hckm, hpk⟩ := RepS.open_ hpk
  obtain ⟨Ao, co, rfl, hcol, hcom, hpo⟩ := RepS.open_ hpo
  obtain ⟨Ar, cr, rfl, hcrl, hcrm, hpr⟩ := RepS.open_ hpr
  obtain ⟨Ac, cc, rfl, hccl, hccm, hcl⟩ := RepS.open_ hcl
  refine calls_st (n := 90) Tryd.func60 rfl rfl rfl ?_
  intro G bF cs hb hfn hR hP
  simp only [ini]
  refine st_seq ?_
  refine st_region ?_
  refine sr_op rfl rfl (ow_box H (v := .agg #[.string p.name, .slice Ak p.kinds.length ck, .slice Ao p.offices.length co, .slice Ar p.rules.length cr, .int .i64 p.change.kind, .int .i64 p.change.n, .int .i64 p.change.no, .string p.change.name, .slice Ac p.change.l.length cc, .int .i64 p.mode]) rfl [.string p.name, .slice Ak p.kinds.length ck, .slice Ao p.offices.length co, .slice Ar p.rules.length cr, .int .i64 p.change.kind, .int .i64 p.change.n, .int .i64 p.change.no, .string p.change.name, .slice Ac p.change.l.length cc, .int .i64 p.mode] rfl (fun g1 _ H => ?_))
  refine sr_nil ?_
  refine st_seq ?_
  refine st_region ?_
  refine sr_op rfl rfl (ow_fieldAddr fd28_1 ty22 rfl rfl (r := 1) rfl ?_)
  refine sr_op rfl rfl (ow_load (v := .slice Ak p.kinds.length ck) ty22 H rfl 0 rfl rfl rfl rfl ?_)
  refine sr_op rfl rfl (ow_lenS sl22 rfl rfl ?_)
  refine sr_op rfl rfl (ow_gtr rfl rfl ?_)
  refine sr_op rfl rfl (ow_move (v := .bool (decide (0 < (p.kinds.length : Int)))) rfl ?_)
  refine sr_cut 8 (fun m_ w_ => ∃ (r_ : Sl) (v_ : Bool), m_ = (20, .bool v_) :: (1, .pointer (some ⟨g1, 0, none⟩)) :: r_ ∧ Hp B I w_ ((g1, Ob [.string p.name, .slice Ak p.kinds.length ck, .slice Ao p.offices.length co, .slice Ar p.rules.length cr, .int .i64 p.change.kind, .int .i64 p.change.n, .int .i64 p.change.no, .string p.change.name, .slice Ac p.change.l.length cc, .int .i64 p.mode] 28) :: L) ∧ v_ = ((decide (0 < (p.kinds.length : Int))) && (decide ((p.rules.length : Int) = (p.kinds.length : Int))))) (fun again => ?_) ?_
  · rcases hg : decide (0 < (p.kinds.length : Int)) with _ | _
    · refine sr_pass rfl (j := 4) (d := 12) rfl rfl rfl (u := false) (v := true) rfl rfl ?_
      refine sr_pass rfl (j := 4) (d := 12) rfl rfl rfl (u := false) (v := true) rfl rfl ?_
      refine sr_pass rfl (j := 4) (d := 12) rfl rfl rfl (u := false) (v := true) rfl rfl ?_
      refine sr_pass rfl (j := 4) (d := 12) rfl rfl rfl (u := false) (v := true) rfl rfl ?_
      refine sr_pass rfl (j := 4) (d := 12) rfl rfl rfl (u := false) (v := true) rfl rfl ?_
      refine sr_pass rfl (j := 4) (d := 12) rfl rfl rfl (u := false) (v := true) rfl rfl ?_
      refine sr_pass rfl (j := 4) (d := 12) rfl rfl rfl (u := false) (v := true) rfl rfl ?_
      refine sr_op rfl rfl (ow_pick (v := .bool false) rfl rfl ?_)
      exact sr_live [20, 1] (again _ _ ⟨_, _, rfl, H, by rw [hg] <;> rfl⟩)
    · refine sr_want rfl (j := 4) (d := 12) rfl rfl rfl (v := true) rfl rfl (ow_fieldAddr fd28_3 ty23 rfl rfl (r := 3) rfl ?_)
      refine sr_want rfl (j := 4) (d := 12) rfl rfl rfl (v := true) rfl rfl (ow_load (v := .slice Ar p.rules.length cr) ty23 H rfl 0 rfl rfl rfl rfl ?_)
      refine sr_want rfl (j := 4) (d := 12) rfl rfl rfl (v := true) rfl rfl (ow_lenS sl23 rfl rfl ?_)
      refine sr_want rfl (j := 4) (d := 12) rfl rfl rfl (v := true) rfl rfl (ow_fieldAddr fd28_1 ty22 rfl rfl (r := 1) rfl ?_)
      refine sr_want rfl (j := 4) (d := 12) rfl rfl rfl (v := true) rfl rfl (ow_load (v := .slice Ak p.kinds.length ck) ty22 H rfl 0 rfl rfl rfl rfl ?_)
      refine sr_want rfl (j := 4) (d := 12) rfl rfl rfl (v := true) rfl rfl (ow_lenS sl22 rfl rfl ?_)
      refine sr_want rfl (j := 4) (d := 12) rfl rfl rfl (v := true) rfl rfl (ow_eql rfl rfl ?_)
      refine sr_op rfl rfl (ow_pick (v := .bool (decide ((p.rules.length : Int) = (p.kinds.length : Int)))) rfl rfl ?_)
      exact sr_live [20, 1] (again _ _ ⟨_, _, rfl, H, by rw [hg] <;> rfl⟩)
  rintro _ _ ⟨r, _, rfl, H, rfl⟩
  refine sr_op rfl rfl (ow_move (v := .bool ((decide (0 < (p.kinds.length : Int))) && (decide ((p.rules.length : Int) = (p.kinds.length : Int))))) rfl ?_)
  refine sr_cut 4 (fun m_ w_ => ∃ (r_ : Sl) (v_ : Bool), m_ = (25, .bool v_) :: (1, .pointer (some ⟨g1, 0, none⟩)) :: r_ ∧ Hp B I w_ ((g1, Ob [.string p.name, .slice Ak p.kinds.length ck, .slice Ao p.offices.length co, .slice Ar p.rules.length cr, .int .i64 p.change.kind, .int .i64 p.change.n, .int .i64 p.change.no, .string p.change.name, .slice Ac p.change.l.length cc, .int .i64 p.mode] 28) :: L) ∧ v_ = (((decide (0 < (p.kinds.length : Int))) && (decide ((p.rules.length : Int) = (p.kinds.length : Int)))) && (withinB p.mode 1 4))) (fun again => ?_) ?_
  · rcases hg : (decide (0 < (p.kinds.length : Int))) && (decide ((p.rules.length : Int) = (p.kinds.length : Int))) with _ | _
    · refine sr_pass rfl (j := 13) (d := 21) rfl rfl rfl (u := false) (v := true) rfl rfl ?_
      refine sr_pass rfl (j := 13) (d := 21) rfl rfl rfl (u := false) (v := true) rfl rfl ?_
      refine sr_pass rfl (j := 13) (d := 21) rfl rfl rfl (u := false) (v := true) rfl rfl ?_
      refine sr_op rfl rfl (ow_pick (v := .bool false) rfl rfl ?_)
      exact sr_live [25, 1] (again _ _ ⟨_, _, rfl, H, by rw [hg] <;> rfl⟩)
    · refine sr_want rfl (j := 13) (d := 21) rfl rfl rfl (v := true) rfl rfl (ow_fieldAddr fd28_5 ty3 rfl rfl (r := 9) rfl ?_)
      refine sr_want rfl (j := 13) (d := 21) rfl rfl rfl (v := true) rfl rfl (ow_load (v := .int .i64 p.mode) ty3 H rfl 0 rfl rfl rfl rfl ?_)
      refine sr_want rfl (j := 13) (d := 21) rfl rfl rfl (v := true) rfl rfl (ow_call en69 rfl (within_c H p.mode 1 4) ?_)
      rintro _ _ ⟨rfl, H⟩
      refine sr_op rfl rfl (ow_pick (v := .bool (withinB p.mode 1 4)) rfl rfl ?_)
      exact sr_live [25, 1] (again _ _ ⟨_, _, rfl, H, by rw [hg] <;> rfl⟩)
  rintro _ _ ⟨r, _, rfl, H, rfl⟩
  refine sr_op rfl rfl (ow_callp en93 rfl (must_c H _ _) ?_ ?_)
  rotate_left
  · rintro ch9 w9 ⟨hm2, rfl, H⟩
    exact (hP _ _ ⟨I, Le.refl I, H.drop 1, .inr ⟨rfl, by rw [formB, hm2, Bool.false_and, Bool.false_and]⟩⟩).one
  rintro _ w9 ⟨rfl, hm2, H⟩
  refine sr_nil ?_
  refine st_seq ?_
  refine st_seq ?_
  refine st_region ?_
  refine sr_op rfl rfl (ow_fieldAddr fd28_3 ty23 rfl rfl (r := 3) rfl ?_)
  refine sr_op rfl rfl (ow_load (v := .slice Ar p.rules.length cr) ty23 H rfl 0 rfl rfl rfl rfl ?_)
  refine sr_op rfl rfl (ow_lenS sl23 rfl rfl ?_)
  refine sr_op rfl rfl (ow_move (v := .int .i64 0) rfl ?_)
  refine sr_nil ?_
  refine st_block ?_
  refine st_loop ?_
  have hm0 := hm2
  simp only [Bool.and_eq_true, decide_eq_true_eq] at hm0
  refine st_live [1, 28, 29, 30] ?_
  refine st_ind (fun d_ m_ w_ => ∃ (i : Nat) (r_ : Sl), d_ = p.rules.length - i ∧ m_ = (1, .pointer (some ⟨g1, 0, none⟩)) :: (28, .slice Ar p.rules.length cr) :: (29, .int .i64 (p.rules.length : Int)) :: (30, .int .i64 (i : Int)) :: r_ ∧ Hp B I w_ ((g1, Ob [.string p.name, .slice Ak p.kinds.length ck, .slice Ao p.offices.length co, .slice Ar p.rules.length cr, .int .i64 p.change.kind, .int .i64 p.change.n, .int .i64 p.change.no, .string p.change.name, .slice Ac p.change.l.length cc, .int .i64 p.mode] 28) :: L) ∧ i ≤ p.rules.length ∧ rulesF p.kinds p.rules 0 = rulesF p.kinds (p.rules.drop i) i) _ ⟨0, _, rfl, rfl, H, Nat.zero_le _, rfl⟩ ?_
  rintro _ _ _ ⟨i, r3, rfl, rfl, H, hi, hru⟩ ih4
  refine st_seq ?_
  refine st_region ?_
  refine sr_op rfl rfl (ow_lss rfl rfl ?_)
  refine sr_nil ?_
  refine st_seq ?_
  refine st_cond (decide ((i : Int) < (p.rules.length : Int))) rfl (fun hc5 => ?_) (fun hc5 => ?_)
  · have hc5 := of_decide_eq_true hc5
    refine st_skip ?_
    refine st_seq ?_
    refine st_block ?_
    refine st_seq ?_
    refine st_region ?_
    refine sr_op rfl rfl (ow_move (v := .int .i64 (i : Int)) rfl ?_)
    obtain ⟨r6, he6⟩ : ∃ q_, p.rules[i]? = some q_ := ⟨_, List.getElem?_eq_getElem (by omega)⟩
    obtain ⟨b6, o6, us6, hA6, hat6, hul6, hr6⟩ := RepS.get hpr he6
    obtain ⟨v6, rfl, r6K, r6Kn, r6Th, r6k, r6n, r6o, r6s, r6l⟩ := ru_iff.1 hr6
    obtain ⟨A6, c6, rfl, r6c, r6m, r6l⟩ := RepS.open_ r6l
    refine sr_op rfl rfl (ow_indexAddrA sl23 ty43 hA6 rfl rfl (by omega) (by omega) (r := o6 + i * 8) rfl ?_)
    refine sr_op rfl rfl (ow_loadI (v := .agg #[.string r6.kind, .int .i64 r6.kindNo, .int .i64 r6.think, .int .i64 r6.expr.kind, .int .i64 r6.expr.n, .int .i64 r6.expr.no, .string r6.expr.name, .slice A6 r6.expr.l.length c6]) ty43 H rfl hat6 rfl rfl rfl ?_)
    refine sr_op rfl rfl (ow_alloc ty43 H [.string ⟨#[]⟩, .int .i64 0, .int .i64 0, .int .i64 0, .int .i64 0, .int .i64 0, .string ⟨#[]⟩, .slice none 0 0] rfl (fun g7 _ H => ?_))
    refine sr_op rfl rfl (ow_assign (v := .int .i64 (i : Int)) rfl ?_)
    refine sr_op rfl rfl (ow_store ty43 H rfl (v := .agg #[.string r6.kind, .int .i64 r6.kindNo, .int .i64 r6.think, .int .i64 r6.expr.kind, .int .i64 r6.expr.n, .int .i64 r6.expr.no, .string r6.expr.name, .slice A6 r6.expr.l.length c6]) rfl [.string r6.kind, .int .i64 r6.kindNo, .int .i64 r6.think, .int .i64 r6.expr.kind, .int .i64 r6.expr.n, .int .i64 r6.expr.no, .string r6.expr.name, .slice A6 r6.expr.l.length c6] rfl rfl rfl 0 rfl rfl (fun _ H => ?_))
    refine sr_nil ?_
    refine st_cut (fun m_ w_ => ∃ (r_ : Sl), m_ = (1, .pointer (some ⟨g1, 0, none⟩)) :: (28, .slice Ar p.rules.length cr) :: (29, .int .i64 (p.rules.length : Int)) :: (30, .int .i64 (i : Int)) :: r_ ∧ Hp B I w_ ((g7, Ob [.string r6.kind, .int .i64 r6.kindNo, .int .i64 r6.think, .int .i64 r6.expr.kind, .int .i64 r6.expr.n, .int .i64 r6.expr.no, .string r6.expr.name, .slice A6 r6.expr.l.length c6] 43) :: (g1, Ob [.string p.name, .slice Ak p.kinds.length ck, .slice Ao p.offices.length co, .slice Ar p.rules.length cr, .int .i64 p.change.kind, .int .i64 p.change.n, .int .i64 p.change.no, .string p.change.name, .slice Ac p.change.l.length cc, .int .i64 p.mode] 28) :: L) ∧ rulesF p.kinds (p.rules.drop i) i = rulesF p.kinds (p.rules.drop (i + 1)) (i + 1)) (fun again => ?_) ?_
    · obtain ⟨k8, he8⟩ : ∃ q_, p.kinds[i]? = some q_ := ⟨_, List.getElem?_eq_getElem (by omega)⟩
      obtain ⟨b8, o8, us8, hA8, hat8, hul8, hr8⟩ := RepS.get hpk he8
      obtain ⟨rfl, k863⟩ := s_iff.1 hr8
      rcases Bool.eq_false_or_eq_true (decide (r6.kind = k8)) with hg9 | hg9
      · refine st_draw (F := (fun w_ => ∃ I2, Le I I2 ∧ Hp B I2 w_ [(g7, Ob [.string r6.kind, .int .i64 r6.kindNo, .int .i64 r6.think, .int .i64 r6.expr.kind, .int .i64 r6.expr.n, .int .i64 r6.expr.no, .string r6.expr.name, .slice A6 r6.expr.l.length c6] 43), (g1, Ob [.string p.name, .slice Ak p.kinds.length ck, .slice Ao p.offices.length co, .slice Ar p.rules.length cr, .int .i64 p.change.kind, .int .i64 p.change.n, .int .i64 p.change.no, .string p.change.name, .slice Ac p.change.l.length cc, .int .i64 p.mode] 28)])) (p0 := [0, 1, 2, 3, 4, 5, 6, 7, 8, 9, 10]) (plan := [(11, [12], []), (13, [], [])]) [] [] [(45, .int .i64 r6.think), (44, .pointer (some ⟨g7, 2, none⟩)), (43, .bool (decide (r6.kind = k8))), (42, .bool (decide (r6.kind = k8))), (41, .string k8), (40, .pointer (some ⟨b8, o8 + i * 1, none⟩)), (39, .int .i64 (i : Int)), (38, .slice Ak p.kinds.length ck), (37, .pointer (some ⟨g1, 1, none⟩)), (36, .string r6.kind), (35, .pointer (some ⟨g7, 0, none⟩))] (by kernel_rfl) rfl ?_ ⟨_, Le.refl _, H.drew.pick [0, 1] (by decide)⟩ ?_
        · refine ⟨kn_op rfl rfl (wantB_none rfl) fun _ hF2 => ?_, ?_⟩
          · obtain ⟨_, hle2, H2⟩ := hF2
            refine  (ow_fieldAddr fd43_0 ty9 rfl rfl (r := 0) rfl ?_)
            exact ⟨rfl, rfl⟩
          refine ⟨kn_op rfl rfl (wantB_none rfl) fun _ hF2 => ?_, ?_⟩
          · obtain ⟨_, hle2, H2⟩ := hF2
            refine  (ow_load (v := .string r6.kind) ty9 H2 rfl 0 rfl rfl rfl rfl ?_)
            exact ⟨rfl, rfl⟩
          refine ⟨kn_op rfl rfl (wantB_none rfl) fun _ hF2 => ?_, ?_⟩
          · obtain ⟨_, hle2, H2⟩ := hF2
            refine  (ow_fieldAddr fd28_1 ty22 rfl rfl (r := 1) rfl ?_)
            exact ⟨rfl, rfl⟩
          refine ⟨kn_op rfl rfl (wantB_none rfl) fun _ hF2 => ?_, ?_⟩
          · obtain ⟨_, hle2, H2⟩ := hF2
            refine  (ow_load (v := .slice Ak p.kinds.length ck) ty22 H2 rfl 1 rfl rfl rfl rfl ?_)
            exact ⟨rfl, rfl⟩
          refine ⟨kn_op rfl rfl (wantB_none rfl) fun _ hF2 => ?_, ?_⟩
          · obtain ⟨_, hle2, H2⟩ := hF2
            refine  (ow_move (v := .int .i64 (i : Int)) rfl ?_)
            exact ⟨rfl, rfl⟩
          refine ⟨kn_op rfl rfl (wantB_none rfl) fun _ hF2 => ?_, ?_⟩
          · obtain ⟨_, hle2, H2⟩ := hF2
            refine  (ow_indexAddrA sl22 ty9 hA8 rfl rfl (by omega) (by omega) (r := o8 + i * 1) rfl ?_)
            exact ⟨rfl, rfl⟩
          refine ⟨kn_op rfl rfl (wantB_none rfl) fun _ hF2 => ?_, ?_⟩
          · obtain ⟨_, hle2, H2⟩ := hF2
            refine  (ow_loadI (v := .string k8) ty9 H2 rfl (At.mono hle2 hat8) rfl rfl rfl ?_)
            exact ⟨rfl, rfl⟩
          refine ⟨kn_op rfl rfl (wantB_none rfl) fun _ hF2 => ?_, ?_⟩
          · obtain ⟨_, hle2, H2⟩ := hF2
            refine  (ow_seq rfl rfl ?_)
            exact ⟨rfl, rfl⟩
          refine ⟨kn_op rfl rfl (wantB_none rfl) fun _ hF2 => ?_, ?_⟩
          · obtain ⟨_, hle2, H2⟩ := hF2
            refine  (ow_move (v := .bool (decide (r6.kind = k8))) rfl ?_)
            exact ⟨rfl, rfl⟩
          refine ⟨kn_op rfl rfl ((wantB_some (j := 8) rfl rfl (d := 43) rfl rfl (u := true) (by exact congrArg Value.bool hg9)).trans rfl) fun _ hF2 => ?_, ?_⟩
          · obtain ⟨_, hle2, H2⟩ := hF2
            refine  (ow_fieldAddr fd43_2 ty3 rfl rfl (r := 2) rfl ?_)
            exact ⟨rfl, rfl⟩
          refine ⟨kn_op rfl rfl ((wantB_some (j := 8) rfl rfl (d := 43) rfl rfl (u := true) (by exact congrArg Value.bool hg9)).trans rfl) fun _ hF2 => ?_, ?_⟩
          · obtain ⟨_, hle2, H2⟩ := hF2
            refine  (ow_load (v := .int .i64 r6.think) ty3 H2 rfl 0 rfl rfl rfl rfl ?_)
            exact ⟨rfl, rfl⟩
          exact trivial
        have H := H.drew
        refine cw_op rfl ((wantB_some (j := 8) rfl rfl (d := 43) rfl rfl (u := true) (by exact congrArg Value.bool hg9)).trans rfl) (ow_call en69 rfl (within_c H r6.think 0 1099511627775) ?_)
        rintro _ _ ⟨rfl, H⟩
        refine af_some [(47, .bool (withinB r6.think 0 1099511627775))] (fun w_ => ∃ I2, Le I I2 ∧ Hp B I2 w_ [(g7, Ob [.string r6.kind, .int .i64 r6.kindNo, .int .i64 r6.think, .int .i64 r6.expr.kind, .int .i64 r6.expr.n, .int .i64 r6.expr.no, .string r6.expr.name, .slice A6 r6.expr.l.length c6] 43), (g1, Ob [.string p.name, .slice Ak p.kinds.length ck, .slice Ao p.offices.length co, .slice Ar p.rules.length cr, .int .i64 p.change.kind, .int .i64 p.change.n, .int .i64 p.change.no, .string p.change.name, .slice Ac p.change.l.length cc, .int .i64 p.mode] 28)]) rfl ⟨_, Le.refl _, H.pick [0, 1] (by decide)⟩ ?_ ?_
        · refine ⟨kn_op rfl rfl (wantB_none rfl) fun _ hF2 => ?_, ?_⟩
          · obtain ⟨_, hle2, H2⟩ := hF2
            refine  (ow_pick (a := true) (v := .bool (withinB r6.think 0 1099511627775)) (congrArg Value.bool hg9) rfl ?_)
            exact ⟨rfl, rfl⟩
          exact trivial
        refine cw_op rfl (wantB_none rfl) (ow_callp en93 rfl (must_c H _ _) ?_ ?_)
        rotate_left
        · rintro ch9 w9 ⟨hm10, rfl, H⟩
          have hbad : ruleOk k8 r6 = false := by rw [ruleOk, hg9, hm10]; rfl
          exact (hP _ _ ⟨I, Le.refl I, H.drop 2, .inr ⟨rfl, by rw [formB, hru, rulesF_step he6 he8, hbad, Bool.false_and, Bool.and_false, Bool.false_and]⟩⟩)
        rintro _ w9 ⟨rfl, hm10, H⟩
        refine af_none ?_
        refine cw_nil ?_
        exact st_live [1, 28, 29, 30] (again _ _ ⟨_, rfl, H, by rw [rulesF_step he6 he8, (show ruleOk k8 r6 = true by rw [ruleOk, hg9, hm10]; rfl), Bool.true_and]⟩)
      · refine st_draw (F := (fun w_ => ∃ I2, Le I I2 ∧ Hp B I2 w_ [(g7, Ob [.string r6.kind, .int .i64 r6.kindNo, .int .i64 r6.think, .int .i64 r6.expr.kind, .int .i64 r6.expr.n, .int .i64 r6.expr.no, .string r6.expr.name, .slice A6 r6.expr.l.length c6] 43), (g1, Ob [.string p.name, .slice Ak p.kinds.length ck, .slice Ao p.offices.length co, .slice Ar p.rules.length cr, .int .i64 p.change.kind, .int .i64 p.change.n, .int .i64 p.change.no, .string p.change.name, .slice Ac p.change.l.length cc, .int .i64 p.mode] 28)])) (p0 := [0, 1, 2, 3, 4, 5, 6, 7, 8, 9, 10]) (plan := [(11, [12], []), (13, [], [])]) [] [] [(45, undef), (44, undef), (43, .bool (decide (r6.kind = k8))), (42, .bool (decide (r6.kind = k8))), (41, .string k8), (40, .pointer (some ⟨b8, o8 + i * 1, none⟩)), (39, .int .i64 (i : Int)), (38, .slice Ak p.kinds.length ck), (37, .pointer (some ⟨g1, 1, none⟩)), (36, .string r6.kind), (35, .pointer (some ⟨g7, 0, none⟩))] (by kernel_rfl) rfl ?_ ⟨_, Le.refl _, H.drew.pick [0, 1] (by decide)⟩ ?_
        · refine ⟨kn_op rfl rfl (wantB_none rfl) fun _ hF2 => ?_, ?_⟩
          · obtain ⟨_, hle2, H2⟩ := hF2
            refine  (ow_fieldAddr fd43_0 ty9 rfl rfl (r := 0) rfl ?_)
            exact ⟨rfl, rfl⟩
          refine ⟨kn_op rfl rfl (wantB_none rfl) fun _ hF2 => ?_, ?_⟩
          · obtain ⟨_, hle2, H2⟩ := hF2
            refine  (ow_load (v := .string r6.kind) ty9 H2 rfl 0 rfl rfl rfl rfl ?_)
            exact ⟨rfl, rfl⟩
          refine ⟨kn_op rfl rfl (wantB_none rfl) fun _ hF2 => ?_, ?_⟩
          · obtain ⟨_, hle2, H2⟩ := hF2
            refine  (ow_fieldAddr fd28_1 ty22 rfl rfl (r := 1) rfl ?_)
            exact ⟨rfl, rfl⟩
          refine ⟨kn_op rfl rfl (wantB_none rfl) fun _ hF2 => ?_, ?_⟩
          · obtain ⟨_, hle2, H2⟩ := hF2
            refine  (ow_load (v := .slice Ak p.kinds.length ck) ty22 H2 rfl 1 rfl rfl rfl rfl ?_)
            exact ⟨rfl, rfl⟩
          refine ⟨kn_op rfl rfl (wantB_none rfl) fun _ hF2 => ?_, ?_⟩
          · obtain ⟨_, hle2, H2⟩ := hF2
            refine  (ow_move (v := .int .i64 (i : Int)) rfl ?_)
            exact ⟨rfl, rfl⟩
          refine ⟨kn_op rfl rfl (wantB_none rfl) fun _ hF2 => ?_, ?_⟩
          · obtain ⟨_, hle2, H2⟩ := hF2
            refine  (ow_indexAddrA sl22 ty9 hA8 rfl rfl (by omega) (by omega) (r := o8 + i * 1) rfl ?_)
            exact ⟨rfl, rfl⟩
          refine ⟨kn_op rfl rfl (wantB_none rfl) fun _ hF2 => ?_, ?_⟩
          · obtain ⟨_, hle2, H2⟩ := hF2
            refine  (ow_loadI (v := .string k8) ty9 H2 rfl (At.mono hle2 hat8) rfl rfl rfl ?_)
            exact ⟨rfl, rfl⟩
          refine ⟨kn_op rfl rfl (wantB_none rfl) fun _ hF2 => ?_, ?_⟩
          · obtain ⟨_, hle2, H2⟩ := hF2
            refine  (ow_seq rfl rfl ?_)
            exact ⟨rfl, rfl⟩
          refine ⟨kn_op rfl rfl (wantB_none rfl) fun _ hF2 => ?_, ?_⟩
          · obtain ⟨_, hle2, H2⟩ := hF2
            refine  (ow_move (v := .bool (decide (r6.kind = k8))) rfl ?_)
            exact ⟨rfl, rfl⟩
          refine ⟨kn_pass rfl rfl ((wantB_some (j := 8) rfl rfl (d := 43) rfl rfl (u := false) (by exact congrArg Value.bool hg9)).trans rfl) rfl, ?_⟩
          refine ⟨kn_pass rfl rfl ((wantB_some (j := 8) rfl rfl (d := 43) rfl rfl (u := false) (by exact congrArg Value.bool hg9)).trans rfl) rfl, ?_⟩
          exact trivial
        have H := H.drew
        refine cw_pass rfl ((wantB_some (j := 8) rfl rfl (d := 43) rfl rfl (u := false) (by exact congrArg Value.bool hg9)).trans rfl) ?_
        refine af_some [(47, .bool false)] (fun w_ => ∃ I2, Le I I2 ∧ Hp B I2 w_ [(g7, Ob [.string r6.kind, .int .i64 r6.kindNo, .int .i64 r6.think, .int .i64 r6.expr.kind, .int .i64 r6.expr.n, .int .i64 r6.expr.no, .string r6.expr.name, .slice A6 r6.expr.l.length c6] 43), (g1, Ob [.string p.name, .slice Ak p.kinds.length ck, .slice Ao p.offices.length co, .slice Ar p.rules.length cr, .int .i64 p.change.kind, .int .i64 p.change.n, .int .i64 p.change.no, .string p.change.name, .slice Ac p.change.l.length cc, .int .i64 p.mode] 28)]) rfl ⟨_, Le.refl _, H.pick [0, 1] (by decide)⟩ ?_ ?_
        · refine ⟨kn_op rfl rfl (wantB_none rfl) fun _ hF2 => ?_, ?_⟩
          · obtain ⟨_, hle2, H2⟩ := hF2
            refine  (ow_pick (a := false) (v := .bool false) (congrArg Value.bool hg9) rfl ?_)
            exact ⟨rfl, rfl⟩
          exact trivial
        refine cw_op rfl (wantB_none rfl) (ow_callp en93 rfl (must_c H _ _) ?_ ?_)
        rotate_left
        · rintro ch9 w9 ⟨hm11, rfl, H⟩
          have hbad : ruleOk k8 r6 = false := by rw [ruleOk, hg9]; rfl
          exact (hP _ _ ⟨I, Le.refl I, H.drop 2, .inr ⟨rfl, by rw [formB, hru, rulesF_step he6 he8, hbad, Bool.false_and, Bool.and_false, Bool.false_and]⟩⟩)
        rintro _ w9 ⟨rfl, hm11, H⟩
        cases hm11
    rintro _ _ ⟨r12, rfl, H, hcf⟩
    refine st_inBlock ?_
    refine st_region ?_
    refine sr_op rfl rfl (ow_add (r := ((i + 1 : Nat) : Int)) rfl rfl (inc_i64 (by omega)) ?_)
    refine sr_op rfl rfl (ow_move (v := .int .i64 ((i + 1 : Nat) : Int)) rfl ?_)
    refine sr_nil ?_
    exact st_inLoop (st_live [1, 28, 29, 30] (ih4 _ _ _ (by omega) ⟨i + 1, _, rfl, rfl, H.drop 1, by omega, by rw [hru, hcf]⟩))
  · have hc5 := of_decide_eq_false hc5
    refine st_exit rfl ?_
    refine st_seq ?_
    refine st_region ?_
    refine sr_op rfl rfl (ow_load (v := .agg #[.string p.name, .slice Ak p.kinds.length ck, .slice Ao p.offices.length co, .slice Ar p.rules.length cr, .int .i64 p.change.kind, .int .i64 p.change.n, .int .i64 p.change.no, .string p.change.name, .slice Ac p.change.l.length cc, .int .i64 p.mode]) ty28 H rfl 0 rfl rfl rfl rfl ?_)
    have hru0 : rulesF p.kinds p.rules 0 = true := by rw [hru, List.drop_of_length_le (by omega)]; rfl
    have hb6 : p.rules.length ≤ 1000000 := by omega
    have hel : (exprs p).length ≤ 1000000 := by simp [exprs]; omega
    have hel1 : 1 ≤ (exprs p).length := by simp [exprs]
    have hp := hp0
    refine sr_op rfl rfl (ow_call en94 rfl (expressions_c H hp hb6) ?_)
    rintro _ _ ⟨I2, hI2, H, hall⟩
    have hg := hg.mono hI2
    obtain ⟨Ae, ce, rfl, hcel, hcem, hall⟩ := RepS.open_ hall
    refine sr_op rfl rfl (ow_alloc ty24 H [.slice none 0 0] rfl (fun g13 _ H => ?_))
    refine sr_op rfl rfl (ow_store ty24 H rfl (v := .slice Ae ((exprs p).length) ce) rfl [.slice Ae ((exprs p).length) ce] rfl rfl rfl 0 rfl rfl (fun _ H => ?_))
    refine sr_nil ?_
    refine st_seq ?_
    refine st_region ?_
    refine sr_op rfl rfl (ow_load (v := .slice Ae ((exprs p).length) ce) ty24 H rfl 0 rfl rfl rfl rfl ?_)
    refine sr_op rfl rfl (ow_lenS sl24 rfl rfl ?_)
    refine sr_op rfl rfl (ow_move (v := .int .i64 0) rfl ?_)
    refine sr_nil ?_
    refine st_block ?_
    refine st_loop ?_
    refine st_live [1, 4, 52, 53, 54] ?_
    refine st_indD (fun d_ m_ ds_ w_ => ∃ (i : Nat) (rs : List Nat) (I2 : Im) (r_ : Sl), d_ = (exprs p).length - i ∧ m_ = (1, .pointer (some ⟨g1, 0, none⟩)) :: (4, .pointer (some ⟨g13, 0, none⟩)) :: (52, .slice Ae ((exprs p).length) ce) :: (53, .int .i64 ((exprs p).length : Int)) :: (54, .int .i64 (i : Int)) :: r_ ∧ ds_ = mks rs ++ [] ∧ Hp B I2 w_ ((g13, Ob [.slice Ae ((exprs p).length) ce] 24) :: (g1, Ob [.string p.name, .slice Ak p.kinds.length ck, .slice Ao p.offices.length co, .slice Ar p.rules.length cr, .int .i64 p.change.kind, .int .i64 p.change.n, .int .i64 p.change.no, .string p.change.name, .slice Ac p.change.l.length cc, .int .i64 p.mode] 28) :: (dfs rs ++ L)) ∧ i ≤ (exprs p).length ∧ Le I I2 ∧ RepS encEx I2 5 (exprs p) (.slice Ae (exprs p).length ce) ∧ At I2 0 0 kindsV ∧ formF (((exprs p).length : Int) - 1) (exprs p) 0 = formF (((exprs p).length : Int) - 1) ((exprs p).drop i) i) _ ⟨0, [], I2, _, rfl, rfl, rfl, H, Nat.zero_le _, hI2, hall, hg, rfl⟩ ?_
    rintro _ _ _ _ ⟨i, rs, I2, r14, rfl, rfl, rfl, H, hi, hI2, hall, hg, ha⟩ ih15
    refine st_seq ?_
    refine st_region ?_
    refine sr_op rfl rfl (ow_lss rfl rfl ?_)
    refine sr_nil ?_
    refine st_seq ?_
    refine st_cond (decide ((i : Int) < ((exprs p).length : Int))) rfl (fun hc16 => ?_) (fun hc16 => ?_)
    · have hc16 := of_decide_eq_true hc16
      refine st_skip ?_
      refine st_seq ?_
      refine st_block ?_
      refine st_seq ?_
      refine st_region ?_
      refine sr_op rfl rfl (ow_move (v := .int .i64 (i : Int)) rfl ?_)
      obtain ⟨y17, he17⟩ : ∃ q_, (exprs p)[i]? = some q_ := ⟨_, List.getElem?_eq_getElem (by omega)⟩
      obtain ⟨b17, o17, us17, hA17, hat17, hul17, hr17⟩ := RepS.get hall he17
      obtain ⟨v17, rfl, y17k, y17n, y17o, y17s, y17l⟩ := ex_iff.1 hr17
      obtain ⟨A17, c17, rfl, y17c, y17m, y17l⟩ := RepS.open_ y17l
      refine sr_op rfl rfl (ow_indexAddrA sl24 ty26 hA17 rfl rfl (by omega) (by omega) (r := o17 + i * 5) rfl ?_)
      refine sr_op rfl rfl (ow_loadI (v := .agg #[.int .i64 y17.kind, .int .i64 y17.n, .int .i64 y17.no, .string y17.name, .slice A17 y17.l.length c17]) ty26 H rfl hat17 rfl rfl rfl ?_)
      refine sr_op rfl rfl (ow_alloc ty3 H [.int .i64 0] rfl (fun g18 _ H => ?_))
      refine sr_op rfl rfl (ow_alloc ty26 H [.int .i64 0, .int .i64 0, .int .i64 0, .string ⟨#[]⟩, .slice none 0 0] rfl (fun g19 _ H => ?_))
      refine sr_op rfl rfl (ow_store ty3 H rfl (v := .int .i64 (i : Int)) rfl [.int .i64 (i : Int)] rfl rfl rfl 1 rfl rfl (fun _ H => ?_))
      refine sr_op rfl rfl (ow_store ty26 H rfl (v := .agg #[.int .i64 y17.kind, .int .i64 y17.n, .int .i64 y17.no, .string y17.name, .slice A17 y17.l.length c17]) rfl [.int .i64 y17.kind, .int .i64 y17.n, .int .i64 y17.no, .string y17.name, .slice A17 y17.l.length c17] rfl rfl rfl 0 rfl rfl (fun _ H => ?_))
      refine sr_nil ?_
      refine st_seq ?_
      refine st_region ?_
      refine sr_op rfl rfl (ow_load (v := .agg #[.int .i64 y17.kind, .int .i64 y17.n, .int .i64 y17.no, .string y17.name, .slice A17 y17.l.length c17]) ty26 H rfl 0 rfl rfl rfl rfl ?_)
      refine sr_op rfl rfl (ow_call en95 rfl (parts_c H (ex_iff.2 ⟨_, rfl, y17k, y17n, y17o, y17s, y17l⟩) _) ?_)
      rintro _ _ ⟨I3, gx2, gd2, hI3, H, rfl, hax2, had2⟩
      have hall := hall.mono hI3
      have hg := hg.mono hI3
      refine sr_nil ?_
      refine st_block ?_
      have hsx := sizes_at hsz he17
      refine st_range (f := 116) (cap := [.pointer (some ⟨gx2, 0, none⟩), .pointer (some ⟨gd2, 0, none⟩)]) (parts_it _ (x := y17) (d := 1) (Nat.le_refl _) hax2 (ex_iff.2 ⟨_, rfl, y17k, y17n, y17o, y17s, y17l.mono hI3⟩) had2 (by omega)) hb hfn Tryd.func60 rfl en116 [(g19, Ob [.int .i64 y17.kind, .int .i64 y17.n, .int .i64 y17.no, .string y17.name, .slice A17 y17.l.length c17] 26), (g18, Ob [.int .i64 (i : Int)] 3), (g13, Ob [.slice Ae ((exprs p).length) ce] 24), (g1, Ob [.string p.name, .slice Ak p.kinds.length ck, .slice Ao p.offices.length co, .slice Ar p.rules.length cr, .int .i64 p.change.kind, .int .i64 p.change.n, .int .i64 p.change.no, .string p.change.name, .slice Ac p.change.l.length cc, .int .i64 p.mode] 28)] (dfs rs ++ L) H (fun pre_ I_ L_ => L_ = [(g19, Ob [.int .i64 y17.kind, .int .i64 y17.n, .int .i64 y17.no, .string y17.name, .slice A17 y17.l.length c17] 26), (g18, Ob [.int .i64 (i : Int)] 3), (g13, Ob [.slice Ae ((exprs p).length) ce] 24), (g1, Ob [.string p.name, .slice Ak p.kinds.length ck, .slice Ao p.offices.length co, .slice Ar p.rules.length cr, .int .i64 p.change.kind, .int .i64 p.change.n, .int .i64 p.change.no, .string p.change.name, .slice Ac p.change.l.length cc, .int .i64 p.mode] 28)] ∧ pre_.all (partOk (decide ((i : Int) < (((exprs p).length : Int) - 1)))) = true ∧ ∀ q_, q_ ∈ pre_ → q_.2 ≤ 1000000) (fun _ _ _ => False) (fun ch_ I_ L_ => ch_ = stopV 200 ∧ (partsX y17 1).all (partOk (decide ((i : Int) < (((exprs p).length : Int) - 1)))) = false) ⟨rfl, rfl, fun _ h_ => by cases h_⟩ (fun pre_ q_ I_ L_ h_ => h_.2.2 q_ (by simp)) (fun pre_ I_ I_' L_ hle_ h_ => h_) ?_ ?_ ?_ ?_
      · intro pre20 q20 us20 I120 Lx20 Lo20 _ l20 rc20 G1 b1 cs1 hpre hle hJ hr hb1 E H
        obtain ⟨rfl, hJa, hJb⟩ := hJ
        obtain ⟨vq, rfl, hqk, hqn, hqo, hqs, hql, hqd⟩ := pt_iff.1 hr
        obtain ⟨Aq, cq, rfl, _, _, hql⟩ := RepS.open_ hql
        have hle9 := hle
        have hall := hall.mono hle
        have hg := hg.mono hle
        rcases kind_cases q20.1.kind with hk | hk | hk | hk | hk
        · rw [hk]
          refine st_region ?_
          refine sr_op rfl rfl (ow_alloc ty110 H [.int .i64 0, .int .i64 0, .int .i64 0, .string ⟨#[]⟩, .slice none 0 0, .int .i64 0] rfl (fun g21 _ H => ?_))
          refine sr_op rfl rfl (ow_store ty110 H rfl (v := .agg #[.int .i64 1, .int .i64 q20.1.n, .int .i64 q20.1.no, .string q20.1.name, .slice Aq q20.1.l.length cq, .int .i64 (q20.2 : Int)]) rfl [.int .i64 1, .int .i64 q20.1.n, .int .i64 q20.1.no, .string q20.1.name, .slice Aq q20.1.l.length cq, .int .i64 (q20.2 : Int)] rfl rfl rfl 0 rfl rfl (fun _ H => ?_))
          refine sr_nil ?_
          refine st_begin hb1 H 1 rfl rfl (fun _ H => ?_)
          refine st_block ?_
          refine st_seq ?_
          refine st_cut (fun m_ w_ => ∃ (r_ : Sl), m_ = (4, .pointer (some ⟨g13, 0, none⟩)) :: (5, .pointer (some ⟨g18, 0, none⟩)) :: (7, .pointer (some ⟨g21, 0, none⟩)) :: r_ ∧ Hp B I120 w_ ((g21, Ob [.int .i64 1, .int .i64 q20.1.n, .int .i64 q20.1.no, .string q20.1.name, .slice Aq q20.1.l.length cq, .int .i64 (q20.2 : Int)] 110) :: (l20, .loop (rcS rc20 .busy none)) :: (g19, Ob [.int .i64 y17.kind, .int .i64 y17.n, .int .i64 y17.no, .string y17.name, .slice A17 y17.l.length c17] 26) :: (g18, Ob [.int .i64 (i : Int)] 3) :: (g13, Ob [.slice Ae ((exprs p).length) ce] 24) :: (g1, Ob [.string p.name, .slice Ak p.kinds.length ck, .slice Ao p.offices.length co, .slice Ar p.rules.length cr, .int .i64 p.change.kind, .int .i64 p.change.n, .int .i64 p.change.no, .string p.change.name, .slice Ac p.change.l.length cc, .int .i64 p.mode] 28) :: Lx20) ∧ kindOk q20.1 = true) (fun again => ?_) ?_
          · refine st_draw (F := (fun w_ => ∃ I2, Le I120 I2 ∧ Hp B I2 w_ [(g21, Ob [.int .i64 1, .int .i64 q20.1.n, .int .i64 q20.1.no, .string q20.1.name, .slice Aq q20.1.l.length cq, .int .i64 (q20.2 : Int)] 110), (g19, Ob [.int .i64 y17.kind, .int .i64 y17.n, .int .i64 y17.no, .string y17.name, .slice A17 y17.l.length c17] 26), (g18, Ob [.int .i64 (i : Int)] 3), (g13, Ob [.slice Ae ((exprs p).length) ce] 24), (g1, Ob [.string p.name, .slice Ak p.kinds.length ck, .slice Ao p.offices.length co, .slice Ar p.rules.length cr, .int .i64 p.change.kind, .int .i64 p.change.n, .int .i64 p.change.no, .string p.change.name, .slice Ac p.change.l.length cc, .int .i64 p.mode] 28)])) (p0 := [0, 1, 2]) (plan := [(3, [4, 5, 6, 7, 8, 9, 10, 11], []), (12, [13], []), (14, [], [])]) [] [] [(64, .int .i64 1), (63, .pointer (some ⟨g21, 0, none⟩)), (62, .pointer (some ⟨g21, 0, none⟩))] (by kernel_rfl) rfl ?_ ⟨_, Le.refl _, H.drew.pick [0, 2, 3, 4, 5] (by decide)⟩ ?_
            · refine ⟨kn_op rfl rfl (wantB_none rfl) fun _ hF2 => ?_, ?_⟩
              · obtain ⟨_, hle2, H2⟩ := hF2
                refine  (ow_fieldAddr fd110_0 ty26 rfl rfl (r := 0) rfl ?_)
                exact ⟨rfl, rfl⟩
              refine ⟨kn_op rfl rfl (wantB_none rfl) fun _ hF2 => ?_, ?_⟩
              · obtain ⟨_, hle2, H2⟩ := hF2
                refine  (ow_fieldAddr fd26_0 ty3 rfl rfl (r := 0) rfl ?_)
                exact ⟨rfl, rfl⟩
              refine ⟨kn_op rfl rfl (wantB_none rfl) fun _ hF2 => ?_, ?_⟩
              · obtain ⟨_, hle2, H2⟩ := hF2
                refine  (ow_load (v := .int .i64 1) ty3 H2 rfl 0 rfl rfl rfl rfl ?_)
                exact ⟨rfl, rfl⟩
              exact trivial
            have H := H.drew
            refine cw_op rfl (wantB_none rfl) (ow_call en69 rfl (within_c H 1 1 4) ?_)
            rintro _ _ ⟨rfl, H⟩
            refine af_some [(73, .agg #[.int .i64 1, .int .i64 q20.1.n, .int .i64 q20.1.no, .string q20.1.name, .slice Aq q20.1.l.length cq]), (72, .pointer (some ⟨g21, 0, none⟩)), (71, .func (.func 173) #[] #[]), (70, .pointer (some ⟨0, 1, none⟩)), (69, .int .i64 1), (68, .pointer (some ⟨g21, 0, none⟩)), (67, .pointer (some ⟨g21, 0, none⟩)), (66, .bool true)] (fun w_ => ∃ I2, Le I120 I2 ∧ Hp B I2 w_ [(g21, Ob [.int .i64 1, .int .i64 q20.1.n, .int .i64 q20.1.no, .string q20.1.name, .slice Aq q20.1.l.length cq, .int .i64 (q20.2 : Int)] 110), (g19, Ob [.int .i64 y17.kind, .int .i64 y17.n, .int .i64 y17.no, .string y17.name, .slice A17 y17.l.length c17] 26), (g18, Ob [.int .i64 (i : Int)] 3), (g13, Ob [.slice Ae ((exprs p).length) ce] 24), (g1, Ob [.string p.name, .slice Ak p.kinds.length ck, .slice Ao p.offices.length co, .slice Ar p.rules.length cr, .int .i64 p.change.kind, .int .i64 p.change.n, .int .i64 p.change.no, .string p.change.name, .slice Ac p.change.l.length cc, .int .i64 p.mode] 28)]) rfl ⟨_, Le.refl _, H.pick [0, 2, 3, 4, 5] (by decide)⟩ ?_ ?_
            · refine ⟨kn_op rfl rfl (wantB_none rfl) fun _ hF2 => ?_, ?_⟩
              · obtain ⟨_, hle2, H2⟩ := hF2
                refine  (ow_move (v := .bool true) rfl ?_)
                exact ⟨rfl, rfl⟩
              refine ⟨kn_op rfl rfl ((wantB_some (j := 4) rfl rfl (d := 66) rfl rfl (u := true) rfl).trans rfl) fun _ hF2 => ?_, ?_⟩
              · obtain ⟨_, hle2, H2⟩ := hF2
                refine  (ow_fieldAddr fd110_0 ty26 rfl rfl (r := 0) rfl ?_)
                exact ⟨rfl, rfl⟩
              refine ⟨kn_op rfl rfl ((wantB_some (j := 4) rfl rfl (d := 66) rfl rfl (u := true) rfl).trans rfl) fun _ hF2 => ?_, ?_⟩
              · obtain ⟨_, hle2, H2⟩ := hF2
                refine  (ow_fieldAddr fd26_0 ty3 rfl rfl (r := 0) rfl ?_)
                exact ⟨rfl, rfl⟩
              refine ⟨kn_op rfl rfl ((wantB_some (j := 4) rfl rfl (d := 66) rfl rfl (u := true) rfl).trans rfl) fun _ hF2 => ?_, ?_⟩
              · obtain ⟨_, hle2, H2⟩ := hF2
                refine  (ow_load (v := .int .i64 1) ty3 H2 rfl 0 rfl rfl rfl rfl ?_)
                exact ⟨rfl, rfl⟩
              refine ⟨kn_op rfl rfl ((wantB_some (j := 4) rfl rfl (d := 66) rfl rfl (u := true) rfl).trans rfl) fun _ hF2 => ?_, ?_⟩
              · obtain ⟨_, hle2, H2⟩ := hF2
                refine  (ow_indexAddrP un113 ty75 rfl rfl (by omega) (by omega) (r := 1) rfl ?_)
                exact ⟨rfl, rfl⟩
              refine ⟨kn_op rfl rfl ((wantB_some (j := 4) rfl rfl (d := 66) rfl rfl (u := true) rfl).trans rfl) fun _ hF2 => ?_, ?_⟩
              · obtain ⟨_, hle2, H2⟩ := hF2
                refine  (ow_loadI (v := .func (.func 173) #[] #[]) ty75 H2 rfl (At.mono hle2 (At.sub (vs := [.func (.func 173) #[] #[]]) hg 1 rfl)) rfl rfl rfl ?_)
                exact ⟨rfl, rfl⟩
              refine ⟨kn_op rfl rfl ((wantB_some (j := 4) rfl rfl (d := 66) rfl rfl (u := true) rfl).trans rfl) fun _ hF2 => ?_, ?_⟩
              · obtain ⟨_, hle2, H2⟩ := hF2
                refine  (ow_fieldAddr fd110_0 ty26 rfl rfl (r := 0) rfl ?_)
                exact ⟨rfl, rfl⟩
              refine ⟨kn_op rfl rfl ((wantB_some (j := 4) rfl rfl (d := 66) rfl rfl (u := true) rfl).trans rfl) fun _ hF2 => ?_, ?_⟩
              · obtain ⟨_, hle2, H2⟩ := hF2
                refine  (ow_load (v := .agg #[.int .i64 1, .int .i64 q20.1.n, .int .i64 q20.1.no, .string q20.1.name, .slice Aq q20.1.l.length cq]) ty26 H2 rfl 0 rfl rfl rfl rfl ?_)
                exact ⟨rfl, rfl⟩
              exact trivial
            refine cw_op rfl ((wantB_some (j := 4) rfl rfl (d := 66) rfl rfl (u := true) rfl).trans rfl) (ow_callV en173 (first := []) (cap := []) rfl rfl (kind1_c H _ _ _ _ _ _ _) ?_)
            rintro _ _ ⟨rfl, H⟩
            refine af_some [(75, .bool (k1B q20.1.n q20.1.name q20.1.l.length))] (fun w_ => ∃ I2, Le I120 I2 ∧ Hp B I2 w_ [(g21, Ob [.int .i64 1, .int .i64 q20.1.n, .int .i64 q20.1.no, .string q20.1.name, .slice Aq q20.1.l.length cq, .int .i64 (q20.2 : Int)] 110), (g19, Ob [.int .i64 y17.kind, .int .i64 y17.n, .int .i64 y17.no, .string y17.name, .slice A17 y17.l.length c17] 26), (g18, Ob [.int .i64 (i : Int)] 3), (g13, Ob [.slice Ae ((exprs p).length) ce] 24), (g1, Ob [.string p.name, .slice Ak p.kinds.length ck, .slice Ao p.offices.length co, .slice Ar p.rules.length cr, .int .i64 p.change.kind, .int .i64 p.change.n, .int .i64 p.change.no, .string p.change.name, .slice Ac p.change.l.length cc, .int .i64 p.mode] 28)]) rfl ⟨_, Le.refl _, H.pick [0, 2, 3, 4, 5] (by decide)⟩ ?_ ?_
            · refine ⟨kn_op rfl rfl (wantB_none rfl) fun _ hF2 => ?_, ?_⟩
              · obtain ⟨_, hle2, H2⟩ := hF2
                refine  (ow_pick (v := .bool (k1B q20.1.n q20.1.name q20.1.l.length)) rfl rfl ?_)
                exact ⟨rfl, rfl⟩
              exact trivial
            refine cw_op rfl (wantB_none rfl) (ow_callp en93 rfl (must_c H _ _) ?_ ?_)
            rotate_left
            · rintro ch9 w9 ⟨hm22, rfl, H⟩
              exact (E.pan (Lo := [(g19, Ob [.int .i64 y17.kind, .int .i64 y17.n, .int .i64 y17.no, .string y17.name, .slice A17 y17.l.length c17] 26), (g18, Ob [.int .i64 (i : Int)] 3), (g13, Ob [.slice Ae ((exprs p).length) ce] 24), (g1, Ob [.string p.name, .slice Ak p.kinds.length ck, .slice Ao p.offices.length co, .slice Ar p.rules.length cr, .int .i64 p.change.kind, .int .i64 p.change.n, .int .i64 p.change.no, .string p.change.name, .slice Ac p.change.l.length cc, .int .i64 p.mode] 28)]) (Le.refl _) (H.drop 1) ⟨rfl, part_no hpre (by rw [partOk, kindOk1 hk, (show _ = false from hm22), Bool.false_and])⟩)
            rintro _ w9 ⟨rfl, hm22, H⟩
            refine af_none ?_
            refine cw_nil ?_
            exact st_live [4, 5, 7] (again _ _ ⟨_, rfl, H, by rw [kindOk1 hk]; exact hm22⟩)
          rintro _ _ ⟨r23, rfl, H, hcf⟩
          refine st_region ?_
          refine sr_op rfl rfl (ow_load (v := .int .i64 (i : Int)) ty3 H rfl 3 rfl rfl rfl rfl ?_)
          refine sr_op rfl rfl (ow_load (v := .slice Ae ((exprs p).length) ce) ty24 H rfl 4 rfl rfl rfl rfl ?_)
          refine sr_op rfl rfl (ow_lenS sl24 rfl rfl ?_)
          refine sr_op rfl rfl (ow_sub (r := ((exprs p).length : Int) - 1) rfl rfl (wrap_i64 (by omega) (by omega)) ?_)
          refine sr_op rfl rfl (ow_lss rfl rfl ?_)
          refine sr_op rfl rfl (ow_move (v := .bool (decide ((i : Int) < (((exprs p).length : Int) - 1)))) rfl ?_)
          refine sr_cut 5 (fun m_ w_ => ∃ (r_ : Sl) (v_ : Bool), m_ = (87, .bool v_) :: r_ ∧ Hp B I120 w_ ((g21, Ob [.int .i64 1, .int .i64 q20.1.n, .int .i64 q20.1.no, .string q20.1.name, .slice Aq q20.1.l.length cq, .int .i64 (q20.2 : Int)] 110) :: (l20, .loop (rcS rc20 .busy none)) :: (g19, Ob [.int .i64 y17.kind, .int .i64 y17.n, .int .i64 y17.no, .string y17.name, .slice A17 y17.l.length c17] 26) :: (g18, Ob [.int .i64 (i : Int)] 3) :: (g13, Ob [.slice Ae ((exprs p).length) ce] 24) :: (g1, Ob [.string p.name, .slice Ak p.kinds.length ck, .slice Ao p.offices.length co, .slice Ar p.rules.length cr, .int .i64 p.change.kind, .int .i64 p.change.n, .int .i64 p.change.no, .string p.change.name, .slice Ac p.change.l.length cc, .int .i64 p.mode] 28) :: Lx20) ∧ v_ = ((decide ((i : Int) < (((exprs p).length : Int) - 1))) || (!decide ((1 : Int) = 4)))) (fun again => ?_) ?_
          · rcases hg : decide ((i : Int) < (((exprs p).length : Int) - 1)) with _ | _
            · refine sr_want rfl (j := 5) (d := 82) rfl rfl rfl (v := false) rfl rfl (ow_fieldAddr fd110_0 ty26 rfl rfl (r := 0) rfl ?_)
              refine sr_want rfl (j := 5) (d := 82) rfl rfl rfl (v := false) rfl rfl (ow_fieldAddr fd26_0 ty3 rfl rfl (r := 0) rfl ?_)
              refine sr_want rfl (j := 5) (d := 82) rfl rfl rfl (v := false) rfl rfl (ow_load (v := .int .i64 1) ty3 H rfl 0 rfl rfl rfl rfl ?_)
              refine sr_want rfl (j := 5) (d := 82) rfl rfl rfl (v := false) rfl rfl (ow_neq rfl rfl ?_)
              refine sr_op rfl rfl (ow_pick (v := .bool (!decide ((1 : Int) = 4))) rfl rfl ?_)
              exact sr_live [87] (again _ _ ⟨_, _, rfl, H, by rw [hg] <;> rfl⟩)
            · refine sr_pass rfl (j := 5) (d := 82) rfl rfl rfl (u := true) (v := false) rfl rfl ?_
              refine sr_pass rfl (j := 5) (d := 82) rfl rfl rfl (u := true) (v := false) rfl rfl ?_
              refine sr_pass rfl (j := 5) (d := 82) rfl rfl rfl (u := true) (v := false) rfl rfl ?_
              refine sr_pass rfl (j := 5) (d := 82) rfl rfl rfl (u := true) (v := false) rfl rfl ?_
              refine sr_op rfl rfl (ow_pick (v := .bool true) rfl rfl ?_)
              exact sr_live [87] (again _ _ ⟨_, _, rfl, H, by rw [hg] <;> rfl⟩)
          rintro _ _ ⟨r, _, rfl, H, rfl⟩
          refine sr_op rfl rfl (ow_callp en93 rfl (must_c H _ _) ?_ ?_)
          rotate_left
          · rintro ch9 w9 ⟨hm24, rfl, H⟩
            exact (E.pan (Lo := [(g19, Ob [.int .i64 y17.kind, .int .i64 y17.n, .int .i64 y17.no, .string y17.name, .slice A17 y17.l.length c17] 26), (g18, Ob [.int .i64 (i : Int)] 3), (g13, Ob [.slice Ae ((exprs p).length) ce] 24), (g1, Ob [.string p.name, .slice Ak p.kinds.length ck, .slice Ao p.offices.length co, .slice Ar p.rules.length cr, .int .i64 p.change.kind, .int .i64 p.change.n, .int .i64 p.change.no, .string p.change.name, .slice Ac p.change.l.length cc, .int .i64 p.mode] 28)]) (Le.refl _) (H.drop 1) ⟨rfl, part_no hpre (by rw [partOk, hcf, hk, Bool.true_and]; exact hm24)⟩).one
          rintro _ w9 ⟨rfl, hm24, H⟩
          refine sr_nil ?_
          refine st_inBlock ?_
          exact E.on (Lo := [(g19, Ob [.int .i64 y17.kind, .int .i64 y17.n, .int .i64 y17.no, .string y17.name, .slice A17 y17.l.length c17] 26), (g18, Ob [.int .i64 (i : Int)] 3), (g13, Ob [.slice Ae ((exprs p).length) ce] 24), (g1, Ob [.string p.name, .slice Ak p.kinds.length ck, .slice Ao p.offices.length co, .slice Ar p.rules.length cr, .int .i64 p.change.kind, .int .i64 p.change.n, .int .i64 p.change.no, .string p.change.name, .slice Ac p.change.l.length cc, .int .i64 p.mode] 28)]) (Le.refl _) (H.drop 1) ⟨rfl, all_snoc hJa (by rw [partOk, hcf, hk, Bool.true_and]; exact hm24), mem_snoc hJb (depth_in hsx hpre)⟩
        · rw [hk]
          refine st_region ?_
          refine sr_op rfl rfl (ow_alloc ty110 H [.int .i64 0, .int .i64 0, .int .i64 0, .string ⟨#[]⟩, .slice none 0 0, .int .i64 0] rfl (fun g25 _ H => ?_))
          refine sr_op rfl rfl (ow_store ty110 H rfl (v := .agg #[.int .i64 2, .int .i64 q20.1.n, .int .i64 q20.1.no, .string q20.1.name, .slice Aq q20.1.l.length cq, .int .i64 (q20.2 : Int)]) rfl [.int .i64 2, .int .i64 q20.1.n, .int .i64 q20.1.no, .string q20.1.name, .slice Aq q20.1.l.length cq, .int .i64 (q20.2 : Int)] rfl rfl rfl 0 rfl rfl (fun _ H => ?_))
          refine sr_nil ?_
          refine st_begin hb1 H 1 rfl rfl (fun _ H => ?_)
          refine st_block ?_
          refine st_seq ?_
          refine st_cut (fun m_ w_ => ∃ (r_ : Sl), m_ = (4, .pointer (some ⟨g13, 0, none⟩)) :: (5, .pointer (some ⟨g18, 0, none⟩)) :: (7, .pointer (some ⟨g25, 0, none⟩)) :: r_ ∧ Hp B I120 w_ ((g25, Ob [.int .i64 2, .int .i64 q20.1.n, .int .i64 q20.1.no, .string q20.1.name, .slice Aq q20.1.l.length cq, .int .i64 (q20.2 : Int)] 110) :: (l20, .loop (rcS rc20 .busy none)) :: (g19, Ob [.int .i64 y17.kind, .int .i64 y17.n, .int .i64 y17.no, .string y17.name, .slice A17 y17.l.length c17] 26) :: (g18, Ob [.int .i64 (i : Int)] 3) :: (g13, Ob [.slice Ae ((exprs p).length) ce] 24) :: (g1, Ob [.string p.name, .slice Ak p.kinds.length ck, .slice Ao p.offices.length co, .slice Ar p.rules.length cr, .int .i64 p.change.kind, .int .i64 p.change.n, .int .i64 p.change.no, .string p.change.name, .slice Ac p.change.l.length cc, .int .i64 p.mode] 28) :: Lx20) ∧ kindOk q20.1 = true) (fun again => ?_) ?_
          · refine st_draw (F := (fun w_ => ∃ I2, Le I120 I2 ∧ Hp B I2 w_ [(g25, Ob [.int .i64 2, .int .i64 q20.1.n, .int .i64 q20.1.no, .string q20.1.name, .slice Aq q20.1.l.length cq, .int .i64 (q20.2 : Int)] 110), (g19, Ob [.int .i64 y17.kind, .int .i64 y17.n, .int .i64 y17.no, .string y17.name, .slice A17 y17.l.length c17] 26), (g18, Ob [.int .i64 (i : Int)] 3), (g13, Ob [.slice Ae ((exprs p).length) ce] 24), (g1, Ob [.string p.name, .slice Ak p.kinds.length ck, .slice Ao p.offices.length co, .slice Ar p.rules.length cr, .int .i64 p.change.kind, .int .i64 p.change.n, .int .i64 p.change.no, .string p.change.name, .slice Ac p.change.l.length cc, .int .i64 p.mode] 28)])) (p0 := [0, 1, 2]) (plan := [(3, [4, 5, 6, 7, 8, 9, 10, 11], []), (12, [13], []), (14, [], [])]) [] [] [(64, .int .i64 2), (63, .pointer (some ⟨g25, 0, none⟩)), (62, .pointer (some ⟨g25, 0, none⟩))] (by kernel_rfl) rfl ?_ ⟨_, Le.refl _, H.drew.pick [0, 2, 3, 4, 5] (by decide)⟩ ?_
            · refine ⟨kn_op rfl rfl (wantB_none rfl) fun _ hF2 => ?_, ?_⟩
              · obtain ⟨_, hle2, H2⟩ := hF2
                refine  (ow_fieldAddr fd110_0 ty26 rfl rfl (r := 0) rfl ?_)
                exact ⟨rfl, rfl⟩
              refine ⟨kn_op rfl rfl (wantB_none rfl) fun _ hF2 => ?_, ?_⟩
              · obtain ⟨_, hle2, H2⟩ := hF2
                refine  (ow_fieldAddr fd26_0 ty3 rfl rfl (r := 0) rfl ?_)
                exact ⟨rfl, rfl⟩
              refine ⟨kn_op rfl rfl (wantB_none rfl) fun _ hF2 => ?_, ?_⟩
              · obtain ⟨_, hle2, H2⟩ := hF2
                refine  (ow_load (v := .int .i64 2) ty3 H2 rfl 0 rfl rfl rfl rfl ?_)
                exact ⟨rfl, rfl⟩
              exact trivial
            have H := H.drew
            refine cw_op rfl (wantB_none rfl) (ow_call en69 rfl (within_c H 2 1 4) ?_)
            rintro _ _ ⟨rfl, H⟩
            refine af_some [(73, .agg #[.int .i64 2, .int .i64 q20.1.n, .int .i64 q20.1.no, .string q20.1.name, .slice Aq q20.1.l.length cq]), (72, .pointer (some ⟨g25, 0, none⟩)), (71, .func (.func 174) #[] #[]), (70, .pointer (some ⟨0, 2, none⟩)), (69, .int .i64 2), (68, .pointer (some ⟨g25, 0, none⟩)), (67, .pointer (some ⟨g25, 0, none⟩)), (66, .bool true)] (fun w_ => ∃ I2, Le I120 I2 ∧ Hp B I2 w_ [(g25, Ob [.int .i64 2, .int .i64 q20.1.n, .int .i64 q20.1.no, .string q20.1.name, .slice Aq q20.1.l.length cq, .int .i64 (q20.2 : Int)] 110), (g19, Ob [.int .i64 y17.kind, .int .i64 y17.n, .int .i64 y17.no, .string y17.name, .slice A17 y17.l.length c17] 26), (g18, Ob [.int .i64 (i : Int)] 3), (g13, Ob [.slice Ae ((exprs p).length) ce] 24), (g1, Ob [.string p.name, .slice Ak p.kinds.length ck, .slice Ao p.offices.length co, .slice Ar p.rules.length cr, .int .i64 p.change.kind, .int .i64 p.change.n, .int .i64 p.change.no, .string p.change.name, .slice Ac p.change.l.length cc, .int .i64 p.mode] 28)]) rfl ⟨_, Le.refl _, H.pick [0, 2, 3, 4, 5] (by decide)⟩ ?_ ?_
            · refine ⟨kn_op rfl rfl (wantB_none rfl) fun _ hF2 => ?_, ?_⟩
              · obtain ⟨_, hle2, H2⟩ := hF2
                refine  (ow_move (v := .bool true) rfl ?_)
                exact ⟨rfl, rfl⟩
              refine ⟨kn_op rfl rfl ((wantB_some (j := 4) rfl rfl (d := 66) rfl rfl (u := true) rfl).trans rfl) fun _ hF2 => ?_, ?_⟩
              · obtain ⟨_, hle2, H2⟩ := hF2
                refine  (ow_fieldAddr fd110_0 ty26 rfl rfl (r := 0) rfl ?_)
                exact ⟨rfl, rfl⟩
              refine ⟨kn_op rfl rfl ((wantB_some (j := 4) rfl rfl (d := 66) rfl rfl (u := true) rfl).trans rfl) fun _ hF2 => ?_, ?_⟩
              · obtain ⟨_, hle2, H2⟩ := hF2
                refine  (ow_fieldAddr fd26_0 ty3 rfl rfl (r := 0) rfl ?_)
                exact ⟨rfl, rfl⟩
              refine ⟨kn_op rfl rfl ((wantB_some (j := 4) rfl rfl (d := 66) rfl rfl (u := true) rfl).trans rfl) fun _ hF2 => ?_, ?_⟩
              · obtain ⟨_, hle2, H2⟩ := hF2
                refine  (ow_load (v := .int .i64 2) ty3 H2 rfl 0 rfl rfl rfl rfl ?_)
                exact ⟨rfl, rfl⟩
              refine ⟨kn_op rfl rfl ((wantB_some (j := 4) rfl rfl (d := 66) rfl rfl (u := true) rfl).trans rfl) fun _ hF2 => ?_, ?_⟩
              · obtain ⟨_, hle2, H2⟩ := hF2
                refine  (ow_indexAddrP un113 ty75 rfl rfl (by omega) (by omega) (r := 2) rfl ?_)
                exact ⟨rfl, rfl⟩
              refine ⟨kn_op rfl rfl ((wantB_some (j := 4) rfl rfl (d := 66) rfl rfl (u := true) rfl).trans rfl) fun _ hF2 => ?_, ?_⟩
              · obtain ⟨_, hle2, H2⟩ := hF2
                refine  (ow_loadI (v := .func (.func 174) #[] #[]) ty75 H2 rfl (At.mono hle2 (At.sub (vs := [.func (.func 174) #[] #[]]) hg 2 rfl)) rfl rfl rfl ?_)
                exact ⟨rfl, rfl⟩
              refine ⟨kn_op rfl rfl ((wantB_some (j := 4) rfl rfl (d := 66) rfl rfl (u := true) rfl).trans rfl) fun _ hF2 => ?_, ?_⟩
              · obtain ⟨_, hle2, H2⟩ := hF2
                refine  (ow_fieldAddr fd110_0 ty26 rfl rfl (r := 0) rfl ?_)
                exact ⟨rfl, rfl⟩
              refine ⟨kn_op rfl rfl ((wantB_some (j := 4) rfl rfl (d := 66) rfl rfl (u := true) rfl).trans rfl) fun _ hF2 => ?_, ?_⟩
              · obtain ⟨_, hle2, H2⟩ := hF2
                refine  (ow_load (v := .agg #[.int .i64 2, .int .i64 q20.1.n, .int .i64 q20.1.no, .string q20.1.name, .slice Aq q20.1.l.length cq]) ty26 H2 rfl 0 rfl rfl rfl rfl ?_)
                exact ⟨rfl, rfl⟩
              exact trivial
            refine cw_op rfl ((wantB_some (j := 4) rfl rfl (d := 66) rfl rfl (u := true) rfl).trans rfl) (ow_callV en174 (first := []) (cap := []) rfl rfl (kind2_c H _ _ _ _ _ _ _) ?_)
            rintro _ _ ⟨rfl, H⟩
            refine af_some [(75, .bool (k2B q20.1.n q20.1.name q20.1.l.length))] (fun w_ => ∃ I2, Le I120 I2 ∧ Hp B I2 w_ [(g25, Ob [.int .i64 2, .int .i64 q20.1.n, .int .i64 q20.1.no, .string q20.1.name, .slice Aq q20.1.l.length cq, .int .i64 (q20.2 : Int)] 110), (g19, Ob [.int .i64 y17.kind, .int .i64 y17.n, .int .i64 y17.no, .string y17.name, .slice A17 y17.l.length c17] 26), (g18, Ob [.int .i64 (i : Int)] 3), (g13, Ob [.slice Ae ((exprs p).length) ce] 24), (g1, Ob [.string p.name, .slice Ak p.kinds.length ck, .slice Ao p.offices.length co, .slice Ar p.rules.length cr, .int .i64 p.change.kind, .int .i64 p.change.n, .int .i64 p.change.no, .string p.change.name, .slice Ac p.change.l.length cc, .int .i64 p.mode] 28)]) rfl ⟨_, Le.refl _, H.pick [0, 2, 3, 4, 5] (by decide)⟩ ?_ ?_
            · refine ⟨kn_op rfl rfl (wantB_none rfl) fun _ hF2 => ?_, ?_⟩
              · obtain ⟨_, hle2, H2⟩ := hF2
                refine  (ow_pick (v := .bool (k2B q20.1.n q20.1.name q20.1.l.length)) rfl rfl ?_)
                exact ⟨rfl, rfl⟩
              exact trivial
            refine cw_op rfl (wantB_none rfl) (ow_callp en93 rfl (must_c H _ _) ?_ ?_)
            rotate_left
            · rintro ch9 w9 ⟨hm26, rfl, H⟩
              exact (E.pan (Lo := [(g19, Ob [.int .i64 y17.kind, .int .i64 y17.n, .int .i64 y17.no, .string y17.name, .slice A17 y17.l.length c17] 26), (g18, Ob [.int .i64 (i : Int)] 3), (g13, Ob [.slice Ae ((exprs p).length) ce] 24), (g1, Ob [.string p.name, .slice Ak p.kinds.length ck, .slice Ao p.offices.length co, .slice Ar p.rules.length cr, .int .i64 p.change.kind, .int .i64 p.change.n, .int .i64 p.change.no, .string p.change.name, .slice Ac p.change.l.length cc, .int .i64 p.mode] 28)]) (Le.refl _) (H.drop 1) ⟨rfl, part_no hpre (by rw [partOk, kindOk2 hk, (show _ = false from hm26), Bool.false_and])⟩)
            rintro _ w9 ⟨rfl, hm26, H⟩
            refine af_none ?_
            refine cw_nil ?_
            exact st_live [4, 5, 7] (again _ _ ⟨_, rfl, H, by rw [kindOk2 hk]; exact hm26⟩)
          rintro _ _ ⟨r27, rfl, H, hcf⟩
          refine st_region ?_
          refine sr_op rfl rfl (ow_load (v := .int .i64 (i : Int)) ty3 H rfl 3 rfl rfl rfl rfl ?_)
          refine sr_op rfl rfl (ow_load (v := .slice Ae ((exprs p).length) ce) ty24 H rfl 4 rfl rfl rfl rfl ?_)
          refine sr_op rfl rfl (ow_lenS sl24 rfl rfl ?_)
          refine sr_op rfl rfl (ow_sub (r := ((exprs p).length : Int) - 1) rfl rfl (wrap_i64 (by omega) (by omega)) ?_)
          refine sr_op rfl rfl (ow_lss rfl rfl ?_)
          refine sr_op rfl rfl (ow_move (v := .bool (decide ((i : Int) < (((exprs p).length : Int) - 1)))) rfl ?_)
          refine sr_cut 5 (fun m_ w_ => ∃ (r_ : Sl) (v_ : Bool), m_ = (87, .bool v_) :: r_ ∧ Hp B I120 w_ ((g25, Ob [.int .i64 2, .int .i64 q20.1.n, .int .i64 q20.1.no, .string q20.1.name, .slice Aq q20.1.l.length cq, .int .i64 (q20.2 : Int)] 110) :: (l20, .loop (rcS rc20 .busy none)) :: (g19, Ob [.int .i64 y17.kind, .int .i64 y17.n, .int .i64 y17.no, .string y17.name, .slice A17 y17.l.length c17] 26) :: (g18, Ob [.int .i64 (i : Int)] 3) :: (g13, Ob [.slice Ae ((exprs p).length) ce] 24) :: (g1, Ob [.string p.name, .slice Ak p.kinds.length ck, .slice Ao p.offices.length co, .slice Ar p.rules.length cr, .int .i64 p.change.kind, .int .i64 p.change.n, .int .i64 p.change.no, .string p.change.name, .slice Ac p.change.l.length cc, .int .i64 p.mode] 28) :: Lx20) ∧ v_ = ((decide ((i : Int) < (((exprs p).length : Int) - 1))) || (!decide ((2 : Int) = 4)))) (fun again => ?_) ?_
          · rcases hg : decide ((i : Int) < (((exprs p).length : Int) - 1)) with _ | _
            · refine sr_want rfl (j := 5) (d := 82) rfl rfl rfl (v := false) rfl rfl (ow_fieldAddr fd110_0 ty26 rfl rfl (r := 0) rfl ?_)
              refine sr_want rfl (j := 5) (d := 82) rfl rfl rfl (v := false) rfl rfl (ow_fieldAddr fd26_0 ty3 rfl rfl (r := 0) rfl ?_)
              refine sr_want rfl (j := 5) (d := 82) rfl rfl rfl (v := false) rfl rfl (ow_load (v := .int .i64 2) ty3 H rfl 0 rfl rfl rfl rfl ?_)
              refine sr_want rfl (j := 5) (d := 82) rfl rfl rfl (v := false) rfl rfl (ow_neq rfl rfl ?_)
              refine sr_op rfl rfl (ow_pick (v := .bool (!decide ((2 : Int) = 4))) rfl rfl ?_)
              exact sr_live [87] (again _ _ ⟨_, _, rfl, H, by rw [hg] <;> rfl⟩)
            · refine sr_pass rfl (j := 5) (d := 82) rfl rfl rfl (u := true) (v := false) rfl rfl ?_
              refine sr_pass rfl (j := 5) (d := 82) rfl rfl rfl (u := true) (v := false) rfl rfl ?_
              refine sr_pass rfl (j := 5) (d := 82) rfl rfl rfl (u := true) (v := false) rfl rfl ?_
              refine sr_pass rfl (j := 5) (d := 82) rfl rfl rfl (u := true) (v := false) rfl rfl ?_
              refine sr_op rfl rfl (ow_pick (v := .bool true) rfl rfl ?_)
              exact sr_live [87] (again _ _ ⟨_, _, rfl, H, by rw [hg] <;> rfl⟩)
          rintro _ _ ⟨r, _, rfl, H, rfl⟩
          refine sr_op rfl rfl (ow_callp en93 rfl (must_c H _ _) ?_ ?_)
          rotate_left
          · rintro ch9 w9 ⟨hm28, rfl, H⟩
            exact (E.pan (Lo := [(g19, Ob [.int .i64 y17.kind, .int .i64 y17.n, .int .i64 y17.no, .string y17.name, .slice A17 y17.l.length c17] 26), (g18, Ob [.int .i64 (i : Int)] 3), (g13, Ob [.slice Ae ((exprs p).length) ce] 24), (g1, Ob [.string p.name, .slice Ak p.kinds.length ck, .slice Ao p.offices.length co, .slice Ar p.rules.length cr, .int .i64 p.change.kind, .int .i64 p.change.n, .int .i64 p.change.no, .string p.change.name, .slice Ac p.change.l.length cc, .int .i64 p.mode] 28)]) (Le.refl _) (H.drop 1) ⟨rfl, part_no hpre (by rw [partOk, hcf, hk, Bool.true_and]; exact hm28)⟩).one
          rintro _ w9 ⟨rfl, hm28, H⟩
          refine sr_nil ?_
          refine st_inBlock ?_
          exact E.on (Lo := [(g19, Ob [.int .i64 y17.kind, .int .i64 y17.n, .int .i64 y17.no, .string y17.name, .slice A17 y17.l.length c17] 26), (g18, Ob [.int .i64 (i : Int)] 3), (g13, Ob [.slice Ae ((exprs p).length) ce] 24), (g1, Ob [.string p.name, .slice Ak p.kinds.length ck, .slice Ao p.offices.length co, .slice Ar p.rules.length cr, .int .i64 p.change.kind, .int .i64 p.change.n, .int .i64 p.change.no, .string p.change.name, .slice Ac p.change.l.length cc, .int .i64 p.mode] 28)]) (Le.refl _) (H.drop 1) ⟨rfl, all_snoc hJa (by rw [partOk, hcf, hk, Bool.true_and]; exact hm28), mem_snoc hJb (depth_in hsx hpre)⟩
        · rw [hk]
          refine st_region ?_
          refine sr_op rfl rfl (ow_alloc ty110 H [.int .i64 0, .int .i64 0, .int .i64 0, .string ⟨#[]⟩, .slice none 0 0, .int .i64 0] rfl (fun g29 _ H => ?_))
          refine sr_op rfl rfl (ow_store ty110 H rfl (v := .agg #[.int .i64 3, .int .i64 q20.1.n, .int .i64 q20.1.no, .string q20.1.name, .slice Aq q20.1.l.length cq, .int .i64 (q20.2 : Int)]) rfl [.int .i64 3, .int .i64 q20.1.n, .int .i64 q20.1.no, .string q20.1.name, .slice Aq q20.1.l.length cq, .int .i64 (q20.2 : Int)] rfl rfl rfl 0 rfl rfl (fun _ H => ?_))
          refine sr_nil ?_
          refine st_begin hb1 H 1 rfl rfl (fun _ H => ?_)
          refine st_block ?_
          refine st_seq ?_
          refine st_cut (fun m_ w_ => ∃ (r_ : Sl), m_ = (4, .pointer (some ⟨g13, 0, none⟩)) :: (5, .pointer (some ⟨g18, 0, none⟩)) :: (7, .pointer (some ⟨g29, 0, none⟩)) :: r_ ∧ Hp B I120 w_ ((g29, Ob [.int .i64 3, .int .i64 q20.1.n, .int .i64 q20.1.no, .string q20.1.name, .slice Aq q20.1.l.length cq, .int .i64 (q20.2 : Int)] 110) :: (l20, .loop (rcS rc20 .busy none)) :: (g19, Ob [.int .i64 y17.kind, .int .i64 y17.n, .int .i64 y17.no, .string y17.name, .slice A17 y17.l.length c17] 26) :: (g18, Ob [.int .i64 (i : Int)] 3) :: (g13, Ob [.slice Ae ((exprs p).length) ce] 24) :: (g1, Ob [.string p.name, .slice Ak p.kinds.length ck, .slice Ao p.offices.length co, .slice Ar p.rules.length cr, .int .i64 p.change.kind, .int .i64 p.change.n, .int .i64 p.change.no, .string p.change.name, .slice Ac p.change.l.length cc, .int .i64 p.mode] 28) :: Lx20) ∧ kindOk q20.1 = true) (fun again => ?_) ?_
          · refine st_draw (F := (fun w_ => ∃ I2, Le I120 I2 ∧ Hp B I2 w_ [(g29, Ob [.int .i64 3, .int .i64 q20.1.n, .int .i64 q20.1.no, .string q20.1.name, .slice Aq q20.1.l.length cq, .int .i64 (q20.2 : Int)] 110), (g19, Ob [.int .i64 y17.kind, .int .i64 y17.n, .int .i64 y17.no, .string y17.name, .slice A17 y17.l.length c17] 26), (g18, Ob [.int .i64 (i : Int)] 3), (g13, Ob [.slice Ae ((exprs p).length) ce] 24), (g1, Ob [.string p.name, .slice Ak p.kinds.length ck, .slice Ao p.offices.length co, .slice Ar p.rules.length cr, .int .i64 p.change.kind, .int .i64 p.change.n, .int .i64 p.change.no, .string p.change.name, .slice Ac p.change.l.length cc, .int .i64 p.mode] 28)])) (p0 := [0, 1, 2]) (plan := [(3, [4, 5, 6, 7, 8, 9, 10, 11], []), (12, [13], []), (14, [], [])]) [] [] [(64, .int .i64 3), (63, .pointer (some ⟨g29, 0, none⟩)), (62, .pointer (some ⟨g29, 0, none⟩))] (by kernel_rfl) rfl ?_ ⟨_, Le.refl _, H.drew.pick [0, 2, 3, 4, 5] (by decide)⟩ ?_
            · refine ⟨kn_op rfl rfl (wantB_none rfl) fun _ hF2 => ?_, ?_⟩
              · obtain ⟨_, hle2, H2⟩ := hF2
                refine  (ow_fieldAddr fd110_0 ty26 rfl rfl (r := 0) rfl ?_)
                exact ⟨rfl, rfl⟩
              refine ⟨kn_op rfl rfl (wantB_none rfl) fun _ hF2 => ?_, ?_⟩
              · obtain ⟨_, hle2, H2⟩ := hF2
                refine  (ow_fieldAddr fd26_0 ty3 rfl rfl (r := 0) rfl ?_)
                exact ⟨rfl, rfl⟩
              refine ⟨kn_op rfl rfl (wantB_none rfl) fun _ hF2 => ?_, ?_⟩
              · obtain ⟨_, hle2, H2⟩ := hF2
                refine  (ow_load (v := .int .i64 3) ty3 H2 rfl 0 rfl rfl rfl rfl ?_)
                exact ⟨rfl, rfl⟩
              exact trivial
            have H := H.drew
            refine cw_op rfl (wantB_none rfl) (ow_call en69 rfl (within_c H 3 1 4) ?_)
            rintro _ _ ⟨rfl, H⟩
            refine af_some [(73, .agg #[.int .i64 3, .int .i64 q20.1.n, .int .i64 q20.1.no, .string q20.1.name, .slice Aq q20.1.l.length cq]), (72, .pointer (some ⟨g29, 0, none⟩)), (71, .func (.func 175) #[] #[]), (70, .pointer (some ⟨0, 3, none⟩)), (69, .int .i64 3), (68, .pointer (some ⟨g29, 0, none⟩)), (67, .pointer (some ⟨g29, 0, none⟩)), (66, .bool true)] (fun w_ => ∃ I2, Le I120 I2 ∧ Hp B I2 w_ [(g29, Ob [.int .i64 3, .int .i64 q20.1.n, .int .i64 q20.1.no, .string q20.1.name, .slice Aq q20.1.l.length cq, .int .i64 (q20.2 : Int)] 110), (g19, Ob [.int .i64 y17.kind, .int .i64 y17.n, .int .i64 y17.no, .string y17.name, .slice A17 y17.l.length c17] 26), (g18, Ob [.int .i64 (i : Int)] 3), (g13, Ob [.slice Ae ((exprs p).length) ce] 24), (g1, Ob [.string p.name, .slice Ak p.kinds.length ck, .slice Ao p.offices.length co, .slice Ar p.rules.length cr, .int .i64 p.change.kind, .int .i64 p.change.n, .int .i64 p.change.no, .string p.change.name, .slice Ac p.change.l.length cc, .int .i64 p.mode] 28)]) rfl ⟨_, Le.refl _, H.pick [0, 2, 3, 4, 5] (by decide)⟩ ?_ ?_
            · refine ⟨kn_op rfl rfl (wantB_none rfl) fun _ hF2 => ?_, ?_⟩
              · obtain ⟨_, hle2, H2⟩ := hF2
                refine  (ow_move (v := .bool true) rfl ?_)
                exact ⟨rfl, rfl⟩
              refine ⟨kn_op rfl rfl ((wantB_some (j := 4) rfl rfl (d := 66) rfl rfl (u := true) rfl).trans rfl) fun _ hF2 => ?_, ?_⟩
              · obtain ⟨_, hle2, H2⟩ := hF2
                refine  (ow_fieldAddr fd110_0 ty26 rfl rfl (r := 0) rfl ?_)
                exact ⟨rfl, rfl⟩
              refine ⟨kn_op rfl rfl ((wantB_some (j := 4) rfl rfl (d := 66) rfl rfl (u := true) rfl).trans rfl) fun _ hF2 => ?_, ?_⟩
              · obtain ⟨_, hle2, H2⟩ := hF2
                refine  (ow_fieldAddr fd26_0 ty3 rfl rfl (r := 0) rfl ?_)
                exact ⟨rfl, rfl⟩
              refine ⟨kn_op rfl rfl ((wantB_some (j := 4) rfl rfl (d := 66) rfl rfl (u := true) rfl).trans rfl) fun _ hF2 => ?_, ?_⟩
              · obtain ⟨_, hle2, H2⟩ := hF2
                refine  (ow_load (v := .int .i64 3) ty3 H2 rfl 0 rfl rfl rfl rfl ?_)
                exact ⟨rfl, rfl⟩
              refine ⟨kn_op rfl rfl ((wantB_some (j := 4) rfl rfl (d := 66) rfl rfl (u := true) rfl).trans rfl) fun _ hF2 => ?_, ?_⟩
              · obtain ⟨_, hle2, H2⟩ := hF2
                refine  (ow_indexAddrP un113 ty75 rfl rfl (by omega) (by omega) (r := 3) rfl ?_)
                exact ⟨rfl, rfl⟩
              refine ⟨kn_op rfl rfl ((wantB_some (j := 4) rfl rfl (d := 66) rfl rfl (u := true) rfl).trans rfl) fun _ hF2 => ?_, ?_⟩
              · obtain ⟨_, hle2, H2⟩ := hF2
                refine  (ow_loadI (v := .func (.func 175) #[] #[]) ty75 H2 rfl (At.mono hle2 (At.sub (vs := [.func (.func 175) #[] #[]]) hg 3 rfl)) rfl rfl rfl ?_)
                exact ⟨rfl, rfl⟩
              refine ⟨kn_op rfl rfl ((wantB_some (j := 4) rfl rfl (d := 66) rfl rfl (u := true) rfl).trans rfl) fun _ hF2 => ?_, ?_⟩
              · obtain ⟨_, hle2, H2⟩ := hF2
                refine  (ow_fieldAddr fd110_0 ty26 rfl rfl (r := 0) rfl ?_)
                exact ⟨rfl, rfl⟩
              refine ⟨kn_op rfl rfl ((wantB_some (j := 4) rfl rfl (d := 66) rfl rfl (u := true) rfl).trans rfl) fun _ hF2 => ?_, ?_⟩
              · obtain ⟨_, hle2, H2⟩ := hF2
                refine  (ow_load (v := .agg #[.int .i64 3, .int .i64 q20.1.n, .int .i64 q20.1.no, .string q20.1.name, .slice Aq q20.1.l.length cq]) ty26 H2 rfl 0 rfl rfl rfl rfl ?_)
                exact ⟨rfl, rfl⟩
              exact trivial
            refine cw_op rfl ((wantB_some (j := 4) rfl rfl (d := 66) rfl rfl (u := true) rfl).trans rfl) (ow_callV en175 (first := []) (cap := []) rfl rfl (kind3_c H _ _ _ _ _ _ _) ?_)
            rintro _ _ ⟨rfl, H⟩
            refine af_some [(75, .bool (k3B q20.1.n q20.1.name q20.1.l.length))] (fun w_ => ∃ I2, Le I120 I2 ∧ Hp B I2 w_ [(g29, Ob [.int .i64 3, .int .i64 q20.1.n, .int .i64 q20.1.no, .string q20.1.name, .slice Aq q20.1.l.length cq, .int .i64 (q20.2 : Int)] 110), (g19, Ob [.int .i64 y17.kind, .int .i64 y17.n, .int .i64 y17.no, .string y17.name, .slice A17 y17.l.length c17] 26), (g18, Ob [.int .i64 (i : Int)] 3), (g13, Ob [.slice Ae ((exprs p).length) ce] 24), (g1, Ob [.string p.name, .slice Ak p.kinds.length ck, .slice Ao p.offices.length co, .slice Ar p.rules.length cr, .int .i64 p.change.kind, .int .i64 p.change.n, .int .i64 p.change.no, .string p.change.name, .slice Ac p.change.l.length cc, .int .i64 p.mode] 28)]) rfl ⟨_, Le.refl _, H.pick [0, 2, 3, 4, 5] (by decide)⟩ ?_ ?_
            · refine ⟨kn_op rfl rfl (wantB_none rfl) fun _ hF2 => ?_, ?_⟩
              · obtain ⟨_, hle2, H2⟩ := hF2
                refine  (ow_pick (v := .bool (k3B q20.1.n q20.1.name q20.1.l.length)) rfl rfl ?_)
                exact ⟨rfl, rfl⟩
              exact trivial
            refine cw_op rfl (wantB_none rfl) (ow_callp en93 rfl (must_c H _ _) ?_ ?_)
            rotate_left
            · rintro ch9 w9 ⟨hm30, rfl, H⟩
              exact (E.pan (Lo := [(g19, Ob [.int .i64 y17.kind, .int .i64 y17.n, .int .i64 y17.no, .string y17.name, .slice A17 y17.l.length c17] 26), (g18, Ob [.int .i64 (i : Int)] 3), (g13, Ob [.slice Ae ((exprs p).length) ce] 24), (g1, Ob [.string p.name, .slice Ak p.kinds.length ck, .slice Ao p.offices.length co, .slice Ar p.rules.length cr, .int .i64 p.change.kind, .int .i64 p.change.n, .int .i64 p.change.no, .string p.change.name, .slice Ac p.change.l.length cc, .int .i64 p.mode] 28)]) (Le.refl _) (H.drop 1) ⟨rfl, part_no hpre (by rw [partOk, kindOk3 hk, (show _ = false from hm30), Bool.false_and])⟩)
            rintro _ w9 ⟨rfl, hm30, H⟩
            refine af_none ?_
            refine cw_nil ?_
            exact st_live [4, 5, 7] (again _ _ ⟨_, rfl, H, by rw [kindOk3 hk]; exact hm30⟩)
          rintro _ _ ⟨r31, rfl, H, hcf⟩
          refine st_region ?_
          refine sr_op rfl rfl (ow_load (v := .int .i64 (i : Int)) ty3 H rfl 3 rfl rfl rfl rfl ?_)
          refine sr_op rfl rfl (ow_load (v := .slice Ae ((exprs p).length) ce) ty24 H rfl 4 rfl rfl rfl rfl ?_)
          refine sr_op rfl rfl (ow_lenS sl24 rfl rfl ?_)
          refine sr_op rfl rfl (ow_sub (r := ((exprs p).length : Int) - 1) rfl rfl (wrap_i64 (by omega) (by omega)) ?_)
          refine sr_op rfl rfl (ow_lss rfl rfl ?_)
          refine sr_op rfl rfl (ow_move (v := .bool (decide ((i : Int) < (((exprs p).length : Int) - 1)))) rfl ?_)
          refine sr_cut 5 (fun m_ w_ => ∃ (r_ : Sl) (v_ : Bool), m_ = (87, .bool v_) :: r_ ∧ Hp B I120 w_ ((g29, Ob [.int .i64 3, .int .i64 q20.1.n, .int .i64 q20.1.no, .string q20.1.name, .slice Aq q20.1.l.length cq, .int .i64 (q20.2 : Int)] 110) :: (l20, .loop (rcS rc20 .busy none)) :: (g19, Ob [.int .i64 y17.kind, .int .i64 y17.n, .int .i64 y17.no, .string y17.name, .slice A17 y17.l.length c17] 26) :: (g18, Ob [.int .i64 (i : Int)] 3) :: (g13, Ob [.slice Ae ((exprs p).length) ce] 24) :: (g1, Ob [.string p.name, .slice Ak p.kinds.length ck, .slice Ao p.offices.length co, .slice Ar p.rules.length cr, .int .i64 p.change.kind, .int .i64 p.change.n, .int .i64 p.change.no, .string p.change.name, .slice Ac p.change.l.length cc, .int .i64 p.mode] 28) :: Lx20) ∧ v_ = ((decide ((i : Int) < (((exprs p).length : Int) - 1))) || (!decide ((3 : Int) = 4)))) (fun again => ?_) ?_
          · rcases hg : decide ((i : Int) < (((exprs p).length : Int) - 1)) with _ | _
            · refine sr_want rfl (j := 5) (d := 82) rfl rfl rfl (v := false) rfl rfl (ow_fieldAddr fd110_0 ty26 rfl rfl (r := 0) rfl ?_)
              refine sr_want rfl (j := 5) (d := 82) rfl rfl rfl (v := false) rfl rfl (ow_fieldAddr fd26_0 ty3 rfl rfl (r := 0) rfl ?_)
              refine sr_want rfl (j := 5) (d := 82) rfl rfl rfl (v := false) rfl rfl (ow_load (v := .int .i64 3) ty3 H rfl 0 rfl rfl rfl rfl ?_)
              refine sr_want rfl (j := 5) (d := 82) rfl rfl rfl (v := false) rfl rfl (ow_neq rfl rfl ?_)
              refine sr_op rfl rfl (ow_pick (v := .bool (!decide ((3 : Int) = 4))) rfl rfl ?_)
              exact sr_live [87] (again _ _ ⟨_, _, rfl, H, by rw [hg] <;> rfl⟩)
            · refine sr_pass rfl (j := 5) (d := 82) rfl rfl rfl (u := true) (v := false) rfl rfl ?_
              refine sr_pass rfl (j := 5) (d := 82) rfl rfl rfl (u := true) (v := false) rfl rfl ?_
              refine sr_pass rfl (j := 5) (d := 82) rfl rfl rfl (u := true) (v := false) rfl rfl ?_
              refine sr_pass rfl (j := 5) (d := 82) rfl rfl rfl (u := true) (v := false) rfl rfl ?_
              refine sr_op rfl rfl (ow_pick (v := .bool true) rfl rfl ?_)
              exact sr_live [87] (again _ _ ⟨_, _, rfl, H, by rw [hg] <;> rfl⟩)
          rintro _ _ ⟨r, _, rfl, H, rfl⟩
          refine sr_op rfl rfl (ow_callp en93 rfl (must_c H _ _) ?_ ?_)
          rotate_left
          · rintro ch9 w9 ⟨hm32, rfl, H⟩
            exact (E.pan (Lo := [(g19, Ob [.int .i64 y17.kind, .int .i64 y17.n, .int .i64 y17.no, .string y17.name, .slice A17 y17.l.length c17] 26), (g18, Ob [.int .i64 (i : Int)] 3), (g13, Ob [.slice Ae ((exprs p).length) ce] 24), (g1, Ob [.string p.name, .slice Ak p.kinds.length ck, .slice Ao p.offices.length co, .slice Ar p.rules.length cr, .int .i64 p.change.kind, .int .i64 p.change.n, .int .i64 p.change.no, .string p.change.name, .slice Ac p.change.l.length cc, .int .i64 p.mode] 28)]) (Le.refl _) (H.drop 1) ⟨rfl, part_no hpre (by rw [partOk, hcf, hk, Bool.true_and]; exact hm32)⟩).one
          rintro _ w9 ⟨rfl, hm32, H⟩
          refine sr_nil ?_
          refine st_inBlock ?_
          exact E.on (Lo := [(g19, Ob [.int .i64 y17.kind, .int .i64 y17.n, .int .i64 y17.no, .string y17.name, .slice A17 y17.l.length c17] 26), (g18, Ob [.int .i64 (i : Int)] 3), (g13, Ob [.slice Ae ((exprs p).length) ce] 24), (g1, Ob [.string p.name, .slice Ak p.kinds.length ck, .slice Ao p.offices.length co, .slice Ar p.rules.length cr, .int .i64 p.change.kind, .int .i64 p.change.n, .int .i64 p.change.no, .string p.change.name, .slice Ac p.change.l.length cc, .int .i64 p.mode] 28)]) (Le.refl _) (H.drop 1) ⟨rfl, all_snoc hJa (by rw [partOk, hcf, hk, Bool.true_and]; exact hm32), mem_snoc hJb (depth_in hsx hpre)⟩
        · rw [hk]
          refine st_region ?_
          refine sr_op rfl rfl (ow_alloc ty110 H [.int .i64 0, .int .i64 0, .int .i64 0, .string ⟨#[]⟩, .slice none 0 0, .int .i64 0] rfl (fun g33 _ H => ?_))
          refine sr_op rfl rfl (ow_store ty110 H rfl (v := .agg #[.int .i64 4, .int .i64 q20.1.n, .int .i64 q20.1.no, .string q20.1.name, .slice Aq q20.1.l.length cq, .int .i64 (q20.2 : Int)]) rfl [.int .i64 4, .int .i64 q20.1.n, .int .i64 q20.1.no, .string q20.1.name, .slice Aq q20.1.l.length cq, .int .i64 (q20.2 : Int)] rfl rfl rfl 0 rfl rfl (fun _ H => ?_))
          refine sr_nil ?_
          refine st_begin hb1 H 1 rfl rfl (fun _ H => ?_)
          refine st_block ?_
          refine st_seq ?_
          refine st_cut (fun m_ w_ => ∃ (r_ : Sl), m_ = (4, .pointer (some ⟨g13, 0, none⟩)) :: (5, .pointer (some ⟨g18, 0, none⟩)) :: (7, .pointer (some ⟨g33, 0, none⟩)) :: r_ ∧ Hp B I120 w_ ((g33, Ob [.int .i64 4, .int .i64 q20.1.n, .int .i64 q20.1.no, .string q20.1.name, .slice Aq q20.1.l.length cq, .int .i64 (q20.2 : Int)] 110) :: (l20, .loop (rcS rc20 .busy none)) :: (g19, Ob [.int .i64 y17.kind, .int .i64 y17.n, .int .i64 y17.no, .string y17.name, .slice A17 y17.l.length c17] 26) :: (g18, Ob [.int .i64 (i : Int)] 3) :: (g13, Ob [.slice Ae ((exprs p).length) ce] 24) :: (g1, Ob [.string p.name, .slice Ak p.kinds.length ck, .slice Ao p.offices.length co, .slice Ar p.rules.length cr, .int .i64 p.change.kind, .int .i64 p.change.n, .int .i64 p.change.no, .string p.change.name, .slice Ac p.change.l.length cc, .int .i64 p.mode] 28) :: Lx20) ∧ kindOk q20.1 = true) (fun again => ?_) ?_
          · refine st_draw (F := (fun w_ => ∃ I2, Le I120 I2 ∧ Hp B I2 w_ [(g33, Ob [.int .i64 4, .int .i64 q20.1.n, .int .i64 q20.1.no, .string q20.1.name, .slice Aq q20.1.l.length cq, .int .i64 (q20.2 : Int)] 110), (g19, Ob [.int .i64 y17.kind, .int .i64 y17.n, .int .i64 y17.no, .string y17.name, .slice A17 y17.l.length c17] 26), (g18, Ob [.int .i64 (i : Int)] 3), (g13, Ob [.slice Ae ((exprs p).length) ce] 24), (g1, Ob [.string p.name, .slice Ak p.kinds.length ck, .slice Ao p.offices.length co, .slice Ar p.rules.length cr, .int .i64 p.change.kind, .int .i64 p.change.n, .int .i64 p.change.no, .string p.change.name, .slice Ac p.change.l.length cc, .int .i64 p.mode] 28)])) (p0 := [0, 1, 2]) (plan := [(3, [4, 5, 6, 7, 8, 9, 10, 11], []), (12, [13], []), (14, [], [])]) [] [] [(64, .int .i64 4), (63, .pointer (some ⟨g33, 0, none⟩)), (62, .pointer (some ⟨g33, 0, none⟩))] (by kernel_rfl) rfl ?_ ⟨_, Le.refl _, H.drew.pick [0, 2, 3, 4, 5] (by decide)⟩ ?_
            · refine ⟨kn_op rfl rfl (wantB_none rfl) fun _ hF2 => ?_, ?_⟩
              · obtain ⟨_, hle2, H2⟩ := hF2
                refine  (ow_fieldAddr fd110_0 ty26 rfl rfl (r := 0) rfl ?_)
                exact ⟨rfl, rfl⟩
              refine ⟨kn_op rfl rfl (wantB_none rfl) fun _ hF2 => ?_, ?_⟩
              · obtain ⟨_, hle2, H2⟩ := hF2
                refine  (ow_fieldAddr fd26_0 ty3 rfl rfl (r := 0) rfl ?_)
                exact ⟨rfl, rfl⟩
              refine ⟨kn_op rfl rfl (wantB_none rfl) fun _ hF2 => ?_, ?_⟩
              · obtain ⟨_, hle2, H2⟩ := hF2
                refine  (ow_load (v := .int .i64 4) ty3 H2 rfl 0 rfl rfl rfl rfl ?_)
                exact ⟨rfl, rfl⟩
              exact trivial
            have H := H.drew
            refine cw_op rfl (wantB_none rfl) (ow_call en69 rfl (within_c H 4 1 4) ?_)
            rintro _ _ ⟨rfl, H⟩
            refine af_some [(73, .agg #[.int .i64 4, .int .i64 q20.1.n, .int .i64 q20.1.no, .string q20.1.name, .slice Aq q20.1.l.length cq]), (72, .pointer (some ⟨g33, 0, none⟩)), (71, .func (.func 176) #[] #[]), (70, .pointer (some ⟨0, 4, none⟩)), (69, .int .i64 4), (68, .pointer (some ⟨g33, 0, none⟩)), (67, .pointer (some ⟨g33, 0, none⟩)), (66, .bool true)] (fun w_ => ∃ I2, Le I120 I2 ∧ Hp B I2 w_ [(g33, Ob [.int .i64 4, .int .i64 q20.1.n, .int .i64 q20.1.no, .string q20.1.name, .slice Aq q20.1.l.length cq, .int .i64 (q20.2 : Int)] 110), (g19, Ob [.int .i64 y17.kind, .int .i64 y17.n, .int .i64 y17.no, .string y17.name, .slice A17 y17.l.length c17] 26), (g18, Ob [.int .i64 (i : Int)] 3), (g13, Ob [.slice Ae ((exprs p).length) ce] 24), (g1, Ob [.string p.name, .slice Ak p.kinds.length ck, .slice Ao p.offices.length co, .slice Ar p.rules.length cr, .int .i64 p.change.kind, .int .i64 p.change.n, .int .i64 p.change.no, .string p.change.name, .slice Ac p.change.l.length cc, .int .i64 p.mode] 28)]) rfl ⟨_, Le.refl _, H.pick [0, 2, 3, 4, 5] (by decide)⟩ ?_ ?_
            · refine ⟨kn_op rfl rfl (wantB_none rfl) fun _ hF2 => ?_, ?_⟩
              · obtain ⟨_, hle2, H2⟩ := hF2
                refine  (ow_move (v := .bool true) rfl ?_)
                exact ⟨rfl, rfl⟩
              refine ⟨kn_op rfl rfl ((wantB_some (j := 4) rfl rfl (d := 66) rfl rfl (u := true) rfl).trans rfl) fun _ hF2 => ?_, ?_⟩
              · obtain ⟨_, hle2, H2⟩ := hF2
                refine  (ow_fieldAddr fd110_0 ty26 rfl rfl (r := 0) rfl ?_)
                exact ⟨rfl, rfl⟩
              refine ⟨kn_op rfl rfl ((wantB_some (j := 4) rfl rfl (d := 66) rfl rfl (u := true) rfl).trans rfl) fun _ hF2 => ?_, ?_⟩
              · obtain ⟨_, hle2, H2⟩ := hF2
                refine  (ow_fieldAddr fd26_0 ty3 rfl rfl (r := 0) rfl ?_)
                exact ⟨rfl, rfl⟩
              refine ⟨kn_op rfl rfl ((wantB_some (j := 4) rfl rfl (d := 66) rfl rfl (u := true) rfl).trans rfl) fun _ hF2 => ?_, ?_⟩
              · obtain ⟨_, hle2, H2⟩ := hF2
                refine  (ow_load (v := .int .i64 4) ty3 H2 rfl 0 rfl rfl rfl rfl ?_)
                exact ⟨rfl, rfl⟩
              refine ⟨kn_op rfl rfl ((wantB_some (j := 4) rfl rfl (d := 66) rfl rfl (u := true) rfl).trans rfl) fun _ hF2 => ?_, ?_⟩
              · obtain ⟨_, hle2, H2⟩ := hF2
                refine  (ow_indexAddrP un113 ty75 rfl rfl (by omega) (by omega) (r := 4) rfl ?_)
                exact ⟨rfl, rfl⟩
              refine ⟨kn_op rfl rfl ((wantB_some (j := 4) rfl rfl (d := 66) rfl rfl (u := true) rfl).trans rfl) fun _ hF2 => ?_, ?_⟩
              · obtain ⟨_, hle2, H2⟩ := hF2
                refine  (ow_loadI (v := .func (.func 176) #[] #[]) ty75 H2 rfl (At.mono hle2 (At.sub (vs := [.func (.func 176) #[] #[]]) hg 4 rfl)) rfl rfl rfl ?_)
                exact ⟨rfl, rfl⟩
              refine ⟨kn_op rfl rfl ((wantB_some (j := 4) rfl rfl (d := 66) rfl rfl (u := true) rfl).trans rfl) fun _ hF2 => ?_, ?_⟩
              · obtain ⟨_, hle2, H2⟩ := hF2
                refine  (ow_fieldAddr fd110_0 ty26 rfl rfl (r := 0) rfl ?_)
                exact ⟨rfl, rfl⟩
              refine ⟨kn_op rfl rfl ((wantB_some (j := 4) rfl rfl (d := 66) rfl rfl (u := true) rfl).trans rfl) fun _ hF2 => ?_, ?_⟩
              · obtain ⟨_, hle2, H2⟩ := hF2
                refine  (ow_load (v := .agg #[.int .i64 4, .int .i64 q20.1.n, .int .i64 q20.1.no, .string q20.1.name, .slice Aq q20.1.l.length cq]) ty26 H2 rfl 0 rfl rfl rfl rfl ?_)
                exact ⟨rfl, rfl⟩
              exact trivial
            refine cw_op rfl ((wantB_some (j := 4) rfl rfl (d := 66) rfl rfl (u := true) rfl).trans rfl) (ow_callV en176 (first := []) (cap := []) rfl rfl (kind4_c H _ _ _ _ _ _ _) ?_)
            rintro _ _ ⟨rfl, H⟩
            refine af_some [(75, .bool (k4B q20.1.n q20.1.name q20.1.l.length))] (fun w_ => ∃ I2, Le I120 I2 ∧ Hp B I2 w_ [(g33, Ob [.int .i64 4, .int .i64 q20.1.n, .int .i64 q20.1.no, .string q20.1.name, .slice Aq q20.1.l.length cq, .int .i64 (q20.2 : Int)] 110), (g19, Ob [.int .i64 y17.kind, .int .i64 y17.n, .int .i64 y17.no, .string y17.name, .slice A17 y17.l.length c17] 26), (g18, Ob [.int .i64 (i : Int)] 3), (g13, Ob [.slice Ae ((exprs p).length) ce] 24), (g1, Ob [.string p.name, .slice Ak p.kinds.length ck, .slice Ao p.offices.length co, .slice Ar p.rules.length cr, .int .i64 p.change.kind, .int .i64 p.change.n, .int .i64 p.change.no, .string p.change.name, .slice Ac p.change.l.length cc, .int .i64 p.mode] 28)]) rfl ⟨_, Le.refl _, H.pick [0, 2, 3, 4, 5] (by decide)⟩ ?_ ?_
            · refine ⟨kn_op rfl rfl (wantB_none rfl) fun _ hF2 => ?_, ?_⟩
              · obtain ⟨_, hle2, H2⟩ := hF2
                refine  (ow_pick (v := .bool (k4B q20.1.n q20.1.name q20.1.l.length)) rfl rfl ?_)
                exact ⟨rfl, rfl⟩
              exact trivial
            refine cw_op rfl (wantB_none rfl) (ow_callp en93 rfl (must_c H _ _) ?_ ?_)
            rotate_left
            · rintro ch9 w9 ⟨hm34, rfl, H⟩
              exact (E.pan (Lo := [(g19, Ob [.int .i64 y17.kind, .int .i64 y17.n, .int .i64 y17.no, .string y17.name, .slice A17 y17.l.length c17] 26), (g18, Ob [.int .i64 (i : Int)] 3), (g13, Ob [.slice Ae ((exprs p).length) ce] 24), (g1, Ob [.string p.name, .slice Ak p.kinds.length ck, .slice Ao p.offices.length co, .slice Ar p.rules.length cr, .int .i64 p.change.kind, .int .i64 p.change.n, .int .i64 p.change.no, .string p.change.name, .slice Ac p.change.l.length cc, .int .i64 p.mode] 28)]) (Le.refl _) (H.drop 1) ⟨rfl, part_no hpre (by rw [partOk, kindOk4 hk, (show _ = false from hm34), Bool.false_and])⟩)
            rintro _ w9 ⟨rfl, hm34, H⟩
            refine af_none ?_
            refine cw_nil ?_
            exact st_live [4, 5, 7] (again _ _ ⟨_, rfl, H, by rw [kindOk4 hk]; exact hm34⟩)
          rintro _ _ ⟨r35, rfl, H, hcf⟩
          refine st_region ?_
          refine sr_op rfl rfl (ow_load (v := .int .i64 (i : Int)) ty3 H rfl 3 rfl rfl rfl rfl ?_)
          refine sr_op rfl rfl (ow_load (v := .slice Ae ((exprs p).length) ce) ty24 H rfl 4 rfl rfl rfl rfl ?_)
          refine sr_op rfl rfl (ow_lenS sl24 rfl rfl ?_)
          refine sr_op rfl rfl (ow_sub (r := ((exprs p).length : Int) - 1) rfl rfl (wrap_i64 (by omega) (by omega)) ?_)
          refine sr_op rfl rfl (ow_lss rfl rfl ?_)
          refine sr_op rfl rfl (ow_move (v := .bool (decide ((i : Int) < (((exprs p).length : Int) - 1)))) rfl ?_)
          refine sr_cut 5 (fun m_ w_ => ∃ (r_ : Sl) (v_ : Bool), m_ = (87, .bool v_) :: r_ ∧ Hp B I120 w_ ((g33, Ob [.int .i64 4, .int .i64 q20.1.n, .int .i64 q20.1.no, .string q20.1.name, .slice Aq q20.1.l.length cq, .int .i64 (q20.2 : Int)] 110) :: (l20, .loop (rcS rc20 .busy none)) :: (g19, Ob [.int .i64 y17.kind, .int .i64 y17.n, .int .i64 y17.no, .string y17.name, .slice A17 y17.l.length c17] 26) :: (g18, Ob [.int .i64 (i : Int)] 3) :: (g13, Ob [.slice Ae ((exprs p).length) ce] 24) :: (g1, Ob [.string p.name, .slice Ak p.kinds.length ck, .slice Ao p.offices.length co, .slice Ar p.rules.length cr, .int .i64 p.change.kind, .int .i64 p.change.n, .int .i64 p.change.no, .string p.change.name, .slice Ac p.change.l.length cc, .int .i64 p.mode] 28) :: Lx20) ∧ v_ = ((decide ((i : Int) < (((exprs p).length : Int) - 1))) || (!decide ((4 : Int) = 4)))) (fun again => ?_) ?_
          · rcases hg : decide ((i : Int) < (((exprs p).length : Int) - 1)) with _ | _
            · refine sr_want rfl (j := 5) (d := 82) rfl rfl rfl (v := false) rfl rfl (ow_fieldAddr fd110_0 ty26 rfl rfl (r := 0) rfl ?_)
              refine sr_want rfl (j := 5) (d := 82) rfl rfl rfl (v := false) rfl rfl (ow_fieldAddr fd26_0 ty3 rfl rfl (r := 0) rfl ?_)
              refine sr_want rfl (j := 5) (d := 82) rfl rfl rfl (v := false) rfl rfl (ow_load (v := .int .i64 4) ty3 H rfl 0 rfl rfl rfl rfl ?_)
              refine sr_want rfl (j := 5) (d := 82) rfl rfl rfl (v := false) rfl rfl (ow_neq rfl rfl ?_)
              refine sr_op rfl rfl (ow_pick (v := .bool (!decide ((4 : Int) = 4))) rfl rfl ?_)
              exact sr_live [87] (again _ _ ⟨_, _, rfl, H, by rw [hg] <;> rfl⟩)
            · refine sr_pass rfl (j := 5) (d := 82) rfl rfl rfl (u := true) (v := false) rfl rfl ?_
              refine sr_pass rfl (j := 5) (d := 82) rfl rfl rfl (u := true) (v := false) rfl rfl ?_
              refine sr_pass rfl (j := 5) (d := 82) rfl rfl rfl (u := true) (v := false) rfl rfl ?_
              refine sr_pass rfl (j := 5) (d := 82) rfl rfl rfl (u := true) (v := false) rfl rfl ?_
              refine sr_op rfl rfl (ow_pick (v := .bool true) rfl rfl ?_)
              exact sr_live [87] (again _ _ ⟨_, _, rfl, H, by rw [hg] <;> rfl⟩)
          rintro _ _ ⟨r, _, rfl, H, rfl⟩
          refine sr_op rfl rfl (ow_callp en93 rfl (must_c H _ _) ?_ ?_)
          rotate_left
          · rintro ch9 w9 ⟨hm36, rfl, H⟩
            exact (E.pan (Lo := [(g19, Ob [.int .i64 y17.kind, .int .i64 y17.n, .int .i64 y17.no, .string y17.name, .slice A17 y17.l.length c17] 26), (g18, Ob [.int .i64 (i : Int)] 3), (g13, Ob [.slice Ae ((exprs p).length) ce] 24), (g1, Ob [.string p.name, .slice Ak p.kinds.length ck, .slice Ao p.offices.length co, .slice Ar p.rules.length cr, .int .i64 p.change.kind, .int .i64 p.change.n, .int .i64 p.change.no, .string p.change.name, .slice Ac p.change.l.length cc, .int .i64 p.mode] 28)]) (Le.refl _) (H.drop 1) ⟨rfl, part_no hpre (by rw [partOk, hcf, hk, Bool.true_and]; exact hm36)⟩).one
          rintro _ w9 ⟨rfl, hm36, H⟩
          refine sr_nil ?_
          refine st_inBlock ?_
          exact E.on (Lo := [(g19, Ob [.int .i64 y17.kind, .int .i64 y17.n, .int .i64 y17.no, .string y17.name, .slice A17 y17.l.length c17] 26), (g18, Ob [.int .i64 (i : Int)] 3), (g13, Ob [.slice Ae ((exprs p).length) ce] 24), (g1, Ob [.string p.name, .slice Ak p.kinds.length ck, .slice Ao p.offices.length co, .slice Ar p.rules.length cr, .int .i64 p.change.kind, .int .i64 p.change.n, .int .i64 p.change.no, .string p.change.name, .slice Ac p.change.l.length cc, .int .i64 p.mode] 28)]) (Le.refl _) (H.drop 1) ⟨rfl, all_snoc hJa (by rw [partOk, hcf, hk, Bool.true_and]; exact hm36), mem_snoc hJb (depth_in hsx hpre)⟩
        · skip
          refine st_region ?_
          refine sr_op rfl rfl (ow_alloc ty110 H [.int .i64 0, .int .i64 0, .int .i64 0, .string ⟨#[]⟩, .slice none 0 0, .int .i64 0] rfl (fun g37 _ H => ?_))
          refine sr_op rfl rfl (ow_store ty110 H rfl (v := .agg #[.int .i64 q20.1.kind, .int .i64 q20.1.n, .int .i64 q20.1.no, .string q20.1.name, .slice Aq q20.1.l.length cq, .int .i64 (q20.2 : Int)]) rfl [.int .i64 q20.1.kind, .int .i64 q20.1.n, .int .i64 q20.1.no, .string q20.1.name, .slice Aq q20.1.l.length cq, .int .i64 (q20.2 : Int)] rfl rfl rfl 0 rfl rfl (fun _ H => ?_))
          refine sr_nil ?_
          refine st_begin hb1 H 1 rfl rfl (fun _ H => ?_)
          refine st_block ?_
          refine st_seq ?_
          · refine st_draw (F := (fun w_ => ∃ I2, Le I120 I2 ∧ Hp B I2 w_ [(g37, Ob [.int .i64 q20.1.kind, .int .i64 q20.1.n, .int .i64 q20.1.no, .string q20.1.name, .slice Aq q20.1.l.length cq, .int .i64 (q20.2 : Int)] 110), (g19, Ob [.int .i64 y17.kind, .int .i64 y17.n, .int .i64 y17.no, .string y17.name, .slice A17 y17.l.length c17] 26), (g18, Ob [.int .i64 (i : Int)] 3), (g13, Ob [.slice Ae ((exprs p).length) ce] 24), (g1, Ob [.string p.name, .slice Ak p.kinds.length ck, .slice Ao p.offices.length co, .slice Ar p.rules.length cr, .int .i64 p.change.kind, .int .i64 p.change.n, .int .i64 p.change.no, .string p.change.name, .slice Ac p.change.l.length cc, .int .i64 p.mode] 28)])) (p0 := [0, 1, 2]) (plan := [(3, [4, 5, 6, 7, 8, 9, 10, 11], []), (12, [13], []), (14, [], [])]) [] [] [(64, .int .i64 q20.1.kind), (63, .pointer (some ⟨g37, 0, none⟩)), (62, .pointer (some ⟨g37, 0, none⟩))] (by kernel_rfl) rfl ?_ ⟨_, Le.refl _, H.drew.pick [0, 2, 3, 4, 5] (by decide)⟩ ?_
            · refine ⟨kn_op rfl rfl (wantB_none rfl) fun _ hF2 => ?_, ?_⟩
              · obtain ⟨_, hle2, H2⟩ := hF2
                refine  (ow_fieldAddr fd110_0 ty26 rfl rfl (r := 0) rfl ?_)
                exact ⟨rfl, rfl⟩
              refine ⟨kn_op rfl rfl (wantB_none rfl) fun _ hF2 => ?_, ?_⟩
              · obtain ⟨_, hle2, H2⟩ := hF2
                refine  (ow_fieldAddr fd26_0 ty3 rfl rfl (r := 0) rfl ?_)
                exact ⟨rfl, rfl⟩
              refine ⟨kn_op rfl rfl (wantB_none rfl) fun _ hF2 => ?_, ?_⟩
              · obtain ⟨_, hle2, H2⟩ := hF2
                refine  (ow_load (v := .int .i64 q20.1.kind) ty3 H2 rfl 0 rfl rfl rfl rfl ?_)
                exact ⟨rfl, rfl⟩
              exact trivial
            have H := H.drew
            refine cw_op rfl (wantB_none rfl) (ow_call en69 rfl (within_c H q20.1.kind 1 4) ?_)
            rintro _ _ ⟨rfl, H⟩
            refine af_some [(73, undef), (72, undef), (71, undef), (70, undef), (69, undef), (68, undef), (67, undef), (66, .bool (withinB q20.1.kind 1 4))] (fun w_ => ∃ I2, Le I120 I2 ∧ Hp B I2 w_ [(g37, Ob [.int .i64 q20.1.kind, .int .i64 q20.1.n, .int .i64 q20.1.no, .string q20.1.name, .slice Aq q20.1.l.length cq, .int .i64 (q20.2 : Int)] 110), (g19, Ob [.int .i64 y17.kind, .int .i64 y17.n, .int .i64 y17.no, .string y17.name, .slice A17 y17.l.length c17] 26), (g18, Ob [.int .i64 (i : Int)] 3), (g13, Ob [.slice Ae ((exprs p).length) ce] 24), (g1, Ob [.string p.name, .slice Ak p.kinds.length ck, .slice Ao p.offices.length co, .slice Ar p.rules.length cr, .int .i64 p.change.kind, .int .i64 p.change.n, .int .i64 p.change.no, .string p.change.name, .slice Ac p.change.l.length cc, .int .i64 p.mode] 28)]) rfl ⟨_, Le.refl _, H.pick [0, 2, 3, 4, 5] (by decide)⟩ ?_ ?_
            · refine ⟨kn_op rfl rfl (wantB_none rfl) fun _ hF2 => ?_, ?_⟩
              · obtain ⟨_, hle2, H2⟩ := hF2
                refine  (ow_move (v := .bool (withinB q20.1.kind 1 4)) rfl ?_)
                exact ⟨rfl, rfl⟩
              refine ⟨kn_pass rfl rfl ((wantB_some (j := 4) rfl rfl (d := 66) rfl rfl (u := false) (by exact congrArg Value.bool hk)).trans rfl) rfl, ?_⟩
              refine ⟨kn_pass rfl rfl ((wantB_some (j := 4) rfl rfl (d := 66) rfl rfl (u := false) (by exact congrArg Value.bool hk)).trans rfl) rfl, ?_⟩
              refine ⟨kn_pass rfl rfl ((wantB_some (j := 4) rfl rfl (d := 66) rfl rfl (u := false) (by exact congrArg Value.bool hk)).trans rfl) rfl, ?_⟩
              refine ⟨kn_pass rfl rfl ((wantB_some (j := 4) rfl rfl (d := 66) rfl rfl (u := false) (by exact congrArg Value.bool hk)).trans rfl) rfl, ?_⟩
              refine ⟨kn_pass rfl rfl ((wantB_some (j := 4) rfl rfl (d := 66) rfl rfl (u := false) (by exact congrArg Value.bool hk)).trans rfl) rfl, ?_⟩
              refine ⟨kn_pass rfl rfl ((wantB_some (j := 4) rfl rfl (d := 66) rfl rfl (u := false) (by exact congrArg Value.bool hk)).trans rfl) rfl, ?_⟩
              refine ⟨kn_pass rfl rfl ((wantB_some (j := 4) rfl rfl (d := 66) rfl rfl (u := false) (by exact congrArg Value.bool hk)).trans rfl) rfl, ?_⟩
              exact trivial
            refine cw_pass rfl ((wantB_some (j := 4) rfl rfl (d := 66) rfl rfl (u := false) (by exact congrArg Value.bool hk)).trans rfl) ?_
            refine af_some [(75, .bool false)] (fun w_ => ∃ I2, Le I120 I2 ∧ Hp B I2 w_ [(g37, Ob [.int .i64 q20.1.kind, .int .i64 q20.1.n, .int .i64 q20.1.no, .string q20.1.name, .slice Aq q20.1.l.length cq, .int .i64 (q20.2 : Int)] 110), (g19, Ob [.int .i64 y17.kind, .int .i64 y17.n, .int .i64 y17.no, .string y17.name, .slice A17 y17.l.length c17] 26), (g18, Ob [.int .i64 (i : Int)] 3), (g13, Ob [.slice Ae ((exprs p).length) ce] 24), (g1, Ob [.string p.name, .slice Ak p.kinds.length ck, .slice Ao p.offices.length co, .slice Ar p.rules.length cr, .int .i64 p.change.kind, .int .i64 p.change.n, .int .i64 p.change.no, .string p.change.name, .slice Ac p.change.l.length cc, .int .i64 p.mode] 28)]) rfl ⟨_, Le.refl _, H.pick [0, 2, 3, 4, 5] (by decide)⟩ ?_ ?_
            · refine ⟨kn_op rfl rfl (wantB_none rfl) fun _ hF2 => ?_, ?_⟩
              · obtain ⟨_, hle2, H2⟩ := hF2
                refine  (ow_pick (a := false) (v := .bool false) (congrArg Value.bool hk) rfl ?_)
                exact ⟨rfl, rfl⟩
              exact trivial
            refine cw_op rfl (wantB_none rfl) (ow_callp en93 rfl (must_c H _ _) ?_ ?_)
            rotate_left
            · rintro ch9 w9 ⟨hm38, rfl, H⟩
              exact (E.pan (Lo := [(g19, Ob [.int .i64 y17.kind, .int .i64 y17.n, .int .i64 y17.no, .string y17.name, .slice A17 y17.l.length c17] 26), (g18, Ob [.int .i64 (i : Int)] 3), (g13, Ob [.slice Ae ((exprs p).length) ce] 24), (g1, Ob [.string p.name, .slice Ak p.kinds.length ck, .slice Ao p.offices.length co, .slice Ar p.rules.length cr, .int .i64 p.change.kind, .int .i64 p.change.n, .int .i64 p.change.no, .string p.change.name, .slice Ac p.change.l.length cc, .int .i64 p.mode] 28)]) (Le.refl _) (H.drop 1) ⟨rfl, part_no hpre (by rw [partOk, kindOk0 hk, Bool.false_and])⟩)
            rintro _ w9 ⟨rfl, hm38, H⟩
            cases hm38
      · intro r2 I2 Lo2 _ hle2 hJ2 H
        obtain ⟨rfl, hJa, hJb⟩ := hJ2
        have H : Hp B I2 _ ((g19, Ob [.int .i64 y17.kind, .int .i64 y17.n, .int .i64 y17.no, .string y17.name, .slice A17 y17.l.length c17] 26) :: (g18, Ob [.int .i64 (i : Int)] 3) :: (g13, Ob [.slice Ae ((exprs p).length) ce] 24) :: (g1, Ob [.string p.name, .slice Ak p.kinds.length ck, .slice Ao p.offices.length co, .slice Ar p.rules.length cr, .int .i64 p.change.kind, .int .i64 p.change.n, .int .i64 p.change.no, .string p.change.name, .slice Ac p.change.l.length cc, .int .i64 p.mode] 28) :: (dfs (r2 :: rs) ++ L)) := H.perm (List.perm_middle (l₁ := [(g19, Ob [.int .i64 y17.kind, .int .i64 y17.n, .int .i64 y17.no, .string y17.name, .slice A17 y17.l.length c17] 26), (g18, Ob [.int .i64 (i : Int)] 3), (g13, Ob [.slice Ae ((exprs p).length) ce] 24), (g1, Ob [.string p.name, .slice Ak p.kinds.length ck, .slice Ao p.offices.length co, .slice Ar p.rules.length cr, .int .i64 p.change.kind, .int .i64 p.change.n, .int .i64 p.change.no, .string p.change.name, .slice Ac p.change.l.length cc, .int .i64 p.mode] 28)]))
        have hI9 := (hI2.trans hI3).trans hle2
        have hall := hall.mono hle2
        have hg := hg.mono hle2
        refine st_inBlock ?_
        refine st_inBlock ?_
        refine st_region ?_
        refine sr_op rfl rfl (ow_add (r := ((i + 1 : Nat) : Int)) rfl rfl (inc_i64 (by omega)) ?_)
        refine sr_op rfl rfl (ow_move (v := .int .i64 ((i + 1 : Nat) : Int)) rfl ?_)
        refine sr_nil ?_
        exact st_inLoop (st_live [1, 4, 52, 53, 54] (ih15 _ _ _ _ (by omega) ⟨i + 1, r2 :: rs, I2, _, rfl, rfl, rfl, H.drop 2, by omega, hI9, hall, hg, by rw [ha, formF_step he17, hJa, Bool.true_and]⟩))
      · intro r2 c2 I2 Lo2 _ hle2 hS2 H
        exact hS2.elim
      · intro r2 ch2 I2 Lo2 _ hle2 hT2 H
        have H : Hp B I2 _ (dfs (r2 :: rs) ++ L) := H.sub ((List.sublist_append_right _ _).cons_cons _)
        have hI9 := (hI2.trans hI3).trans hle2
        obtain ⟨rfl, hT2⟩ := hT2
        exact (pk_marks (r2 :: rs) (ds := []) (fun _ H => hP _ _ ⟨I2, hI9, H, .inr ⟨rfl, by rw [formB, ha, formF_step he17, hT2, Bool.false_and, Bool.and_false]⟩⟩) H).one
    · have hc16 := of_decide_eq_false hc16
      refine st_exit rfl ?_
      have ht : formF (((exprs p).length : Int) - 1) (exprs p) 0 = true := by rw [ha, List.drop_of_length_le (by omega)]; rfl
      exact st_end hb (rn_marks rs (ds := []) (fun _ H => hR _ _ _ (res_run (vs := []) Tryd.results60 rfl) ⟨I2, hI2, H, .inl ⟨rfl, by rw [formB, ht, hru0, (show _ = true from hm2)]; rfl⟩⟩) (H.drop 2))
end Go.Proofs.YtbbflenaeihmeaaDoor
