/-
  Walks: names, the kinds of expressions.
-/
import Derived.Test.YtbbflenaeihmeaaDoorP6
set_option linter.unusedVariables false
set_option linter.unusedSimpArgs false
set_option maxRecDepth 10000
set_option maxHeartbeats 4000000
namespace Go.Proofs.YtbbflenaeihmeaaDoor
open Go Go.RowKit

def offOk (off : List ByteArray) (q : Pt) : Bool := !isNamed q.1.kind || decide (0 ≤ idx off q.1.name)
def namedX (off : List ByteArray) (x : Ex) : Bool := (partsX x 1).all (offOk off)
def namesB (p : Po) : Bool := ((freeB p.name && distB p.offices) && distB p.kinds) && (exprs p).all (namedX p.offices)
theorem depth_in {x : Ex} {pre : List Pt} {q : Pt} (hs : sizeB x = true) (hpre : pre ++ [q] <+: partsX x 1) : q.2 ≤ 1000000 := by
  obtain ⟨t, ht⟩ := hpre
  unfold sizeB at hs
  rw [← ht] at hs
  simp [depthB] at hs
  omega
theorem part_no {x : Ex} {f : Pt → Bool} {pre : List Pt} {q : Pt} (hpre : pre ++ [q] <+: partsX x 1) (h : f q = false) : (partsX x 1).all f = false := by
  obtain ⟨t, ht⟩ := hpre
  rw [← ht, List.all_append, List.all_append]
  simp [h]
theorem all_snoc {f : Pt → Bool} {pre : List Pt} {q : Pt} (h : pre.all f = true) (hq : f q = true) : (pre ++ [q]).all f = true := by
  rw [List.all_append, h]
  simp [hq]
theorem mem_snoc {pre : List Pt} {q : Pt} {Q : Pt → Prop} (h : ∀ q_, q_ ∈ pre → Q q_) (hq : Q q) : ∀ q_, q_ ∈ pre ++ [q] → Q q_ := by
  intro q_ h_
  rcases List.mem_append.1 h_ with h_ | h_
  · exact h q_ h_
  · have : q_ = q := by simpa using h_
    subst this
    exact hq
theorem sizes_len {p : Po} (h : sizesB p = true) : p.offices.length ≤ 32 ∧ p.kinds.length ≤ 16 ∧ p.rules.length ≤ 16 := by
  simp only [sizesB, Bool.and_eq_true, decide_eq_true_eq] at h
  omega
theorem sizes_at {p : Po} (h : sizesB p = true) {x : Ex} {i : Nat} (hx : (exprs p)[i]? = some x) : sizeB x = true := by
  simp only [sizesB, Bool.and_eq_true] at h
  exact List.all_eq_true.1 h.2 x (List.mem_of_getElem? hx)
theorem names_c {B I L w} (H : Hp B I w L) {p : Po} {us : List Value} (hp : RepL I (encPo p) us) (hsz : sizesB p = true) : Calls Tryd.prog 59 #[.agg us.toArray] w (fun q w' => ∃ I', Le I I' ∧ Hp B I' w' L ∧ ((q = .returned (.tuple #[]) ∧ namesB p = true) ∨ (q = .panicked (stopV 201) ∧ namesB p = false))) := by
  have hp0 := hp
  obtain ⟨hlo, hlk, hlr⟩ := sizes_len hsz
  obtain ⟨v1, v2, v3, v4, rfl, hpn, hpk, hpo, hpr, hck, hcn, hcno, hcs, hcl, hpm⟩ := po_iff.1 hp
  obtain ⟨Ak, ck, rfl, hckl, hckm, hpk⟩ := RepS.open_ hpk
  obtain ⟨Ao, co, rfl, hcol, hcom, hpo⟩ := RepS.open_ hpo
  obtain ⟨Ar, cr, rfl, hcrl, hcrm, hpr⟩ := RepS.open_ hpr
  obtain ⟨Ac, cc, rfl, hccl, hccm, hcl⟩ := RepS.open_ hcl
  refine calls_st (n := 43) Tryd.func59 rfl rfl rfl ?_
  intro G bF cs hb hfn hR hP
  simp only [ini]
  refine st_seq ?_
  refine st_region ?_
  refine sr_op rfl rfl (ow_box H (v := .agg #[.string p.name, .slice Ak p.kinds.length ck, .slice Ao p.offices.length co, .slice Ar p.rules.length cr, .int .i64 p.change.kind, .int .i64 p.change.n, .int .i64 p.change.no, .string p.change.name, .slice Ac p.change.l.length cc, .int .i64 p.mode]) rfl [.string p.name, .slice Ak p.kinds.length ck, .slice Ao p.offices.length co, .slice Ar p.rules.length cr, .int .i64 p.change.kind, .int .i64 p.change.n, .int .i64 p.change.no, .string p.change.name, .slice Ac p.change.l.length cc, .int .i64 p.mode] rfl (fun g1 _ H => ?_))
  refine sr_nil ?_
  refine st_seq ?_
  refine st_region ?_
  refine sr_op rfl rfl (ow_fieldAddr fd28_0 ty9 rfl rfl (r := 0) rfl ?_)
  refine sr_op rfl rfl (ow_load (v := .string p.name) ty9 H rfl 0 rfl rfl rfl rfl ?_)
  refine sr_op rfl rfl (ow_call en96 rfl (isFree_c H p.name hpn) ?_)
  rintro _ _ ⟨rfl, H⟩
  refine sr_op rfl rfl (ow_move (v := .bool (freeB p.name)) rfl ?_)
  refine sr_cut 4 (fun m_ w_ => ∃ (r_ : Sl) (v_ : Bool), m_ = (12, .bool v_) :: (1, .pointer (some ⟨g1, 0, none⟩)) :: r_ ∧ Hp B I w_ ((g1, Ob [.string p.name, .slice Ak p.kinds.length ck, .slice Ao p.offices.length co, .slice Ar p.rules.length cr, .int .i64 p.change.kind, .int .i64 p.change.n, .int .i64 p.change.no, .string p.change.name, .slice Ac p.change.l.length cc, .int .i64 p.mode] 28) :: L) ∧ v_ = ((freeB p.name) && (distB p.offices))) (fun again => ?_) ?_
  · rcases hg : freeB p.name with _ | _
    · refine sr_pass rfl (j := 3) (d := 8) rfl rfl rfl (u := false) (v := true) rfl rfl ?_
      refine sr_pass rfl (j := 3) (d := 8) rfl rfl rfl (u := false) (v := true) rfl rfl ?_
      refine sr_pass rfl (j := 3) (d := 8) rfl rfl rfl (u := false) (v := true) rfl rfl ?_
      refine sr_op rfl rfl (ow_pick (v := .bool false) rfl rfl ?_)
      exact sr_live [12, 1] (again _ _ ⟨_, _, rfl, H, by rw [hg] <;> rfl⟩)
    · refine sr_want rfl (j := 3) (d := 8) rfl rfl rfl (v := true) rfl rfl (ow_fieldAddr fd28_2 ty22 rfl rfl (r := 2) rfl ?_)
      refine sr_want rfl (j := 3) (d := 8) rfl rfl rfl (v := true) rfl rfl (ow_load (v := .slice Ao p.offices.length co) ty22 H rfl 0 rfl rfl rfl rfl ?_)
      refine sr_want rfl (j := 3) (d := 8) rfl rfl rfl (v := true) rfl rfl (ow_call en97 rfl (distinct_c H hpo) ?_)
      rintro _ _ ⟨rfl, H⟩
      refine sr_op rfl rfl (ow_pick (v := .bool (distB p.offices)) rfl rfl ?_)
      exact sr_live [12, 1] (again _ _ ⟨_, _, rfl, H, by rw [hg] <;> rfl⟩)
  rintro _ _ ⟨r, _, rfl, H, rfl⟩
  refine sr_op rfl rfl (ow_move (v := .bool ((freeB p.name) && (distB p.offices))) rfl ?_)
  refine sr_cut 4 (fun m_ w_ => ∃ (r_ : Sl) (v_ : Bool), m_ = (17, .bool v_) :: (1, .pointer (some ⟨g1, 0, none⟩)) :: r_ ∧ Hp B I w_ ((g1, Ob [.string p.name, .slice Ak p.kinds.length ck, .slice Ao p.offices.length co, .slice Ar p.rules.length cr, .int .i64 p.change.kind, .int .i64 p.change.n, .int .i64 p.change.no, .string p.change.name, .slice Ac p.change.l.length cc, .int .i64 p.mode] 28) :: L) ∧ v_ = (((freeB p.name) && (distB p.offices)) && (distB p.kinds))) (fun again => ?_) ?_
  · rcases hg : (freeB p.name) && (distB p.offices) with _ | _
    · refine sr_pass rfl (j := 8) (d := 13) rfl rfl rfl (u := false) (v := true) rfl rfl ?_
      refine sr_pass rfl (j := 8) (d := 13) rfl rfl rfl (u := false) (v := true) rfl rfl ?_
      refine sr_pass rfl (j := 8) (d := 13) rfl rfl rfl (u := false) (v := true) rfl rfl ?_
      refine sr_op rfl rfl (ow_pick (v := .bool false) rfl rfl ?_)
      exact sr_live [17, 1] (again _ _ ⟨_, _, rfl, H, by rw [hg] <;> rfl⟩)
    · refine sr_want rfl (j := 8) (d := 13) rfl rfl rfl (v := true) rfl rfl (ow_fieldAddr fd28_1 ty22 rfl rfl (r := 1) rfl ?_)
      refine sr_want rfl (j := 8) (d := 13) rfl rfl rfl (v := true) rfl rfl (ow_load (v := .slice Ak p.kinds.length ck) ty22 H rfl 0 rfl rfl rfl rfl ?_)
      refine sr_want rfl (j := 8) (d := 13) rfl rfl rfl (v := true) rfl rfl (ow_call en97 rfl (distinct_c H hpk) ?_)
      rintro _ _ ⟨rfl, H⟩
      refine sr_op rfl rfl (ow_pick (v := .bool (distB p.kinds)) rfl rfl ?_)
      exact sr_live [17, 1] (again _ _ ⟨_, _, rfl, H, by rw [hg] <;> rfl⟩)
  rintro _ _ ⟨r, _, rfl, H, rfl⟩
  refine sr_op rfl rfl (ow_callp en93 rfl (must_c H _ _) ?_ ?_)
  rotate_left
  · rintro ch9 w9 ⟨hm2, rfl, H⟩
    exact (hP _ _ ⟨I, Le.refl I, H.drop 1, .inr ⟨rfl, by rw [namesB, bool4n hm2]⟩⟩).one
  rintro _ w9 ⟨rfl, hm2, H⟩
  refine sr_nil ?_
  refine st_seq ?_
  refine st_region ?_
  refine sr_op rfl rfl (ow_load (v := .agg #[.string p.name, .slice Ak p.kinds.length ck, .slice Ao p.offices.length co, .slice Ar p.rules.length cr, .int .i64 p.change.kind, .int .i64 p.change.n, .int .i64 p.change.no, .string p.change.name, .slice Ac p.change.l.length cc, .int .i64 p.mode]) ty28 H rfl 0 rfl rfl rfl rfl ?_)
  have hb6 : p.rules.length ≤ 1000000 := by omega
  have hel : (exprs p).length ≤ 1000000 := by simp [exprs]; omega
  have hp := hp0
  refine sr_op rfl rfl (ow_call en94 rfl (expressions_c H hp hb6) ?_)
  rintro _ _ ⟨I2, hI2, H, hall⟩
  have hpo := hpo.mono hI2
  obtain ⟨Ae, ce, rfl, hcel, hcem, hall⟩ := RepS.open_ hall
  refine sr_op rfl rfl (ow_lenS sl24 rfl rfl ?_)
  refine sr_op rfl rfl (ow_move (v := .int .i64 0) rfl ?_)
  refine sr_nil ?_
  refine st_block ?_
  refine st_loop ?_
  refine st_live [1, 20, 21, 22] ?_
  refine st_indD (fun d_ m_ ds_ w_ => ∃ (i : Nat) (rs : List Nat) (I2 : Im) (r_ : Sl), d_ = (exprs p).length - i ∧ m_ = (1, .pointer (some ⟨g1, 0, none⟩)) :: (20, .slice Ae ((exprs p).length) ce) :: (21, .int .i64 ((exprs p).length : Int)) :: (22, .int .i64 (i : Int)) :: r_ ∧ ds_ = mks rs ++ [] ∧ Hp B I2 w_ ((g1, Ob [.string p.name, .slice Ak p.kinds.length ck, .slice Ao p.offices.length co, .slice Ar p.rules.length cr, .int .i64 p.change.kind, .int .i64 p.change.n, .int .i64 p.change.no, .string p.change.name, .slice Ac p.change.l.length cc, .int .i64 p.mode] 28) :: (dfs rs ++ L)) ∧ i ≤ (exprs p).length ∧ Le I I2 ∧ RepS encEx I2 5 (exprs p) (.slice Ae (exprs p).length ce) ∧ RepS encS I2 1 p.offices (.slice Ao p.offices.length co) ∧ ((exprs p).take i).all (namedX p.offices) = true) _ ⟨0, [], I2, _, rfl, rfl, rfl, H, Nat.zero_le _, hI2, hall, hpo, rfl⟩ ?_
  rintro _ _ _ _ ⟨i, rs, I2, r3, rfl, rfl, rfl, H, hi, hI2, hall, hpo, ha⟩ ih4
  refine st_seq ?_
  refine st_region ?_
  refine sr_op rfl rfl (ow_lss rfl rfl ?_)
  refine sr_nil ?_
  refine st_seq ?_
  refine st_cond (decide ((i : Int) < ((exprs p).length : Int))) rfl (fun hc5 => ?_) (fun hc5 => ?_)
  · have hc5 := of_decide_eq_true hc5
    refine st_skip ?_
    refine st_seq ?_
    refine st_block ?_
    refine st_seq ?_
    refine st_region ?_
    obtain ⟨y6, he6⟩ : ∃ q_, (exprs p)[i]? = some q_ := ⟨_, List.getElem?_eq_getElem (by omega)⟩
    obtain ⟨b6, o6, us6, hA6, hat6, hul6, hr6⟩ := RepS.get hall he6
    obtain ⟨v6, rfl, y6k, y6n, y6o, y6s, y6l⟩ := ex_iff.1 hr6
    obtain ⟨A6, c6, rfl, y6c, y6m, y6l⟩ := RepS.open_ y6l
    refine sr_op rfl rfl (ow_indexAddrA sl24 ty26 hA6 rfl rfl (by omega) (by omega) (r := o6 + i * 5) rfl ?_)
    refine sr_op rfl rfl (ow_loadI (v := .agg #[.int .i64 y6.kind, .int .i64 y6.n, .int .i64 y6.no, .string y6.name, .slice A6 y6.l.length c6]) ty26 H rfl hat6 rfl rfl rfl ?_)
    refine sr_op rfl rfl (ow_alloc ty26 H [.int .i64 0, .int .i64 0, .int .i64 0, .string ⟨#[]⟩, .slice none 0 0] rfl (fun g7 _ H => ?_))
    refine sr_op rfl rfl (ow_store ty26 H rfl (v := .agg #[.int .i64 y6.kind, .int .i64 y6.n, .int .i64 y6.no, .string y6.name, .slice A6 y6.l.length c6]) rfl [.int .i64 y6.kind, .int .i64 y6.n, .int .i64 y6.no, .string y6.name, .slice A6 y6.l.length c6] rfl rfl rfl 0 rfl rfl (fun _ H => ?_))
    refine sr_nil ?_
    refine st_seq ?_
    refine st_region ?_
    refine sr_op rfl rfl (ow_load (v := .agg #[.int .i64 y6.kind, .int .i64 y6.n, .int .i64 y6.no, .string y6.name, .slice A6 y6.l.length c6]) ty26 H rfl 0 rfl rfl rfl rfl ?_)
    refine sr_op rfl rfl (ow_call en95 rfl (parts_c H (ex_iff.2 ⟨_, rfl, y6k, y6n, y6o, y6s, y6l⟩) _) ?_)
    rintro _ _ ⟨I3, gx2, gd2, hI3, H, rfl, hax2, had2⟩
    have hall := hall.mono hI3
    have hpo := hpo.mono hI3
    refine sr_nil ?_
    refine st_block ?_
    have hsx := sizes_at hsz he6
    refine st_range (f := 116) (cap := [.pointer (some ⟨gx2, 0, none⟩), .pointer (some ⟨gd2, 0, none⟩)]) (parts_it _ (x := y6) (d := 1) (Nat.le_refl _) hax2 (ex_iff.2 ⟨_, rfl, y6k, y6n, y6o, y6s, y6l.mono hI3⟩) had2 (by omega)) hb hfn Tryd.func59 rfl en116 [(g7, Ob [.int .i64 y6.kind, .int .i64 y6.n, .int .i64 y6.no, .string y6.name, .slice A6 y6.l.length c6] 26), (g1, Ob [.string p.name, .slice Ak p.kinds.length ck, .slice Ao p.offices.length co, .slice Ar p.rules.length cr, .int .i64 p.change.kind, .int .i64 p.change.n, .int .i64 p.change.no, .string p.change.name, .slice Ac p.change.l.length cc, .int .i64 p.mode] 28)] (dfs rs ++ L) H (fun pre_ I_ L_ => L_ = [(g7, Ob [.int .i64 y6.kind, .int .i64 y6.n, .int .i64 y6.no, .string y6.name, .slice A6 y6.l.length c6] 26), (g1, Ob [.string p.name, .slice Ak p.kinds.length ck, .slice Ao p.offices.length co, .slice Ar p.rules.length cr, .int .i64 p.change.kind, .int .i64 p.change.n, .int .i64 p.change.no, .string p.change.name, .slice Ac p.change.l.length cc, .int .i64 p.mode] 28)] ∧ pre_.all (offOk p.offices) = true ∧ ∀ q_, q_ ∈ pre_ → q_.2 ≤ 1000000) (fun _ _ _ => False) (fun ch_ I_ L_ => ch_ = stopV 201 ∧ namedX p.offices y6 = false) ⟨rfl, rfl, fun _ h_ => by cases h_⟩ (fun pre_ q_ I_ L_ h_ => h_.2.2 q_ (by simp)) (fun pre_ I_ I_' L_ hle_ h_ => h_) ?_ ?_ ?_ ?_
    · intro pre8 q8 us8 I18 Lx8 Lo8 _ l8 rc8 G1 b1 cs1 hpre hle hJ hr hb1 E H
      obtain ⟨rfl, hJa, hJb⟩ := hJ
      obtain ⟨vq, rfl, hqk, hqn, hqo, hqs, hql, hqd⟩ := pt_iff.1 hr
      obtain ⟨Aq, cq, rfl, _, _, hql⟩ := RepS.open_ hql
      have hle9 := hle
      have hall := hall.mono hle
      have hpo := hpo.mono hle
      refine st_region ?_
      refine sr_op rfl rfl (ow_alloc ty110 H [.int .i64 0, .int .i64 0, .int .i64 0, .string ⟨#[]⟩, .slice none 0 0, .int .i64 0] rfl (fun g9 _ H => ?_))
      refine sr_op rfl rfl (ow_store ty110 H rfl (v := .agg #[.int .i64 q8.1.kind, .int .i64 q8.1.n, .int .i64 q8.1.no, .string q8.1.name, .slice Aq q8.1.l.length cq, .int .i64 (q8.2 : Int)]) rfl [.int .i64 q8.1.kind, .int .i64 q8.1.n, .int .i64 q8.1.no, .string q8.1.name, .slice Aq q8.1.l.length cq, .int .i64 (q8.2 : Int)] rfl rfl rfl 0 rfl rfl (fun _ H => ?_))
      refine sr_nil ?_
      refine st_begin hb1 H 1 rfl rfl (fun _ H => ?_)
      refine st_block ?_
      refine st_region ?_
      refine sr_op rfl rfl (ow_fieldAddr fd110_0 ty26 rfl rfl (r := 0) rfl ?_)
      refine sr_op rfl rfl (ow_load (v := .agg #[.int .i64 q8.1.kind, .int .i64 q8.1.n, .int .i64 q8.1.no, .string q8.1.name, .slice Aq q8.1.l.length cq]) ty26 H rfl 0 rfl rfl rfl rfl ?_)
      refine sr_op rfl rfl (ow_call en98 rfl (isNamed_c H q8.1.kind q8.1.n q8.1.no q8.1.name (.slice Aq q8.1.l.length cq)) ?_)
      rintro _ _ ⟨rfl, H⟩
      refine sr_op rfl rfl (ow_not rfl ?_)
      refine sr_op rfl rfl (ow_move (v := .bool (!(isNamed q8.1.kind))) rfl ?_)
      refine sr_cut 7 (fun m_ w_ => ∃ (r_ : Sl) (v_ : Bool), m_ = (40, .bool v_) :: r_ ∧ Hp B I18 w_ ((g9, Ob [.int .i64 q8.1.kind, .int .i64 q8.1.n, .int .i64 q8.1.no, .string q8.1.name, .slice Aq q8.1.l.length cq, .int .i64 (q8.2 : Int)] 110) :: (l8, .loop (rcS rc8 .busy none)) :: (g7, Ob [.int .i64 y6.kind, .int .i64 y6.n, .int .i64 y6.no, .string y6.name, .slice A6 y6.l.length c6] 26) :: (g1, Ob [.string p.name, .slice Ak p.kinds.length ck, .slice Ao p.offices.length co, .slice Ar p.rules.length cr, .int .i64 p.change.kind, .int .i64 p.change.n, .int .i64 p.change.no, .string p.change.name, .slice Ac p.change.l.length cc, .int .i64 p.mode] 28) :: Lx8) ∧ v_ = ((!(isNamed q8.1.kind)) || (decide (0 ≤ idx p.offices q8.1.name)))) (fun again => ?_) ?_
      · rcases hg : !(isNamed q8.1.kind) with _ | _
        · refine sr_want rfl (j := 4) (d := 33) rfl rfl rfl (v := false) rfl rfl (ow_fieldAddr fd28_2 ty22 rfl rfl (r := 2) rfl ?_)
          refine sr_want rfl (j := 4) (d := 33) rfl rfl rfl (v := false) rfl rfl (ow_load (v := .slice Ao p.offices.length co) ty22 H rfl 3 rfl rfl rfl rfl ?_)
          refine sr_want rfl (j := 4) (d := 33) rfl rfl rfl (v := false) rfl rfl (ow_fieldAddr fd110_0 ty26 rfl rfl (r := 0) rfl ?_)
          refine sr_want rfl (j := 4) (d := 33) rfl rfl rfl (v := false) rfl rfl (ow_fieldAddr fd26_3 ty9 rfl rfl (r := 3) rfl ?_)
          refine sr_want rfl (j := 4) (d := 33) rfl rfl rfl (v := false) rfl rfl (ow_load (v := .string q8.1.name) ty9 H rfl 0 rfl rfl rfl rfl ?_)
          refine sr_want rfl (j := 4) (d := 33) rfl rfl rfl (v := false) rfl rfl (ow_call en99 rfl (contains_c H hpo q8.1.name) ?_)
          rintro _ _ ⟨rfl, H⟩
          refine sr_op rfl rfl (ow_pick (v := .bool (decide (0 ≤ idx p.offices q8.1.name))) rfl rfl ?_)
          exact sr_live [40] (again _ _ ⟨_, _, rfl, H, by rw [hg] <;> rfl⟩)
        · refine sr_pass rfl (j := 4) (d := 33) rfl rfl rfl (u := true) (v := false) rfl rfl ?_
          refine sr_pass rfl (j := 4) (d := 33) rfl rfl rfl (u := true) (v := false) rfl rfl ?_
          refine sr_pass rfl (j := 4) (d := 33) rfl rfl rfl (u := true) (v := false) rfl rfl ?_
          refine sr_pass rfl (j := 4) (d := 33) rfl rfl rfl (u := true) (v := false) rfl rfl ?_
          refine sr_pass rfl (j := 4) (d := 33) rfl rfl rfl (u := true) (v := false) rfl rfl ?_
          refine sr_pass rfl (j := 4) (d := 33) rfl rfl rfl (u := true) (v := false) rfl rfl ?_
          refine sr_op rfl rfl (ow_pick (v := .bool true) rfl rfl ?_)
          exact sr_live [40] (again _ _ ⟨_, _, rfl, H, by rw [hg] <;> rfl⟩)
      rintro _ _ ⟨r, _, rfl, H, rfl⟩
      refine sr_op rfl rfl (ow_callp en93 rfl (must_c H _ _) ?_ ?_)
      rotate_left
      · rintro ch9 w9 ⟨hm10, rfl, H⟩
        exact (E.pan (Lo := [(g7, Ob [.int .i64 y6.kind, .int .i64 y6.n, .int .i64 y6.no, .string y6.name, .slice A6 y6.l.length c6] 26), (g1, Ob [.string p.name, .slice Ak p.kinds.length ck, .slice Ao p.offices.length co, .slice Ar p.rules.length cr, .int .i64 p.change.kind, .int .i64 p.change.n, .int .i64 p.change.no, .string p.change.name, .slice Ac p.change.l.length cc, .int .i64 p.mode] 28)]) (Le.refl _) (H.drop 1) ⟨rfl, part_no hpre (by unfold offOk; exact hm10)⟩).one
      rintro _ w9 ⟨rfl, hm10, H⟩
      refine sr_nil ?_
      refine st_inBlock ?_
      exact E.on (Lo := [(g7, Ob [.int .i64 y6.kind, .int .i64 y6.n, .int .i64 y6.no, .string y6.name, .slice A6 y6.l.length c6] 26), (g1, Ob [.string p.name, .slice Ak p.kinds.length ck, .slice Ao p.offices.length co, .slice Ar p.rules.length cr, .int .i64 p.change.kind, .int .i64 p.change.n, .int .i64 p.change.no, .string p.change.name, .slice Ac p.change.l.length cc, .int .i64 p.mode] 28)]) (Le.refl _) (H.drop 1) ⟨rfl, all_snoc hJa (by unfold offOk; exact hm10), mem_snoc hJb (depth_in hsx hpre)⟩
    · intro r2 I2 Lo2 _ hle2 hJ2 H
      obtain ⟨rfl, hJa, hJb⟩ := hJ2
      have H : Hp B I2 _ ((g7, Ob [.int .i64 y6.kind, .int .i64 y6.n, .int .i64 y6.no, .string y6.name, .slice A6 y6.l.length c6] 26) :: (g1, Ob [.string p.name, .slice Ak p.kinds.length ck, .slice Ao p.offices.length co, .slice Ar p.rules.length cr, .int .i64 p.change.kind, .int .i64 p.change.n, .int .i64 p.change.no, .string p.change.name, .slice Ac p.change.l.length cc, .int .i64 p.mode] 28) :: (dfs (r2 :: rs) ++ L)) := H.perm (List.perm_middle (l₁ := [(g7, Ob [.int .i64 y6.kind, .int .i64 y6.n, .int .i64 y6.no, .string y6.name, .slice A6 y6.l.length c6] 26), (g1, Ob [.string p.name, .slice Ak p.kinds.length ck, .slice Ao p.offices.length co, .slice Ar p.rules.length cr, .int .i64 p.change.kind, .int .i64 p.change.n, .int .i64 p.change.no, .string p.change.name, .slice Ac p.change.l.length cc, .int .i64 p.mode] 28)]))
      have hI9 := (hI2.trans hI3).trans hle2
      have hall := hall.mono hle2
      have hpo := hpo.mono hle2
      refine st_inBlock ?_
      refine st_inBlock ?_
      refine st_region ?_
      refine sr_op rfl rfl (ow_add (r := ((i + 1 : Nat) : Int)) rfl rfl (inc_i64 (by omega)) ?_)
      refine sr_op rfl rfl (ow_move (v := .int .i64 ((i + 1 : Nat) : Int)) rfl ?_)
      refine sr_nil ?_
      exact st_inLoop (st_live [1, 20, 21, 22] (ih4 _ _ _ _ (by omega) ⟨i + 1, r2 :: rs, I2, _, rfl, rfl, rfl, H.drop 1, by omega, hI9, hall, hpo, all_take he6 ha (by unfold namedX; exact hJa)⟩))
    · intro r2 c2 I2 Lo2 _ hle2 hS2 H
      exact hS2.elim
    · intro r2 ch2 I2 Lo2 _ hle2 hT2 H
      have H : Hp B I2 _ (dfs (r2 :: rs) ++ L) := H.sub ((List.sublist_append_right _ _).cons_cons _)
      have hI9 := (hI2.trans hI3).trans hle2
      obtain ⟨rfl, hT2⟩ := hT2
      exact (pk_marks (r2 :: rs) (ds := []) (fun _ H => hP _ _ ⟨I2, hI9, H, .inr ⟨rfl, by rw [namesB, all_bad he6 (f := namedX p.offices) hT2, Bool.and_false]⟩⟩) H).one
  · have hc5 := of_decide_eq_false hc5
    refine st_exit rfl ?_
    have ht : (exprs p).take i = exprs p := List.take_of_length_le (by omega)
    rw [ht] at ha
    exact st_end hb (rn_marks rs (ds := []) (fun _ H => hR _ _ _ (res_run (vs := []) Tryd.results59 rfl) ⟨I2, hI2, H, .inl ⟨rfl, by rw [namesB, bool4 hm2, ha]⟩⟩) (H.drop 1))
end Go.Proofs.YtbbflenaeihmeaaDoor
