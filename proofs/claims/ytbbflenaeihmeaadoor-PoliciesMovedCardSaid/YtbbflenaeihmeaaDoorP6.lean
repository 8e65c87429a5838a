/-
  Walks: sizes, names.
-/
import Derived.Test.YtbbflenaeihmeaaDoorP5
set_option linter.unusedVariables false
set_option linter.unusedSimpArgs false
set_option maxRecDepth 10000
set_option maxHeartbeats 4000000
namespace Go.Proofs.YtbbflenaeihmeaaDoor
open Go Go.RowKit

def depthB (q : Pt) : Bool := decide ((q.2 : Int) ≤ 16)
def sizeB (x : Ex) : Bool := decide (((partsX x 1).length : Int) ≤ 256) && (partsX x 1).all depthB
def sizesB (p : Po) : Bool := ((decide ((p.offices.length : Int) ≤ 32) && decide ((p.kinds.length : Int) ≤ 16)) && decide ((p.rules.length : Int) ≤ 16)) && (exprs p).all sizeB
theorem all_take {α : Type} {f : α → Bool} {l : List α} {i : Nat} {x : α} (he : l[i]? = some x) (h : (l.take i).all f = true) (hx : f x = true) : (l.take (i + 1)).all f = true := by
  rw [take_some he, List.all_append, h]
  simp [hx]
theorem all_bad {α : Type} {f : α → Bool} {l : List α} {i : Nat} {x : α} (he : l[i]? = some x) (hx : f x = false) : l.all f = false := by
  rw [List.all_eq_false]
  exact ⟨x, List.mem_of_getElem? he, by simp [hx]⟩
theorem size_no {x : Ex} {pre : List Pt} {q : Pt} (hpre : pre ++ [q] <+: partsX x 1) (h : (decide (((pre.length + 1 : Nat) : Int) ≤ 256) && decide ((q.2 : Int) ≤ 16)) = false) : sizeB x = false := by
  obtain ⟨t, ht⟩ := hpre
  unfold sizeB
  rw [← ht]
  rcases Bool.and_eq_false_iff.1 h with h | h
  · have : decide (((pre ++ [q] ++ t).length : Int) ≤ 256) = false := by
      have h1 := of_decide_eq_false h
      rw [decide_eq_false_iff_not]
      simp only [List.length_append, List.length_singleton]
      omega
    rw [this, Bool.false_and]
  · have : (pre ++ [q] ++ t).all depthB = false := by
      simp [List.all_append, depthB, h]
    rw [this, Bool.and_false]
theorem bool4 {a b c d : Bool} (h : ((a && b) && c) = true) : (((a && b) && c) && d) = d := by rw [h, Bool.true_and]
theorem bool4n {a b c d : Bool} (h : ((a && b) && c) = false) : (((a && b) && c) && d) = false := by rw [h, Bool.false_and]
theorem sizes_c {B I L w} (H : Hp B I w L) {p : Po} {us : List Value} (hp : RepL I (encPo p) us) : Calls Tryd.prog 58 #[.agg us.toArray] w (fun q w' => ∃ I', Le I I' ∧ Hp B I' w' L ∧ ((q = .returned (.tuple #[]) ∧ sizesB p = true) ∨ (q = .panicked (stopV 2) ∧ sizesB p = false))) := by
  have hp0 := hp
  obtain ⟨v1, v2, v3, v4, rfl, hpn, hpk, hpo, hpr, hck, hcn, hcno, hcs, hcl, hpm⟩ := po_iff.1 hp
  obtain ⟨Ak, ck, rfl, hckl, hckm, hpk⟩ := RepS.open_ hpk
  obtain ⟨Ao, co, rfl, hcol, hcom, hpo⟩ := RepS.open_ hpo
  obtain ⟨Ar, cr, rfl, hcrl, hcrm, hpr⟩ := RepS.open_ hpr
  obtain ⟨Ac, cc, rfl, hccl, hccm, hcl⟩ := RepS.open_ hcl
  refine calls_st (n := 44) Tryd.func58 rfl rfl rfl ?_
  intro G bF cs hb hfn hR hP
  simp only [ini]
  refine st_seq ?_
  refine st_region ?_
  refine sr_op rfl rfl (ow_box H (v := .agg #[.string p.name, .slice Ak p.kinds.length ck, .slice Ao p.offices.length co, .slice Ar p.rules.length cr, .int .i64 p.change.kind, .int .i64 p.change.n, .int .i64 p.change.no, .string p.change.name, .slice Ac p.change.l.length cc, .int .i64 p.mode]) rfl [.string p.name, .slice Ak p.kinds.length ck, .slice Ao p.offices.length co, .slice Ar p.rules.length cr, .int .i64 p.change.kind, .int .i64 p.change.n, .int .i64 p.change.no, .string p.change.name, .slice Ac p.change.l.length cc, .int .i64 p.mode] rfl (fun g1 _ H => ?_))
  refine sr_nil ?_
  refine st_seq ?_
  refine st_region ?_
  refine sr_op rfl rfl (ow_fieldAddr fd28_2 ty22 rfl rfl (r := 2) rfl ?_)
  refine sr_op rfl rfl (ow_load (v := .slice Ao p.offices.length co) ty22 H rfl 0 rfl rfl rfl rfl ?_)
  refine sr_op rfl rfl (ow_lenS sl22 rfl rfl ?_)
  refine sr_op rfl rfl (ow_leq rfl rfl ?_)
  refine sr_op rfl rfl (ow_move (v := .bool (decide ((p.offices.length : Int) ≤ 32))) rfl ?_)
  refine sr_cut 5 (fun m_ w_ => ∃ (r_ : Sl) (v_ : Bool), m_ = (15, .bool v_) :: (1, .pointer (some ⟨g1, 0, none⟩)) :: r_ ∧ Hp B I w_ ((g1, Ob [.string p.name, .slice Ak p.kinds.length ck, .slice Ao p.offices.length co, .slice Ar p.rules.length cr, .int .i64 p.change.kind, .int .i64 p.change.n, .int .i64 p.change.no, .string p.change.name, .slice Ac p.change.l.length cc, .int .i64 p.mode] 28) :: L) ∧ v_ = ((decide ((p.offices.length : Int) ≤ 32)) && (decide ((p.kinds.length : Int) ≤ 16)))) (fun again => ?_) ?_
  · rcases hg : decide ((p.offices.length : Int) ≤ 32) with _ | _
    · refine sr_pass rfl (j := 4) (d := 10) rfl rfl rfl (u := false) (v := true) rfl rfl ?_
      refine sr_pass rfl (j := 4) (d := 10) rfl rfl rfl (u := false) (v := true) rfl rfl ?_
      refine sr_pass rfl (j := 4) (d := 10) rfl rfl rfl (u := false) (v := true) rfl rfl ?_
      refine sr_pass rfl (j := 4) (d := 10) rfl rfl rfl (u := false) (v := true) rfl rfl ?_
      refine sr_op rfl rfl (ow_pick (v := .bool false) rfl rfl ?_)
      exact sr_live [15, 1] (again _ _ ⟨_, _, rfl, H, by rw [hg] <;> rfl⟩)
    · refine sr_want rfl (j := 4) (d := 10) rfl rfl rfl (v := true) rfl rfl (ow_fieldAddr fd28_1 ty22 rfl rfl (r := 1) rfl ?_)
      refine sr_want rfl (j := 4) (d := 10) rfl rfl rfl (v := true) rfl rfl (ow_load (v := .slice Ak p.kinds.length ck) ty22 H rfl 0 rfl rfl rfl rfl ?_)
      refine sr_want rfl (j := 4) (d := 10) rfl rfl rfl (v := true) rfl rfl (ow_lenS sl22 rfl rfl ?_)
      refine sr_want rfl (j := 4) (d := 10) rfl rfl rfl (v := true) rfl rfl (ow_leq rfl rfl ?_)
      refine sr_op rfl rfl (ow_pick (v := .bool (decide ((p.kinds.length : Int) ≤ 16))) rfl rfl ?_)
      exact sr_live [15, 1] (again _ _ ⟨_, _, rfl, H, by rw [hg] <;> rfl⟩)
  rintro _ _ ⟨r, _, rfl, H, rfl⟩
  refine sr_op rfl rfl (ow_move (v := .bool ((decide ((p.offices.length : Int) ≤ 32)) && (decide ((p.kinds.length : Int) ≤ 16)))) rfl ?_)
  refine sr_cut 5 (fun m_ w_ => ∃ (r_ : Sl) (v_ : Bool), m_ = (21, .bool v_) :: (1, .pointer (some ⟨g1, 0, none⟩)) :: r_ ∧ Hp B I w_ ((g1, Ob [.string p.name, .slice Ak p.kinds.length ck, .slice Ao p.offices.length co, .slice Ar p.rules.length cr, .int .i64 p.change.kind, .int .i64 p.change.n, .int .i64 p.change.no, .string p.change.name, .slice Ac p.change.l.length cc, .int .i64 p.mode] 28) :: L) ∧ v_ = (((decide ((p.offices.length : Int) ≤ 32)) && (decide ((p.kinds.length : Int) ≤ 16))) && (decide ((p.rules.length : Int) ≤ 16)))) (fun again => ?_) ?_
  · rcases hg : (decide ((p.offices.length : Int) ≤ 32)) && (decide ((p.kinds.length : Int) ≤ 16)) with _ | _
    · refine sr_pass rfl (j := 10) (d := 16) rfl rfl rfl (u := false) (v := true) rfl rfl ?_
      refine sr_pass rfl (j := 10) (d := 16) rfl rfl rfl (u := false) (v := true) rfl rfl ?_
      refine sr_pass rfl (j := 10) (d := 16) rfl rfl rfl (u := false) (v := true) rfl rfl ?_
      refine sr_pass rfl (j := 10) (d := 16) rfl rfl rfl (u := false) (v := true) rfl rfl ?_
      refine sr_op rfl rfl (ow_pick (v := .bool false) rfl rfl ?_)
      exact sr_live [21, 1] (again _ _ ⟨_, _, rfl, H, by rw [hg] <;> rfl⟩)
    · refine sr_want rfl (j := 10) (d := 16) rfl rfl rfl (v := true) rfl rfl (ow_fieldAddr fd28_3 ty23 rfl rfl (r := 3) rfl ?_)
      refine sr_want rfl (j := 10) (d := 16) rfl rfl rfl (v := true) rfl rfl (ow_load (v := .slice Ar p.rules.length cr) ty23 H rfl 0 rfl rfl rfl rfl ?_)
      refine sr_want rfl (j := 10) (d := 16) rfl rfl rfl (v := true) rfl rfl (ow_lenS sl23 rfl rfl ?_)
      refine sr_want rfl (j := 10) (d := 16) rfl rfl rfl (v := true) rfl rfl (ow_leq rfl rfl ?_)
      refine sr_op rfl rfl (ow_pick (v := .bool (decide ((p.rules.length : Int) ≤ 16))) rfl rfl ?_)
      exact sr_live [21, 1] (again _ _ ⟨_, _, rfl, H, by rw [hg] <;> rfl⟩)
  rintro _ _ ⟨r, _, rfl, H, rfl⟩
  refine sr_op rfl rfl (ow_callp en93 rfl (must_c H _ _) ?_ ?_)
  rotate_left
  · rintro ch9 w9 ⟨hm2, rfl, H⟩
    exact (hP _ _ ⟨I, Le.refl I, H.drop 1, .inr ⟨rfl, by rw [sizesB, bool4n hm2]⟩⟩).one
  rintro _ w9 ⟨rfl, hm2, H⟩
  refine sr_nil ?_
  refine st_seq ?_
  refine st_region ?_
  refine sr_op rfl rfl (ow_load (v := .agg #[.string p.name, .slice Ak p.kinds.length ck, .slice Ao p.offices.length co, .slice Ar p.rules.length cr, .int .i64 p.change.kind, .int .i64 p.change.n, .int .i64 p.change.no, .string p.change.name, .slice Ac p.change.l.length cc, .int .i64 p.mode]) ty28 H rfl 0 rfl rfl rfl rfl ?_)
  have hb6 : p.rules.length ≤ 1000000 := by simp only [Bool.and_eq_true, decide_eq_true_eq] at hm2; omega
  have hel : (exprs p).length ≤ 1000000 := by simp only [Bool.and_eq_true, decide_eq_true_eq] at hm2; simp [exprs]; omega
  have hp := hp0
  refine sr_op rfl rfl (ow_call en94 rfl (expressions_c H hp hb6) ?_)
  rintro _ _ ⟨I2, hI2, H, hall⟩
  obtain ⟨Ae, ce, rfl, hcel, hcem, hall⟩ := RepS.open_ hall
  refine sr_op rfl rfl (ow_lenS sl24 rfl rfl ?_)
  refine sr_op rfl rfl (ow_move (v := .int .i64 0) rfl ?_)
  refine sr_nil ?_
  refine st_block ?_
  refine st_loop ?_
  have H := H.drop 0
  refine st_live [24, 25, 26] ?_
  refine st_indD (fun d_ m_ ds_ w_ => ∃ (i : Nat) (rs : List Nat) (I2 : Im) (r_ : Sl), d_ = (exprs p).length - i ∧ m_ = (24, .slice Ae ((exprs p).length) ce) :: (25, .int .i64 ((exprs p).length : Int)) :: (26, .int .i64 (i : Int)) :: r_ ∧ ds_ = mks rs ++ [] ∧ Hp B I2 w_ ((g1, Ob [.string p.name, .slice Ak p.kinds.length ck, .slice Ao p.offices.length co, .slice Ar p.rules.length cr, .int .i64 p.change.kind, .int .i64 p.change.n, .int .i64 p.change.no, .string p.change.name, .slice Ac p.change.l.length cc, .int .i64 p.mode] 28) :: (dfs rs ++ L)) ∧ i ≤ (exprs p).length ∧ Le I I2 ∧ RepS encEx I2 5 (exprs p) (.slice Ae (exprs p).length ce) ∧ ((exprs p).take i).all sizeB = true) _ ⟨0, [], I2, _, rfl, rfl, rfl, H, Nat.zero_le _, hI2, hall, rfl⟩ ?_
  rintro _ _ _ _ ⟨i, rs, I2, r3, rfl, rfl, rfl, H, hi, hI2, hall, ha⟩ ih4
  refine st_seq ?_
  refine st_region ?_
  refine sr_op rfl rfl (ow_lss rfl rfl ?_)
  refine sr_nil ?_
  refine st_seq ?_
  refine st_cond (decide ((i : Int) < ((exprs p).length : Int))) rfl (fun hc5 => ?_) (fun hc5 => ?_)
  · have hc5 := of_decide_eq_true hc5
    refine st_skip ?_
    refine st_seq ?_
    refine st_block ?_
    refine st_seq ?_
    refine st_region ?_
    obtain ⟨y6, he6⟩ : ∃ q_, (exprs p)[i]? = some q_ := ⟨_, List.getElem?_eq_getElem (by omega)⟩
    obtain ⟨b6, o6, us6, hA6, hat6, hul6, hr6⟩ := RepS.get hall he6
    obtain ⟨v6, rfl, y6k, y6n, y6o, y6s, y6l⟩ := ex_iff.1 hr6
    obtain ⟨A6, c6, rfl, y6c, y6m, y6l⟩ := RepS.open_ y6l
    refine sr_op rfl rfl (ow_indexAddrA sl24 ty26 hA6 rfl rfl (by omega) (by omega) (r := o6 + i * 5) rfl ?_)
    refine sr_op rfl rfl (ow_loadI (v := .agg #[.int .i64 y6.kind, .int .i64 y6.n, .int .i64 y6.no, .string y6.name, .slice A6 y6.l.length c6]) ty26 H rfl hat6 rfl rfl rfl ?_)
    refine sr_op rfl rfl (ow_alloc ty26 H [.int .i64 0, .int .i64 0, .int .i64 0, .string ⟨#[]⟩, .slice none 0 0] rfl (fun g7 _ H => ?_))
    refine sr_op rfl rfl (ow_store ty26 H rfl (v := .agg #[.int .i64 y6.kind, .int .i64 y6.n, .int .i64 y6.no, .string y6.name, .slice A6 y6.l.length c6]) rfl [.int .i64 y6.kind, .int .i64 y6.n, .int .i64 y6.no, .string y6.name, .slice A6 y6.l.length c6] rfl rfl rfl 0 rfl rfl (fun _ H => ?_))
    refine sr_nil ?_
    refine st_seq ?_
    refine st_region ?_
    refine sr_op rfl rfl (ow_alloc ty3 H [.int .i64 0] rfl (fun g8 _ H => ?_))
    refine sr_op rfl rfl (ow_store ty3 H rfl (v := .int .i64 0) rfl [.int .i64 0] rfl rfl rfl 0 rfl rfl (fun _ H => ?_))
    refine sr_nil ?_
    refine st_seq ?_
    refine st_region ?_
    refine sr_op rfl rfl (ow_load (v := .agg #[.int .i64 y6.kind, .int .i64 y6.n, .int .i64 y6.no, .string y6.name, .slice A6 y6.l.length c6]) ty26 H rfl 1 rfl rfl rfl rfl ?_)
    refine sr_op rfl rfl (ow_call en95 rfl (parts_c H (ex_iff.2 ⟨_, rfl, y6k, y6n, y6o, y6s, y6l⟩) _) ?_)
    rintro _ _ ⟨I3, gx2, gd2, hI3, H, rfl, hax2, had2⟩
    have hall := hall.mono hI3
    refine sr_nil ?_
    refine st_block ?_
    refine st_range (f := 116) (cap := [.pointer (some ⟨gx2, 0, none⟩), .pointer (some ⟨gd2, 0, none⟩)]) (parts_it _ (x := y6) (d := 1) (Nat.le_refl _) hax2 (ex_iff.2 ⟨_, rfl, y6k, y6n, y6o, y6s, y6l.mono hI3⟩) had2 (by omega)) hb hfn Tryd.func58 rfl en116 [(g8, Ob [.int .i64 0] 3), (g7, Ob [.int .i64 y6.kind, .int .i64 y6.n, .int .i64 y6.no, .string y6.name, .slice A6 y6.l.length c6] 26), (g1, Ob [.string p.name, .slice Ak p.kinds.length ck, .slice Ao p.offices.length co, .slice Ar p.rules.length cr, .int .i64 p.change.kind, .int .i64 p.change.n, .int .i64 p.change.no, .string p.change.name, .slice Ac p.change.l.length cc, .int .i64 p.mode] 28)] (dfs rs ++ L) H (fun pre_ I_ L_ => L_ = [(g8, Ob [.int .i64 (pre_.length : Int)] 3), (g7, Ob [.int .i64 y6.kind, .int .i64 y6.n, .int .i64 y6.no, .string y6.name, .slice A6 y6.l.length c6] 26), (g1, Ob [.string p.name, .slice Ak p.kinds.length ck, .slice Ao p.offices.length co, .slice Ar p.rules.length cr, .int .i64 p.change.kind, .int .i64 p.change.n, .int .i64 p.change.no, .string p.change.name, .slice Ac p.change.l.length cc, .int .i64 p.mode] 28)] ∧ pre_.length ≤ 256 ∧ pre_.all depthB = true) (fun _ _ _ => False) (fun ch_ I_ L_ => ch_ = stopV 2 ∧ sizeB y6 = false) ⟨rfl, by simp, rfl⟩ (fun pre_ q_ I_ L_ h_ => by have := h_.2.2; simp [depthB] at this; omega) (fun pre_ I_ I_' L_ hle_ h_ => h_) ?_ ?_ ?_ ?_
    · intro pre9 q9 us9 I19 Lx9 Lo9 _ l9 rc9 G1 b1 cs1 hpre hle hJ hr hb1 E H
      obtain ⟨rfl, hJa, hJb⟩ := hJ
      obtain ⟨vq, rfl, hqk, hqn, hqo, hqs, hql, hqd⟩ := pt_iff.1 hr
      obtain ⟨Aq, cq, rfl, _, _, hql⟩ := RepS.open_ hql
      have hle9 := hle
      have hall := hall.mono hle
      refine st_region ?_
      refine sr_op rfl rfl (ow_alloc ty110 H [.int .i64 0, .int .i64 0, .int .i64 0, .string ⟨#[]⟩, .slice none 0 0, .int .i64 0] rfl (fun g10 _ H => ?_))
      refine sr_op rfl rfl (ow_store ty110 H rfl (v := .agg #[.int .i64 q9.1.kind, .int .i64 q9.1.n, .int .i64 q9.1.no, .string q9.1.name, .slice Aq q9.1.l.length cq, .int .i64 (q9.2 : Int)]) rfl [.int .i64 q9.1.kind, .int .i64 q9.1.n, .int .i64 q9.1.no, .string q9.1.name, .slice Aq q9.1.l.length cq, .int .i64 (q9.2 : Int)] rfl rfl rfl 0 rfl rfl (fun _ H => ?_))
      refine sr_nil ?_
      refine st_begin hb1 H 1 rfl rfl (fun _ H => ?_)
      refine st_block ?_
      refine st_seq ?_
      refine st_region ?_
      refine sr_op rfl rfl (ow_load (v := .int .i64 (pre9.length : Int)) ty3 H rfl 2 rfl rfl rfl rfl ?_)
      refine sr_op rfl rfl (ow_add (r := ((pre9.length + 1 : Nat) : Int)) rfl rfl (inc_i64 (by omega)) ?_)
      refine sr_op rfl rfl (ow_store ty3 H rfl (v := .int .i64 ((pre9.length + 1 : Nat) : Int)) rfl [.int .i64 ((pre9.length + 1 : Nat) : Int)] rfl rfl rfl 2 rfl rfl (fun _ H => ?_))
      refine sr_nil ?_
      refine st_region ?_
      refine sr_op rfl rfl (ow_load (v := .int .i64 ((pre9.length + 1 : Nat) : Int)) ty3 H rfl 2 rfl rfl rfl rfl ?_)
      refine sr_op rfl rfl (ow_leq rfl rfl ?_)
      refine sr_op rfl rfl (ow_move (v := .bool (decide (((pre9.length + 1 : Nat) : Int) ≤ 256))) rfl ?_)
      refine sr_cut 4 (fun m_ w_ => ∃ (r_ : Sl) (v_ : Bool), m_ = (41, .bool v_) :: r_ ∧ Hp B I19 w_ ((g10, Ob [.int .i64 q9.1.kind, .int .i64 q9.1.n, .int .i64 q9.1.no, .string q9.1.name, .slice Aq q9.1.l.length cq, .int .i64 (q9.2 : Int)] 110) :: (l9, .loop (rcS rc9 .busy none)) :: (g8, Ob [.int .i64 ((pre9.length + 1 : Nat) : Int)] 3) :: (g7, Ob [.int .i64 y6.kind, .int .i64 y6.n, .int .i64 y6.no, .string y6.name, .slice A6 y6.l.length c6] 26) :: (g1, Ob [.string p.name, .slice Ak p.kinds.length ck, .slice Ao p.offices.length co, .slice Ar p.rules.length cr, .int .i64 p.change.kind, .int .i64 p.change.n, .int .i64 p.change.no, .string p.change.name, .slice Ac p.change.l.length cc, .int .i64 p.mode] 28) :: Lx9) ∧ v_ = ((decide (((pre9.length + 1 : Nat) : Int) ≤ 256)) && (decide ((q9.2 : Int) ≤ 16)))) (fun again => ?_) ?_
      · rcases hg : decide (((pre9.length + 1 : Nat) : Int) ≤ 256) with _ | _
        · refine sr_pass rfl (j := 2) (d := 37) rfl rfl rfl (u := false) (v := true) rfl rfl ?_
          refine sr_pass rfl (j := 2) (d := 37) rfl rfl rfl (u := false) (v := true) rfl rfl ?_
          refine sr_pass rfl (j := 2) (d := 37) rfl rfl rfl (u := false) (v := true) rfl rfl ?_
          refine sr_op rfl rfl (ow_pick (v := .bool false) rfl rfl ?_)
          exact sr_live [41] (again _ _ ⟨_, _, rfl, H, by rw [hg] <;> rfl⟩)
        · refine sr_want rfl (j := 2) (d := 37) rfl rfl rfl (v := true) rfl rfl (ow_fieldAddr fd110_1 ty3 rfl rfl (r := 5) rfl ?_)
          refine sr_want rfl (j := 2) (d := 37) rfl rfl rfl (v := true) rfl rfl (ow_load (v := .int .i64 (q9.2 : Int)) ty3 H rfl 0 rfl rfl rfl rfl ?_)
          refine sr_want rfl (j := 2) (d := 37) rfl rfl rfl (v := true) rfl rfl (ow_leq rfl rfl ?_)
          refine sr_op rfl rfl (ow_pick (v := .bool (decide ((q9.2 : Int) ≤ 16))) rfl rfl ?_)
          exact sr_live [41] (again _ _ ⟨_, _, rfl, H, by rw [hg] <;> rfl⟩)
      rintro _ _ ⟨r, _, rfl, H, rfl⟩
      refine sr_op rfl rfl (ow_callp en93 rfl (must_c H _ _) ?_ ?_)
      rotate_left
      · rintro ch9 w9 ⟨hm11, rfl, H⟩
        exact (E.pan (Lo := [(g8, Ob [.int .i64 ((pre9.length + 1 : Nat) : Int)] 3), (g7, Ob [.int .i64 y6.kind, .int .i64 y6.n, .int .i64 y6.no, .string y6.name, .slice A6 y6.l.length c6] 26), (g1, Ob [.string p.name, .slice Ak p.kinds.length ck, .slice Ao p.offices.length co, .slice Ar p.rules.length cr, .int .i64 p.change.kind, .int .i64 p.change.n, .int .i64 p.change.no, .string p.change.name, .slice Ac p.change.l.length cc, .int .i64 p.mode] 28)]) (Le.refl _) (H.drop 1) ⟨rfl, size_no hpre hm11⟩).one
      rintro _ w9 ⟨rfl, hm11, H⟩
      refine sr_nil ?_
      refine st_inBlock ?_
      simp only [Bool.and_eq_true, decide_eq_true_eq] at hm11
      exact E.on (Lo := [(g8, Ob [.int .i64 ((pre9.length + 1 : Nat) : Int)] 3), (g7, Ob [.int .i64 y6.kind, .int .i64 y6.n, .int .i64 y6.no, .string y6.name, .slice A6 y6.l.length c6] 26), (g1, Ob [.string p.name, .slice Ak p.kinds.length ck, .slice Ao p.offices.length co, .slice Ar p.rules.length cr, .int .i64 p.change.kind, .int .i64 p.change.n, .int .i64 p.change.no, .string p.change.name, .slice Ac p.change.l.length cc, .int .i64 p.mode] 28)]) (Le.refl _) (H.drop 1) ⟨by rw [List.length_append]; rfl, by simp only [List.length_append, List.length_singleton]; omega, by rw [List.all_append, hJb]; simp [depthB]; omega⟩
    · intro r2 I2 Lo2 _ hle2 hJ2 H
      obtain ⟨rfl, hJa, hJb⟩ := hJ2
      have H : Hp B I2 _ ((g8, Ob [.int .i64 ((partsX y6 1).length : Int)] 3) :: (g7, Ob [.int .i64 y6.kind, .int .i64 y6.n, .int .i64 y6.no, .string y6.name, .slice A6 y6.l.length c6] 26) :: (g1, Ob [.string p.name, .slice Ak p.kinds.length ck, .slice Ao p.offices.length co, .slice Ar p.rules.length cr, .int .i64 p.change.kind, .int .i64 p.change.n, .int .i64 p.change.no, .string p.change.name, .slice Ac p.change.l.length cc, .int .i64 p.mode] 28) :: (dfs (r2 :: rs) ++ L)) := H.perm (List.perm_middle (l₁ := [(g8, Ob [.int .i64 ((partsX y6 1).length : Int)] 3), (g7, Ob [.int .i64 y6.kind, .int .i64 y6.n, .int .i64 y6.no, .string y6.name, .slice A6 y6.l.length c6] 26), (g1, Ob [.string p.name, .slice Ak p.kinds.length ck, .slice Ao p.offices.length co, .slice Ar p.rules.length cr, .int .i64 p.change.kind, .int .i64 p.change.n, .int .i64 p.change.no, .string p.change.name, .slice Ac p.change.l.length cc, .int .i64 p.mode] 28)]))
      have hI9 := (hI2.trans hI3).trans hle2
      have hall := hall.mono hle2
      refine st_inBlock ?_
      refine st_inBlock ?_
      refine st_region ?_
      refine sr_op rfl rfl (ow_add (r := ((i + 1 : Nat) : Int)) rfl rfl (inc_i64 (by omega)) ?_)
      refine sr_op rfl rfl (ow_move (v := .int .i64 ((i + 1 : Nat) : Int)) rfl ?_)
      refine sr_nil ?_
      exact st_inLoop (st_live [24, 25, 26] (ih4 _ _ _ _ (by omega) ⟨i + 1, r2 :: rs, I2, _, rfl, rfl, rfl, H.drop 2, by omega, hI9, hall, all_take he6 ha (by unfold sizeB; rw [hJb]; simp only [Bool.and_true, decide_eq_true_eq]; omega)⟩))
    · intro r2 c2 I2 Lo2 _ hle2 hS2 H
      exact hS2.elim
    · intro r2 ch2 I2 Lo2 _ hle2 hT2 H
      have H : Hp B I2 _ (dfs (r2 :: rs) ++ L) := H.sub ((List.sublist_append_right _ _).cons_cons _)
      have hI9 := (hI2.trans hI3).trans hle2
      obtain ⟨rfl, hT2⟩ := hT2
      exact (pk_marks (r2 :: rs) (ds := []) (fun _ H => hP _ _ ⟨I2, hI9, H, .inr ⟨rfl, by rw [sizesB, all_bad he6 hT2, Bool.and_false]⟩⟩) H).one
  · have hc5 := of_decide_eq_false hc5
    refine st_exit rfl ?_
    have ht : (exprs p).take i = exprs p := List.take_of_length_le (by omega)
    rw [ht] at ha
    exact st_end hb (rn_marks rs (ds := []) (fun _ H => hR _ _ _ (res_run (vs := []) Tryd.results58 rfl) ⟨I2, hI2, H, .inl ⟨rfl, by rw [sizesB, bool4 hm2, ha]⟩⟩) (H.drop 1))
end Go.Proofs.YtbbflenaeihmeaaDoor
