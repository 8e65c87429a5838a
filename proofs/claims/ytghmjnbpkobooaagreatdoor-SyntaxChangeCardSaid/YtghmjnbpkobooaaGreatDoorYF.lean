/-
  Walks: the reference of syntax: equality, size.
-/
import Derived.Test.YtghmjnbpkobooaaGreatDoorZ1
import Derived.Test.YtghmjnbpkobooaaGreatDoorYB
set_option linter.unusedVariables false
set_option linter.unusedSimpArgs false
set_option maxRecDepth 10000
set_option maxHeartbeats 4000000
namespace Go.Proofs.YtghmjnbpkobooaaGreatDoor
open Go Go.RowKit

theorem rsame_no {a b c d : Bool} {l m : List Ex} (h : ((((!a || !b) || !c) || !d) || !decide ((l.length : Int) = (m.length : Int))) = true) : ((((a && b) && c) && d) && sameXs l m) = false := by
  by_cases hl : (l.length : Int) = (m.length : Int)
  · rw [decide_eq_true hl] at h
    cases a <;> cases b <;> cases c <;> cases d <;> first | rfl | cases h
  · rw [sameXs_len hl, Bool.and_false]
theorem rsame_yes {a b c d : Bool} {l m : List Ex} (h : ((((!a || !b) || !c) || !d) || !decide ((l.length : Int) = (m.length : Int))) = false) : (((a && b) && c) && d) = true ∧ (l.length : Int) = (m.length : Int) := by
  by_cases hl : (l.length : Int) = (m.length : Int)
  · rw [decide_eq_true hl] at h
    refine ⟨?_, hl⟩
    cases a <;> cases b <;> cases c <;> cases d <;> first | rfl | cases h
  · rw [decide_eq_false hl] at h
    simp at h
theorem rsamep_no {a b c d f : Bool} {l m : List Ru} (h : (((((!a || !b) || !c) || !d) || !decide ((l.length : Int) = (m.length : Int))) || !f) = true) : (((((a && b) && c) && d) && sameRs l m) && f) = false := by
  by_cases hl : (l.length : Int) = (m.length : Int)
  · rw [decide_eq_true hl] at h
    cases a <;> cases b <;> cases c <;> cases d <;> cases f <;> first | rfl | (cases sameRs l m <;> rfl) | cases h
  · rw [sameRs_len hl, Bool.and_false, Bool.false_and]
theorem rsamep_yes {a b c d f : Bool} {l m : List Ru} (h : (((((!a || !b) || !c) || !d) || !decide ((l.length : Int) = (m.length : Int))) || !f) = false) : (((a && b) && c) && d) = true ∧ (l.length : Int) = (m.length : Int) ∧ f = true := by
  by_cases hl : (l.length : Int) = (m.length : Int)
  · rw [decide_eq_true hl] at h
    refine ⟨?_, hl, ?_⟩ <;> cases a <;> cases b <;> cases c <;> cases d <;> cases f <;> first | rfl | cases h
  · rw [decide_eq_false hl] at h
    simp at h
theorem ror4 {a b c d : Bool} (h : (((!a || !b) || !c) || !d) = true) : (((a && b) && c) && d) = false := by
  cases a <;> cases b <;> cases c <;> cases d <;> first | rfl | cases h
theorem ror4n {a b c d : Bool} (h : (((!a || !b) || !c) || !d) = false) : (((a && b) && c) && d) = true := by
  cases a <;> cases b <;> cases c <;> cases d <;> first | rfl | cases h
theorem pcs_app : ∀ l m : List Ex, Ex.pcs (l ++ m) = Ex.pcs l + Ex.pcs m
  | [], m => by simp [Ex.pcs]
  | x :: l, m => by
    rw [List.cons_append]
    simp only [Ex.pcs, pcs_app l m]
    omega
theorem pcs_take {l : List Ex} {i : Nat} {x : Ex} (h : l[i]? = some x) : Ex.pcs (l.take (i + 1)) = Ex.pcs (l.take i) + x.pc := by
  rw [take_some h, pcs_app]
  simp [Ex.pcs]
def fewOk (p : Po) : Prop := p.offices.length ≤ 60 ∧ p.kinds.length ≤ 60 ∧ p.rules.length ≤ 20 ∧ p.change.pc ≤ 60 ∧ ∀ r ∈ p.rules, r.expr.pc ≤ 60
theorem rsameT_c {B I L w}  {l m : List ByteArray} {v u : Value} (H : Hp B I w L) (hl : RepS encS I 1 l v) (hm : RepS encS I 1 m u) : Calls Tryz.prog 91 #[v, u] w (Rt fun r w' => r = .bool (sameT l m) ∧ Hp B I w' L) := by
  obtain ⟨s0A, s0c, rfl, s0m, s0M, s0⟩ := RepS.open_ hl
  obtain ⟨s1A, s1c, rfl, s1m, s1M, s1⟩ := RepS.open_ hm
  refine calls_st (n := 26) Tryz.func91 rfl rfl rfl ?_
  intro G bF cs hb hfn hR hP
  simp only [ini]
  refine st_seq ?_
  refine st_region ?_
  refine sr_op rfl rfl (ow_assign (v := .bool false) rfl ?_)
  refine sr_nil ?_
  refine st_seq ?_
  refine st_seq ?_
  refine st_region ?_
  refine sr_op rfl rfl (ow_move (v := .slice s0A l.length s0c) rfl ?_)
  refine sr_op rfl rfl (ow_lenS sl22 rfl rfl ?_)
  refine sr_op rfl rfl (ow_move (v := .slice s1A m.length s1c) rfl ?_)
  refine sr_op rfl rfl (ow_lenS sl22 rfl rfl ?_)
  refine sr_op rfl rfl (ow_neq rfl rfl ?_)
  refine sr_nil ?_
  refine st_cond (!decide ((l.length : Int) = (m.length : Int))) rfl (fun hc1 => ?_) (fun hc1 => ?_)
  · have hc1 := bnt hc1
    have hc1 := of_decide_eq_false hc1
    refine st_seq ?_
    refine st_region ?_
    refine sr_op rfl rfl (ow_assign (v := .bool false) rfl ?_)
    refine sr_nil ?_
    refine st_ret hb (hR _ _ (.bool false) (res_run (vs := [.bool false]) Tryz.results91 ⟨_, _, rfl, rfl, rfl⟩) ?_)
    exact ⟨_, rfl, congrArg Value.bool (sameT_no hc1).symm, H⟩
  · have hc1 := bnf hc1
    have hc1 := of_decide_eq_true hc1
    have hlen : l.length = m.length := by omega
    refine st_skip ?_
    refine st_seq ?_
    refine st_seq ?_
    refine st_region ?_
    refine sr_op rfl rfl (ow_assign (v := .int .i64 0) rfl ?_)
    refine sr_nil ?_
    refine st_block ?_
    refine st_loop ?_
    refine st_live [0, 1, 4, 5] ?_
    refine st_ind (fun d_ m_ w_ => ∃ (i : Nat) (r_ : Sl), d_ = l.length - i ∧ m_ = (0, .slice s0A l.length s0c) :: (1, .slice s1A m.length s1c) :: (4, .bool false) :: (5, .int .i64 (i : Int)) :: r_ ∧ Hp B I w_ (L) ∧ i ≤ l.length ∧ sameT l m = sameT (l.drop i) (m.drop i)) _ ⟨0, _, rfl, rfl, H, Nat.zero_le _, rfl⟩ ?_
    rintro _ _ _ ⟨i, r3, rfl, rfl, H, hi, ha⟩ ih4
    refine st_seq ?_
    refine st_seq ?_
    refine st_region ?_
    refine sr_op rfl rfl (ow_move (v := .int .i64 (i : Int)) rfl ?_)
    refine sr_op rfl rfl (ow_move (v := .slice s0A l.length s0c) rfl ?_)
    refine sr_op rfl rfl (ow_lenS sl22 rfl rfl ?_)
    refine sr_op rfl rfl (ow_lss rfl rfl ?_)
    refine sr_nil ?_
    refine st_cond (decide ((i : Int) < (l.length : Int))) rfl (fun hc5 => ?_) (fun hc5 => ?_)
    · have hc5 := of_decide_eq_true hc5
      refine st_skip ?_
      refine st_seq ?_
      refine st_block ?_
      refine st_seq ?_
      obtain ⟨e6, he6⟩ : ∃ q_, l[i]? = some q_ := ⟨_, List.getElem?_eq_getElem (by omega)⟩
      obtain ⟨b6, o6, us6, hA6, hat6, hul6, hr6⟩ := RepS.get s0 he6
      have d6 := hr6
      obtain ⟨rfl, d6_0⟩ := s_iff.1 hr6
      obtain ⟨e7, he7⟩ : ∃ q_, m[i]? = some q_ := ⟨_, List.getElem?_eq_getElem (by omega)⟩
      obtain ⟨b7, o7, us7, hA7, hat7, hul7, hr7⟩ := RepS.get s1 he7
      have d7 := hr7
      obtain ⟨rfl, d7_0⟩ := s_iff.1 hr7
      refine st_draw (F := (fun w_ => ∃ Iq_, Le I Iq_ ∧ Hp B Iq_ w_ [])) (p0 := [0, 1, 2, 3, 4, 5, 6, 7, 8]) (plan := []) [] [] [(25, .bool (!decide (e6 = e7))), (24, .string e7), (23, .pointer (some ⟨b7, o7 + i * 1, none⟩)), (22, .int .i64 (i : Int)), (21, .slice s1A m.length s1c), (20, .string e6), (19, .pointer (some ⟨b6, o6 + i * 1, none⟩)), (18, .int .i64 (i : Int)), (17, .slice s0A l.length s0c)] (by kernel_rfl) rfl ?_ ⟨_, Le.refl _, H.drew.pick [] (by decide)⟩ ?_
      · refine ⟨kn_op rfl rfl (wantB_none rfl) fun _ hF2 => ?_, ?_⟩
        · obtain ⟨_, hle2, H2⟩ := hF2
          refine  (ow_move (v := .slice s0A l.length s0c) rfl ?_)
          exact ⟨rfl, rfl⟩
        refine ⟨kn_op rfl rfl (wantB_none rfl) fun _ hF2 => ?_, ?_⟩
        · obtain ⟨_, hle2, H2⟩ := hF2
          refine  (ow_move (v := .int .i64 (i : Int)) rfl ?_)
          exact ⟨rfl, rfl⟩
        refine ⟨kn_op rfl rfl (wantB_none rfl) fun _ hF2 => ?_, ?_⟩
        · obtain ⟨_, hle2, H2⟩ := hF2
          refine  (ow_indexAddrA sl22 ty9 hA6 rfl rfl (by omega) (by omega) (r := o6 + i * 1) rfl ?_)
          exact ⟨rfl, rfl⟩
        refine ⟨kn_op rfl rfl (wantB_none rfl) fun _ hF2 => ?_, ?_⟩
        · obtain ⟨_, hle2, H2⟩ := hF2
          refine  (ow_loadI (v := .string e6) ty9 H2 rfl (At.mono hle2 hat6) rfl rfl rfl ?_)
          exact ⟨rfl, rfl⟩
        refine ⟨kn_op rfl rfl (wantB_none rfl) fun _ hF2 => ?_, ?_⟩
        · obtain ⟨_, hle2, H2⟩ := hF2
          refine  (ow_move (v := .slice s1A m.length s1c) rfl ?_)
          exact ⟨rfl, rfl⟩
        refine ⟨kn_op rfl rfl (wantB_none rfl) fun _ hF2 => ?_, ?_⟩
        · obtain ⟨_, hle2, H2⟩ := hF2
          refine  (ow_move (v := .int .i64 (i : Int)) rfl ?_)
          exact ⟨rfl, rfl⟩
        refine ⟨kn_op rfl rfl (wantB_none rfl) fun _ hF2 => ?_, ?_⟩
        · obtain ⟨_, hle2, H2⟩ := hF2
          refine  (ow_indexAddrA sl22 ty9 hA7 rfl rfl (by omega) (by omega) (r := o7 + i * 1) rfl ?_)
          exact ⟨rfl, rfl⟩
        refine ⟨kn_op rfl rfl (wantB_none rfl) fun _ hF2 => ?_, ?_⟩
        · obtain ⟨_, hle2, H2⟩ := hF2
          refine  (ow_loadI (v := .string e7) ty9 H2 rfl (At.mono hle2 hat7) rfl rfl rfl ?_)
          exact ⟨rfl, rfl⟩
        refine ⟨kn_op rfl rfl (wantB_none rfl) fun _ hF2 => ?_, ?_⟩
        · obtain ⟨_, hle2, H2⟩ := hF2
          refine  (ow_sne rfl rfl ?_)
          exact ⟨rfl, rfl⟩
        exact trivial
      have H := H.drew
      refine cw_nil ?_
      refine st_cond (!decide (e6 = e7)) rfl (fun hc8 => ?_) (fun hc8 => ?_)
      · have hbad := bnt hc8
        refine st_seq ?_
        refine st_region ?_
        refine sr_op rfl rfl (ow_assign (v := .bool false) rfl ?_)
        refine sr_nil ?_
        refine st_ret hb (hR _ _ (.bool false) (res_run (vs := [.bool false]) Tryz.results91 ⟨_, _, rfl, rfl, rfl⟩) ?_)
        exact ⟨_, rfl, congrArg Value.bool (by rw [ha, drop_some he6, drop_some he7, sameT, hbad, Bool.false_and]), H⟩
      · have hgood := bnf hc8
        refine st_skip ?_
        refine st_inBlock ?_
        refine st_region ?_
        refine sr_op rfl rfl (ow_move (v := .int .i64 (i : Int)) rfl ?_)
        refine sr_op rfl rfl (ow_add (r := ((i + 1 : Nat) : Int)) rfl rfl (inc_i64 (by omega)) ?_)
        refine sr_op rfl rfl (ow_assign (v := .int .i64 ((i + 1 : Nat) : Int)) rfl ?_)
        refine sr_nil ?_
        exact st_inLoop (st_live [0, 1, 4, 5] (ih4 _ _ _ (by omega) ⟨i + 1, _, rfl, rfl, H, by omega, by rw [ha, drop_some he6, drop_some he7, sameT, hgood, Bool.true_and]⟩))
    · have hc5 := of_decide_eq_false hc5
      refine st_exit rfl ?_
      refine st_seq ?_
      refine st_region ?_
      refine sr_op rfl rfl (ow_assign (v := .bool true) rfl ?_)
      refine sr_nil ?_
      refine st_ret hb (hR _ _ (.bool true) (res_run (vs := [.bool true]) Tryz.results91 ⟨_, _, rfl, rfl, rfl⟩) ?_)
      have h1 : l.drop i = [] := List.drop_of_length_le (by omega)
      have h2 : m.drop i = [] := List.drop_of_length_le (by omega)
      exact ⟨_, rfl, congrArg Value.bool (by rw [ha, h1, h2]; rfl), H⟩
theorem rsameX_c {B : World} : ∀ (d : Nat) {x y : Ex} {I : Im} {L : List (Nat × Obj)} {w : World} {us ws : List Value}, x.pc ≤ d → Hp B I w L → RepL I (encEx x) us → RepL I (encEx y) ws → Calls Tryz.prog 92 #[.agg us.toArray, .agg ws.toArray] w (Rt fun r w' => r = .bool (sameX x y) ∧ Hp B I w' L) := by
  intro d
  induction d with
  | zero =>
    intro x y I L w us ws h0
    have := x.pc_eq
    omega
  | succ d ih =>
  intro x y I L w us ws hd H hx hy
  have d0 := hx
  obtain ⟨d0v4, rfl, d0_0, d0_1, d0_2, d0_3, d0_4⟩ := ex_iff.1 hx
  obtain ⟨d0A4, d0c4, rfl, d0m4, d0M4, d0_4⟩ := RepS.open_ d0_4
  have d1 := hy
  obtain ⟨d1v4, rfl, d1_0, d1_1, d1_2, d1_3, d1_4⟩ := ex_iff.1 hy
  obtain ⟨d1A4, d1c4, rfl, d1m4, d1M4, d1_4⟩ := RepS.open_ d1_4
  refine calls_st (n := 60) Tryz.func92 rfl rfl rfl ?_
  intro G bF cs hb hfn hR hP
  simp only [ini]
  refine st_seq ?_
  refine st_region ?_
  refine sr_op rfl rfl (ow_box H (v := .agg #[.int .i64 x.kind, .int .i64 x.n, .int .i64 x.no, .string x.name, .slice d0A4 x.l.length d0c4]) rfl [.int .i64 x.kind, .int .i64 x.n, .int .i64 x.no, .string x.name, .slice d0A4 x.l.length d0c4] rfl (fun g1 _ H => ?_))
  refine sr_op rfl rfl (ow_box H (v := .agg #[.int .i64 y.kind, .int .i64 y.n, .int .i64 y.no, .string y.name, .slice d1A4 y.l.length d1c4]) rfl [.int .i64 y.kind, .int .i64 y.n, .int .i64 y.no, .string y.name, .slice d1A4 y.l.length d1c4] rfl (fun g2 _ H => ?_))
  refine sr_op rfl rfl (ow_assign (v := .bool false) rfl ?_)
  refine sr_nil ?_
  refine st_seq ?_
  refine st_seq ?_
  refine st_region ?_
  refine sr_op rfl rfl (ow_fieldAddr fd26_0 ty3 rfl rfl (r := 0) rfl ?_)
  refine sr_op rfl rfl (ow_load (v := .int .i64 x.kind) ty3 H rfl 1 rfl rfl rfl rfl ?_)
  refine sr_op rfl rfl (ow_fieldAddr fd26_0 ty3 rfl rfl (r := 0) rfl ?_)
  refine sr_op rfl rfl (ow_load (v := .int .i64 y.kind) ty3 H rfl 0 rfl rfl rfl rfl ?_)
  refine sr_op rfl rfl (ow_neq rfl rfl ?_)
  refine sr_op rfl rfl (ow_move (v := .bool (!decide (x.kind = y.kind))) rfl ?_)
  refine sr_cut 6 (fun m_ w_ => ∃ (r_ : Sl) (v_ : Bool), m_ = (17, .bool v_) :: (2, .pointer (some ⟨g1, 0, none⟩)) :: (3, .pointer (some ⟨g2, 0, none⟩)) :: (4, .bool false) :: r_ ∧ Hp B I w_ ((g2, Ob [.int .i64 y.kind, .int .i64 y.n, .int .i64 y.no, .string y.name, .slice d1A4 y.l.length d1c4] 26) :: (g1, Ob [.int .i64 x.kind, .int .i64 x.n, .int .i64 x.no, .string x.name, .slice d0A4 x.l.length d0c4] 26) :: L) ∧ v_ = ((!decide (x.kind = y.kind)) || (!decide (x.n = y.n)))) (fun again => ?_) ?_
  · rcases hg : !decide (x.kind = y.kind) with _ | _
    · refine sr_want rfl (j := 5) (d := 11) rfl rfl rfl (v := false) rfl rfl (ow_fieldAddr fd26_1 ty3 rfl rfl (r := 1) rfl ?_)
      refine sr_want rfl (j := 5) (d := 11) rfl rfl rfl (v := false) rfl rfl (ow_load (v := .int .i64 x.n) ty3 H rfl 1 rfl rfl rfl rfl ?_)
      refine sr_want rfl (j := 5) (d := 11) rfl rfl rfl (v := false) rfl rfl (ow_fieldAddr fd26_1 ty3 rfl rfl (r := 1) rfl ?_)
      refine sr_want rfl (j := 5) (d := 11) rfl rfl rfl (v := false) rfl rfl (ow_load (v := .int .i64 y.n) ty3 H rfl 0 rfl rfl rfl rfl ?_)
      refine sr_want rfl (j := 5) (d := 11) rfl rfl rfl (v := false) rfl rfl (ow_neq rfl rfl ?_)
      refine sr_op rfl rfl (ow_pick (v := .bool (!decide (x.n = y.n))) rfl rfl ?_)
      exact sr_live [17, 2, 3, 4] (again _ _ ⟨_, _, rfl, H, by rw [hg] <;> rfl⟩)
    · refine sr_pass rfl (j := 5) (d := 11) rfl rfl rfl (u := true) (v := false) rfl rfl ?_
      refine sr_pass rfl (j := 5) (d := 11) rfl rfl rfl (u := true) (v := false) rfl rfl ?_
      refine sr_pass rfl (j := 5) (d := 11) rfl rfl rfl (u := true) (v := false) rfl rfl ?_
      refine sr_pass rfl (j := 5) (d := 11) rfl rfl rfl (u := true) (v := false) rfl rfl ?_
      refine sr_pass rfl (j := 5) (d := 11) rfl rfl rfl (u := true) (v := false) rfl rfl ?_
      refine sr_op rfl rfl (ow_pick (v := .bool true) rfl rfl ?_)
      exact sr_live [17, 2, 3, 4] (again _ _ ⟨_, _, rfl, H, by rw [hg] <;> rfl⟩)
  rintro _ _ ⟨r, _, rfl, H, rfl⟩
  refine sr_op rfl rfl (ow_move (v := .bool ((!decide (x.kind = y.kind)) || (!decide (x.n = y.n)))) rfl ?_)
  refine sr_cut 6 (fun m_ w_ => ∃ (r_ : Sl) (v_ : Bool), m_ = (24, .bool v_) :: (2, .pointer (some ⟨g1, 0, none⟩)) :: (3, .pointer (some ⟨g2, 0, none⟩)) :: (4, .bool false) :: r_ ∧ Hp B I w_ ((g2, Ob [.int .i64 y.kind, .int .i64 y.n, .int .i64 y.no, .string y.name, .slice d1A4 y.l.length d1c4] 26) :: (g1, Ob [.int .i64 x.kind, .int .i64 x.n, .int .i64 x.no, .string x.name, .slice d0A4 x.l.length d0c4] 26) :: L) ∧ v_ = (((!decide (x.kind = y.kind)) || (!decide (x.n = y.n))) || (!decide (x.no = y.no)))) (fun again => ?_) ?_
  · rcases hg : (!decide (x.kind = y.kind)) || (!decide (x.n = y.n)) with _ | _
    · refine sr_want rfl (j := 12) (d := 18) rfl rfl rfl (v := false) rfl rfl (ow_fieldAddr fd26_2 ty3 rfl rfl (r := 2) rfl ?_)
      refine sr_want rfl (j := 12) (d := 18) rfl rfl rfl (v := false) rfl rfl (ow_load (v := .int .i64 x.no) ty3 H rfl 1 rfl rfl rfl rfl ?_)
      refine sr_want rfl (j := 12) (d := 18) rfl rfl rfl (v := false) rfl rfl (ow_fieldAddr fd26_2 ty3 rfl rfl (r := 2) rfl ?_)
      refine sr_want rfl (j := 12) (d := 18) rfl rfl rfl (v := false) rfl rfl (ow_load (v := .int .i64 y.no) ty3 H rfl 0 rfl rfl rfl rfl ?_)
      refine sr_want rfl (j := 12) (d := 18) rfl rfl rfl (v := false) rfl rfl (ow_neq rfl rfl ?_)
      refine sr_op rfl rfl (ow_pick (v := .bool (!decide (x.no = y.no))) rfl rfl ?_)
      exact sr_live [24, 2, 3, 4] (again _ _ ⟨_, _, rfl, H, by rw [hg] <;> rfl⟩)
    · refine sr_pass rfl (j := 12) (d := 18) rfl rfl rfl (u := true) (v := false) rfl rfl ?_
      refine sr_pass rfl (j := 12) (d := 18) rfl rfl rfl (u := true) (v := false) rfl rfl ?_
      refine sr_pass rfl (j := 12) (d := 18) rfl rfl rfl (u := true) (v := false) rfl rfl ?_
      refine sr_pass rfl (j := 12) (d := 18) rfl rfl rfl (u := true) (v := false) rfl rfl ?_
      refine sr_pass rfl (j := 12) (d := 18) rfl rfl rfl (u := true) (v := false) rfl rfl ?_
      refine sr_op rfl rfl (ow_pick (v := .bool true) rfl rfl ?_)
      exact sr_live [24, 2, 3, 4] (again _ _ ⟨_, _, rfl, H, by rw [hg] <;> rfl⟩)
  rintro _ _ ⟨r, _, rfl, H, rfl⟩
  refine sr_op rfl rfl (ow_move (v := .bool (((!decide (x.kind = y.kind)) || (!decide (x.n = y.n))) || (!decide (x.no = y.no)))) rfl ?_)
  refine sr_cut 6 (fun m_ w_ => ∃ (r_ : Sl) (v_ : Bool), m_ = (31, .bool v_) :: (2, .pointer (some ⟨g1, 0, none⟩)) :: (3, .pointer (some ⟨g2, 0, none⟩)) :: (4, .bool false) :: r_ ∧ Hp B I w_ ((g2, Ob [.int .i64 y.kind, .int .i64 y.n, .int .i64 y.no, .string y.name, .slice d1A4 y.l.length d1c4] 26) :: (g1, Ob [.int .i64 x.kind, .int .i64 x.n, .int .i64 x.no, .string x.name, .slice d0A4 x.l.length d0c4] 26) :: L) ∧ v_ = ((((!decide (x.kind = y.kind)) || (!decide (x.n = y.n))) || (!decide (x.no = y.no))) || (!decide (x.name = y.name)))) (fun again => ?_) ?_
  · rcases hg : ((!decide (x.kind = y.kind)) || (!decide (x.n = y.n))) || (!decide (x.no = y.no)) with _ | _
    · refine sr_want rfl (j := 19) (d := 25) rfl rfl rfl (v := false) rfl rfl (ow_fieldAddr fd26_3 ty9 rfl rfl (r := 3) rfl ?_)
      refine sr_want rfl (j := 19) (d := 25) rfl rfl rfl (v := false) rfl rfl (ow_load (v := .string x.name) ty9 H rfl 1 rfl rfl rfl rfl ?_)
      refine sr_want rfl (j := 19) (d := 25) rfl rfl rfl (v := false) rfl rfl (ow_fieldAddr fd26_3 ty9 rfl rfl (r := 3) rfl ?_)
      refine sr_want rfl (j := 19) (d := 25) rfl rfl rfl (v := false) rfl rfl (ow_load (v := .string y.name) ty9 H rfl 0 rfl rfl rfl rfl ?_)
      refine sr_want rfl (j := 19) (d := 25) rfl rfl rfl (v := false) rfl rfl (ow_sne rfl rfl ?_)
      refine sr_op rfl rfl (ow_pick (v := .bool (!decide (x.name = y.name))) rfl rfl ?_)
      exact sr_live [31, 2, 3, 4] (again _ _ ⟨_, _, rfl, H, by rw [hg] <;> rfl⟩)
    · refine sr_pass rfl (j := 19) (d := 25) rfl rfl rfl (u := true) (v := false) rfl rfl ?_
      refine sr_pass rfl (j := 19) (d := 25) rfl rfl rfl (u := true) (v := false) rfl rfl ?_
      refine sr_pass rfl (j := 19) (d := 25) rfl rfl rfl (u := true) (v := false) rfl rfl ?_
      refine sr_pass rfl (j := 19) (d := 25) rfl rfl rfl (u := true) (v := false) rfl rfl ?_
      refine sr_pass rfl (j := 19) (d := 25) rfl rfl rfl (u := true) (v := false) rfl rfl ?_
      refine sr_op rfl rfl (ow_pick (v := .bool true) rfl rfl ?_)
      exact sr_live [31, 2, 3, 4] (again _ _ ⟨_, _, rfl, H, by rw [hg] <;> rfl⟩)
  rintro _ _ ⟨r, _, rfl, H, rfl⟩
  refine sr_op rfl rfl (ow_move (v := .bool ((((!decide (x.kind = y.kind)) || (!decide (x.n = y.n))) || (!decide (x.no = y.no))) || (!decide (x.name = y.name)))) rfl ?_)
  refine sr_cut 8 (fun m_ w_ => ∃ (r_ : Sl) (v_ : Bool), m_ = (40, .bool v_) :: (2, .pointer (some ⟨g1, 0, none⟩)) :: (3, .pointer (some ⟨g2, 0, none⟩)) :: (4, .bool false) :: r_ ∧ Hp B I w_ ((g2, Ob [.int .i64 y.kind, .int .i64 y.n, .int .i64 y.no, .string y.name, .slice d1A4 y.l.length d1c4] 26) :: (g1, Ob [.int .i64 x.kind, .int .i64 x.n, .int .i64 x.no, .string x.name, .slice d0A4 x.l.length d0c4] 26) :: L) ∧ v_ = (((((!decide (x.kind = y.kind)) || (!decide (x.n = y.n))) || (!decide (x.no = y.no))) || (!decide (x.name = y.name))) || (!decide ((x.l.length : Int) = (y.l.length : Int))))) (fun again => ?_) ?_
  · rcases hg : (((!decide (x.kind = y.kind)) || (!decide (x.n = y.n))) || (!decide (x.no = y.no))) || (!decide (x.name = y.name)) with _ | _
    · refine sr_want rfl (j := 26) (d := 32) rfl rfl rfl (v := false) rfl rfl (ow_fieldAddr fd26_4 ty24 rfl rfl (r := 4) rfl ?_)
      refine sr_want rfl (j := 26) (d := 32) rfl rfl rfl (v := false) rfl rfl (ow_load (v := .slice d0A4 x.l.length d0c4) ty24 H rfl 1 rfl rfl rfl rfl ?_)
      refine sr_want rfl (j := 26) (d := 32) rfl rfl rfl (v := false) rfl rfl (ow_lenS sl24 rfl rfl ?_)
      refine sr_want rfl (j := 26) (d := 32) rfl rfl rfl (v := false) rfl rfl (ow_fieldAddr fd26_4 ty24 rfl rfl (r := 4) rfl ?_)
      refine sr_want rfl (j := 26) (d := 32) rfl rfl rfl (v := false) rfl rfl (ow_load (v := .slice d1A4 y.l.length d1c4) ty24 H rfl 0 rfl rfl rfl rfl ?_)
      refine sr_want rfl (j := 26) (d := 32) rfl rfl rfl (v := false) rfl rfl (ow_lenS sl24 rfl rfl ?_)
      refine sr_want rfl (j := 26) (d := 32) rfl rfl rfl (v := false) rfl rfl (ow_neq rfl rfl ?_)
      refine sr_op rfl rfl (ow_pick (v := .bool (!decide ((x.l.length : Int) = (y.l.length : Int)))) rfl rfl ?_)
      exact sr_live [40, 2, 3, 4] (again _ _ ⟨_, _, rfl, H, by rw [hg] <;> rfl⟩)
    · refine sr_pass rfl (j := 26) (d := 32) rfl rfl rfl (u := true) (v := false) rfl rfl ?_
      refine sr_pass rfl (j := 26) (d := 32) rfl rfl rfl (u := true) (v := false) rfl rfl ?_
      refine sr_pass rfl (j := 26) (d := 32) rfl rfl rfl (u := true) (v := false) rfl rfl ?_
      refine sr_pass rfl (j := 26) (d := 32) rfl rfl rfl (u := true) (v := false) rfl rfl ?_
      refine sr_pass rfl (j := 26) (d := 32) rfl rfl rfl (u := true) (v := false) rfl rfl ?_
      refine sr_pass rfl (j := 26) (d := 32) rfl rfl rfl (u := true) (v := false) rfl rfl ?_
      refine sr_pass rfl (j := 26) (d := 32) rfl rfl rfl (u := true) (v := false) rfl rfl ?_
      refine sr_op rfl rfl (ow_pick (v := .bool true) rfl rfl ?_)
      exact sr_live [40, 2, 3, 4] (again _ _ ⟨_, _, rfl, H, by rw [hg] <;> rfl⟩)
  rintro _ _ ⟨r, _, rfl, H, rfl⟩
  refine sr_nil ?_
  refine st_cond (((((!decide (x.kind = y.kind)) || (!decide (x.n = y.n))) || (!decide (x.no = y.no))) || (!decide (x.name = y.name))) || (!decide ((x.l.length : Int) = (y.l.length : Int)))) rfl (fun hc3 => ?_) (fun hc3 => ?_)
  · refine st_seq ?_
    refine st_region ?_
    refine sr_op rfl rfl (ow_assign (v := .bool false) rfl ?_)
    refine sr_nil ?_
    refine st_ret hb (hR _ _ (.bool false) (res_run (vs := [.bool false]) Tryz.results92 ⟨_, _, rfl, rfl, rfl⟩) ?_)
    exact ⟨_, rfl, by rw [sameX_eq, rsame_no hc3], (H.drop 2)⟩
  · obtain ⟨hsc, hlen⟩ := rsame_yes hc3
    refine st_skip ?_
    refine st_seq ?_
    refine st_seq ?_
    refine st_region ?_
    refine sr_op rfl rfl (ow_assign (v := .int .i64 0) rfl ?_)
    refine sr_nil ?_
    refine st_block ?_
    refine st_loop ?_
    refine st_live [2, 3, 4, 5] ?_
    refine st_ind (fun d_ m_ w_ => ∃ (i : Nat) (r_ : Sl), d_ = x.l.length - i ∧ m_ = (2, .pointer (some ⟨g1, 0, none⟩)) :: (3, .pointer (some ⟨g2, 0, none⟩)) :: (4, .bool false) :: (5, .int .i64 (i : Int)) :: r_ ∧ Hp B I w_ ((g2, Ob [.int .i64 y.kind, .int .i64 y.n, .int .i64 y.no, .string y.name, .slice d1A4 y.l.length d1c4] 26) :: (g1, Ob [.int .i64 x.kind, .int .i64 x.n, .int .i64 x.no, .string x.name, .slice d0A4 x.l.length d0c4] 26) :: L) ∧ i ≤ x.l.length ∧ sameXs x.l y.l = sameXs (x.l.drop i) (y.l.drop i)) _ ⟨0, _, rfl, rfl, H, Nat.zero_le _, rfl⟩ ?_
    rintro _ _ _ ⟨i, r5, rfl, rfl, H, hi, ha⟩ ih6
    refine st_seq ?_
    refine st_seq ?_
    refine st_region ?_
    refine sr_op rfl rfl (ow_move (v := .int .i64 (i : Int)) rfl ?_)
    refine sr_op rfl rfl (ow_fieldAddr fd26_4 ty24 rfl rfl (r := 4) rfl ?_)
    refine sr_op rfl rfl (ow_load (v := .slice d0A4 x.l.length d0c4) ty24 H rfl 1 rfl rfl rfl rfl ?_)
    refine sr_op rfl rfl (ow_lenS sl24 rfl rfl ?_)
    refine sr_op rfl rfl (ow_lss rfl rfl ?_)
    refine sr_nil ?_
    refine st_cond (decide ((i : Int) < (x.l.length : Int))) rfl (fun hc7 => ?_) (fun hc7 => ?_)
    · have hc7 := of_decide_eq_true hc7
      refine st_skip ?_
      refine st_seq ?_
      refine st_block ?_
      refine st_seq ?_
      obtain ⟨e8, he8⟩ : ∃ q_, x.l[i]? = some q_ := ⟨_, List.getElem?_eq_getElem (by omega)⟩
      obtain ⟨b8, o8, us8, hA8, hat8, hul8, hr8⟩ := RepS.get d0_4 he8
      have d8 := hr8
      obtain ⟨d8v4, rfl, d8_0, d8_1, d8_2, d8_3, d8_4⟩ := ex_iff.1 hr8
      obtain ⟨d8A4, d8c4, rfl, d8m4, d8M4, d8_4⟩ := RepS.open_ d8_4
      obtain ⟨e9, he9⟩ : ∃ q_, y.l[i]? = some q_ := ⟨_, List.getElem?_eq_getElem (by omega)⟩
      obtain ⟨b9, o9, us9, hA9, hat9, hul9, hr9⟩ := RepS.get d1_4 he9
      have d9 := hr9
      obtain ⟨d9v4, rfl, d9_0, d9_1, d9_2, d9_3, d9_4⟩ := ex_iff.1 hr9
      obtain ⟨d9A4, d9c4, rfl, d9m4, d9M4, d9_4⟩ := RepS.open_ d9_4
      refine st_draw (F := (fun w_ => ∃ Iq_, Le I Iq_ ∧ Hp B Iq_ w_ [(g2, Ob [.int .i64 y.kind, .int .i64 y.n, .int .i64 y.no, .string y.name, .slice d1A4 y.l.length d1c4] 26), (g1, Ob [.int .i64 x.kind, .int .i64 x.n, .int .i64 x.no, .string x.name, .slice d0A4 x.l.length d0c4] 26)])) (p0 := [0, 1, 2, 3, 4, 5, 6, 7, 8, 9]) (plan := [(10, [11], [])]) [] [] [(57, .agg #[.int .i64 e9.kind, .int .i64 e9.n, .int .i64 e9.no, .string e9.name, .slice d9A4 e9.l.length d9c4]), (56, .pointer (some ⟨b9, o9 + i * 5, none⟩)), (55, .int .i64 (i : Int)), (54, .slice d1A4 y.l.length d1c4), (53, .pointer (some ⟨g2, 4, none⟩)), (52, .agg #[.int .i64 e8.kind, .int .i64 e8.n, .int .i64 e8.no, .string e8.name, .slice d8A4 e8.l.length d8c4]), (51, .pointer (some ⟨b8, o8 + i * 5, none⟩)), (50, .int .i64 (i : Int)), (49, .slice d0A4 x.l.length d0c4), (48, .pointer (some ⟨g1, 4, none⟩))] (by kernel_rfl) rfl ?_ ⟨_, Le.refl _, H.drew.pick [0, 1] (by decide)⟩ ?_
      · refine ⟨kn_op rfl rfl (wantB_none rfl) fun _ hF2 => ?_, ?_⟩
        · obtain ⟨_, hle2, H2⟩ := hF2
          refine  (ow_fieldAddr fd26_4 ty24 rfl rfl (r := 4) rfl ?_)
          exact ⟨rfl, rfl⟩
        refine ⟨kn_op rfl rfl (wantB_none rfl) fun _ hF2 => ?_, ?_⟩
        · obtain ⟨_, hle2, H2⟩ := hF2
          refine  (ow_load (v := .slice d0A4 x.l.length d0c4) ty24 H2 rfl 1 rfl rfl rfl rfl ?_)
          exact ⟨rfl, rfl⟩
        refine ⟨kn_op rfl rfl (wantB_none rfl) fun _ hF2 => ?_, ?_⟩
        · obtain ⟨_, hle2, H2⟩ := hF2
          refine  (ow_move (v := .int .i64 (i : Int)) rfl ?_)
          exact ⟨rfl, rfl⟩
        refine ⟨kn_op rfl rfl (wantB_none rfl) fun _ hF2 => ?_, ?_⟩
        · obtain ⟨_, hle2, H2⟩ := hF2
          refine  (ow_indexAddrA sl24 ty26 hA8 rfl rfl (by omega) (by omega) (r := o8 + i * 5) rfl ?_)
          exact ⟨rfl, rfl⟩
        refine ⟨kn_op rfl rfl (wantB_none rfl) fun _ hF2 => ?_, ?_⟩
        · obtain ⟨_, hle2, H2⟩ := hF2
          refine  (ow_loadI (v := .agg #[.int .i64 e8.kind, .int .i64 e8.n, .int .i64 e8.no, .string e8.name, .slice d8A4 e8.l.length d8c4]) ty26 H2 rfl (At.mono hle2 hat8) rfl rfl rfl ?_)
          exact ⟨rfl, rfl⟩
        refine ⟨kn_op rfl rfl (wantB_none rfl) fun _ hF2 => ?_, ?_⟩
        · obtain ⟨_, hle2, H2⟩ := hF2
          refine  (ow_fieldAddr fd26_4 ty24 rfl rfl (r := 4) rfl ?_)
          exact ⟨rfl, rfl⟩
        refine ⟨kn_op rfl rfl (wantB_none rfl) fun _ hF2 => ?_, ?_⟩
        · obtain ⟨_, hle2, H2⟩ := hF2
          refine  (ow_load (v := .slice d1A4 y.l.length d1c4) ty24 H2 rfl 0 rfl rfl rfl rfl ?_)
          exact ⟨rfl, rfl⟩
        refine ⟨kn_op rfl rfl (wantB_none rfl) fun _ hF2 => ?_, ?_⟩
        · obtain ⟨_, hle2, H2⟩ := hF2
          refine  (ow_move (v := .int .i64 (i : Int)) rfl ?_)
          exact ⟨rfl, rfl⟩
        refine ⟨kn_op rfl rfl (wantB_none rfl) fun _ hF2 => ?_, ?_⟩
        · obtain ⟨_, hle2, H2⟩ := hF2
          refine  (ow_indexAddrA sl24 ty26 hA9 rfl rfl (by omega) (by omega) (r := o9 + i * 5) rfl ?_)
          exact ⟨rfl, rfl⟩
        refine ⟨kn_op rfl rfl (wantB_none rfl) fun _ hF2 => ?_, ?_⟩
        · obtain ⟨_, hle2, H2⟩ := hF2
          refine  (ow_loadI (v := .agg #[.int .i64 e9.kind, .int .i64 e9.n, .int .i64 e9.no, .string e9.name, .slice d9A4 e9.l.length d9c4]) ty26 H2 rfl (At.mono hle2 hat9) rfl rfl rfl ?_)
          exact ⟨rfl, rfl⟩
        exact trivial
      have H := H.drew
      refine cw_op rfl (wantB_none rfl) (ow_call en92 rfl (ih (by have h_ := Ex.pc_at he8; omega) H d8 d9) ?_)
      rintro _ _ ⟨rfl, H⟩
      refine af_some [(59, .bool (!(sameX e8 e9)))] (fun w_ => ∃ Iq_, Le I Iq_ ∧ Hp B Iq_ w_ [(g2, Ob [.int .i64 y.kind, .int .i64 y.n, .int .i64 y.no, .string y.name, .slice d1A4 y.l.length d1c4] 26), (g1, Ob [.int .i64 x.kind, .int .i64 x.n, .int .i64 x.no, .string x.name, .slice d0A4 x.l.length d0c4] 26)]) rfl ⟨_, Le.refl _, H.pick [0, 1] (by decide)⟩ ?_ ?_
      · refine ⟨kn_op rfl rfl (wantB_none rfl) fun _ hF2 => ?_, ?_⟩
        · obtain ⟨_, hle2, H2⟩ := hF2
          refine  (ow_not rfl ?_)
          exact ⟨rfl, rfl⟩
        exact trivial
      refine cw_nil ?_
      refine st_cond (!(sameX e8 e9)) rfl (fun hc10 => ?_) (fun hc10 => ?_)
      · have hbad := bnt hc10
        refine st_seq ?_
        refine st_region ?_
        refine sr_op rfl rfl (ow_assign (v := .bool false) rfl ?_)
        refine sr_nil ?_
        refine st_ret hb (hR _ _ (.bool false) (res_run (vs := [.bool false]) Tryz.results92 ⟨_, _, rfl, rfl, rfl⟩) ?_)
        exact ⟨_, rfl, by rw [sameX_eq, ha, drop_some he8, drop_some he9, sameXs, hbad, Bool.false_and, Bool.and_false], (H.drop 2)⟩
      · have hgood := bnf hc10
        refine st_skip ?_
        refine st_inBlock ?_
        refine st_region ?_
        refine sr_op rfl rfl (ow_move (v := .int .i64 (i : Int)) rfl ?_)
        refine sr_op rfl rfl (ow_add (r := ((i + 1 : Nat) : Int)) rfl rfl (inc_i64 (by omega)) ?_)
        refine sr_op rfl rfl (ow_assign (v := .int .i64 ((i + 1 : Nat) : Int)) rfl ?_)
        refine sr_nil ?_
        exact st_inLoop (st_live [2, 3, 4, 5] (ih6 _ _ _ (by omega) ⟨i + 1, _, rfl, rfl, H, by omega, by rw [ha, drop_some he8, drop_some he9, sameXs, hgood, Bool.true_and]⟩))
    · have hc7 := of_decide_eq_false hc7
      refine st_exit rfl ?_
      refine st_seq ?_
      refine st_region ?_
      refine sr_op rfl rfl (ow_assign (v := .bool true) rfl ?_)
      refine sr_nil ?_
      refine st_ret hb (hR _ _ (.bool true) (res_run (vs := [.bool true]) Tryz.results92 ⟨_, _, rfl, rfl, rfl⟩) ?_)
      have h1 : x.l.drop i = [] := List.drop_of_length_le (by omega)
      have h2 : y.l.drop i = [] := List.drop_of_length_le (by omega)
      exact ⟨_, rfl, by rw [sameX_eq, ha, h1, h2, hsc]; rfl, (H.drop 2)⟩
theorem rSame_c {B I L w} {p q : Po} {us ws : List Value} (H : Hp B I w L) (hp : RepL I (encPo p) us) (hq : RepL I (encPo q) ws) : Calls Tryz.prog 34 #[.agg us.toArray, .agg ws.toArray] w (Rt fun r w' => r = .bool (sameP p q) ∧ Hp B I w' L) := by
  have d0 := hp
  obtain ⟨d0v1, d0v2, d0v3, d0v8, rfl, d0_0, d0_1, d0_2, d0_3, d0_4, d0_5, d0_6, d0_7, d0_8, d0_9⟩ := po_iff.1 hp
  obtain ⟨d0A1, d0c1, rfl, d0m1, d0M1, d0_1⟩ := RepS.open_ d0_1
  obtain ⟨d0A2, d0c2, rfl, d0m2, d0M2, d0_2⟩ := RepS.open_ d0_2
  obtain ⟨d0A3, d0c3, rfl, d0m3, d0M3, d0_3⟩ := RepS.open_ d0_3
  obtain ⟨d0A8, d0c8, rfl, d0m8, d0M8, d0_8⟩ := RepS.open_ d0_8
  have d1 := hq
  obtain ⟨d1v1, d1v2, d1v3, d1v8, rfl, d1_0, d1_1, d1_2, d1_3, d1_4, d1_5, d1_6, d1_7, d1_8, d1_9⟩ := po_iff.1 hq
  obtain ⟨d1A1, d1c1, rfl, d1m1, d1M1, d1_1⟩ := RepS.open_ d1_1
  obtain ⟨d1A2, d1c2, rfl, d1m2, d1M2, d1_2⟩ := RepS.open_ d1_2
  obtain ⟨d1A3, d1c3, rfl, d1m3, d1M3, d1_3⟩ := RepS.open_ d1_3
  obtain ⟨d1A8, d1c8, rfl, d1m8, d1M8, d1_8⟩ := RepS.open_ d1_8
  refine calls_st (n := 97) Tryz.func34 rfl rfl rfl ?_
  intro G bF cs hb hfn hR hP
  simp only [ini]
  refine st_seq ?_
  refine st_region ?_
  refine sr_op rfl rfl (ow_box H (v := .agg #[.string p.name, .slice d0A1 p.kinds.length d0c1, .slice d0A2 p.offices.length d0c2, .slice d0A3 p.rules.length d0c3, .int .i64 p.change.kind, .int .i64 p.change.n, .int .i64 p.change.no, .string p.change.name, .slice d0A8 p.change.l.length d0c8, .int .i64 p.mode]) rfl [.string p.name, .slice d0A1 p.kinds.length d0c1, .slice d0A2 p.offices.length d0c2, .slice d0A3 p.rules.length d0c3, .int .i64 p.change.kind, .int .i64 p.change.n, .int .i64 p.change.no, .string p.change.name, .slice d0A8 p.change.l.length d0c8, .int .i64 p.mode] rfl (fun g1 _ H => ?_))
  refine sr_op rfl rfl (ow_box H (v := .agg #[.string q.name, .slice d1A1 q.kinds.length d1c1, .slice d1A2 q.offices.length d1c2, .slice d1A3 q.rules.length d1c3, .int .i64 q.change.kind, .int .i64 q.change.n, .int .i64 q.change.no, .string q.change.name, .slice d1A8 q.change.l.length d1c8, .int .i64 q.mode]) rfl [.string q.name, .slice d1A1 q.kinds.length d1c1, .slice d1A2 q.offices.length d1c2, .slice d1A3 q.rules.length d1c3, .int .i64 q.change.kind, .int .i64 q.change.n, .int .i64 q.change.no, .string q.change.name, .slice d1A8 q.change.l.length d1c8, .int .i64 q.mode] rfl (fun g2 _ H => ?_))
  refine sr_op rfl rfl (ow_assign (v := .bool false) rfl ?_)
  refine sr_nil ?_
  refine st_seq ?_
  refine st_seq ?_
  refine st_region ?_
  refine sr_op rfl rfl (ow_fieldAddr fd28_0 ty9 rfl rfl (r := 0) rfl ?_)
  refine sr_op rfl rfl (ow_load (v := .string p.name) ty9 H rfl 1 rfl rfl rfl rfl ?_)
  refine sr_op rfl rfl (ow_fieldAddr fd28_0 ty9 rfl rfl (r := 0) rfl ?_)
  refine sr_op rfl rfl (ow_load (v := .string q.name) ty9 H rfl 0 rfl rfl rfl rfl ?_)
  refine sr_op rfl rfl (ow_sne rfl rfl ?_)
  refine sr_op rfl rfl (ow_move (v := .bool (!decide (p.name = q.name))) rfl ?_)
  refine sr_cut 6 (fun m_ w_ => ∃ (r_ : Sl) (v_ : Bool), m_ = (19, .bool v_) :: (2, .pointer (some ⟨g1, 0, none⟩)) :: (3, .pointer (some ⟨g2, 0, none⟩)) :: (4, .bool false) :: r_ ∧ Hp B I w_ ((g2, Ob [.string q.name, .slice d1A1 q.kinds.length d1c1, .slice d1A2 q.offices.length d1c2, .slice d1A3 q.rules.length d1c3, .int .i64 q.change.kind, .int .i64 q.change.n, .int .i64 q.change.no, .string q.change.name, .slice d1A8 q.change.l.length d1c8, .int .i64 q.mode] 28) :: (g1, Ob [.string p.name, .slice d0A1 p.kinds.length d0c1, .slice d0A2 p.offices.length d0c2, .slice d0A3 p.rules.length d0c3, .int .i64 p.change.kind, .int .i64 p.change.n, .int .i64 p.change.no, .string p.change.name, .slice d0A8 p.change.l.length d0c8, .int .i64 p.mode] 28) :: L) ∧ v_ = ((!decide (p.name = q.name)) || (!decide (p.mode = q.mode)))) (fun again => ?_) ?_
  · rcases hg : !decide (p.name = q.name) with _ | _
    · refine sr_want rfl (j := 5) (d := 13) rfl rfl rfl (v := false) rfl rfl (ow_fieldAddr fd28_5 ty3 rfl rfl (r := 9) rfl ?_)
      refine sr_want rfl (j := 5) (d := 13) rfl rfl rfl (v := false) rfl rfl (ow_load (v := .int .i64 p.mode) ty3 H rfl 1 rfl rfl rfl rfl ?_)
      refine sr_want rfl (j := 5) (d := 13) rfl rfl rfl (v := false) rfl rfl (ow_fieldAddr fd28_5 ty3 rfl rfl (r := 9) rfl ?_)
      refine sr_want rfl (j := 5) (d := 13) rfl rfl rfl (v := false) rfl rfl (ow_load (v := .int .i64 q.mode) ty3 H rfl 0 rfl rfl rfl rfl ?_)
      refine sr_want rfl (j := 5) (d := 13) rfl rfl rfl (v := false) rfl rfl (ow_neq rfl rfl ?_)
      refine sr_op rfl rfl (ow_pick (v := .bool (!decide (p.mode = q.mode))) rfl rfl ?_)
      exact sr_live [19, 2, 3, 4] (again _ _ ⟨_, _, rfl, H, by rw [hg] <;> rfl⟩)
    · refine sr_pass rfl (j := 5) (d := 13) rfl rfl rfl (u := true) (v := false) rfl rfl ?_
      refine sr_pass rfl (j := 5) (d := 13) rfl rfl rfl (u := true) (v := false) rfl rfl ?_
      refine sr_pass rfl (j := 5) (d := 13) rfl rfl rfl (u := true) (v := false) rfl rfl ?_
      refine sr_pass rfl (j := 5) (d := 13) rfl rfl rfl (u := true) (v := false) rfl rfl ?_
      refine sr_pass rfl (j := 5) (d := 13) rfl rfl rfl (u := true) (v := false) rfl rfl ?_
      refine sr_op rfl rfl (ow_pick (v := .bool true) rfl rfl ?_)
      exact sr_live [19, 2, 3, 4] (again _ _ ⟨_, _, rfl, H, by rw [hg] <;> rfl⟩)
  rintro _ _ ⟨r, _, rfl, H, rfl⟩
  refine sr_op rfl rfl (ow_move (v := .bool ((!decide (p.name = q.name)) || (!decide (p.mode = q.mode)))) rfl ?_)
  refine sr_cut 7 (fun m_ w_ => ∃ (r_ : Sl) (v_ : Bool), m_ = (27, .bool v_) :: (2, .pointer (some ⟨g1, 0, none⟩)) :: (3, .pointer (some ⟨g2, 0, none⟩)) :: (4, .bool false) :: r_ ∧ Hp B I w_ ((g2, Ob [.string q.name, .slice d1A1 q.kinds.length d1c1, .slice d1A2 q.offices.length d1c2, .slice d1A3 q.rules.length d1c3, .int .i64 q.change.kind, .int .i64 q.change.n, .int .i64 q.change.no, .string q.change.name, .slice d1A8 q.change.l.length d1c8, .int .i64 q.mode] 28) :: (g1, Ob [.string p.name, .slice d0A1 p.kinds.length d0c1, .slice d0A2 p.offices.length d0c2, .slice d0A3 p.rules.length d0c3, .int .i64 p.change.kind, .int .i64 p.change.n, .int .i64 p.change.no, .string p.change.name, .slice d0A8 p.change.l.length d0c8, .int .i64 p.mode] 28) :: L) ∧ v_ = (((!decide (p.name = q.name)) || (!decide (p.mode = q.mode))) || (!(sameT p.offices q.offices)))) (fun again => ?_) ?_
  · rcases hg : (!decide (p.name = q.name)) || (!decide (p.mode = q.mode)) with _ | _
    · refine sr_want rfl (j := 12) (d := 20) rfl rfl rfl (v := false) rfl rfl (ow_fieldAddr fd28_2 ty22 rfl rfl (r := 2) rfl ?_)
      refine sr_want rfl (j := 12) (d := 20) rfl rfl rfl (v := false) rfl rfl (ow_load (v := .slice d0A2 p.offices.length d0c2) ty22 H rfl 1 rfl rfl rfl rfl ?_)
      refine sr_want rfl (j := 12) (d := 20) rfl rfl rfl (v := false) rfl rfl (ow_fieldAddr fd28_2 ty22 rfl rfl (r := 2) rfl ?_)
      refine sr_want rfl (j := 12) (d := 20) rfl rfl rfl (v := false) rfl rfl (ow_load (v := .slice d1A2 q.offices.length d1c2) ty22 H rfl 0 rfl rfl rfl rfl ?_)
      refine sr_want rfl (j := 12) (d := 20) rfl rfl rfl (v := false) rfl rfl (ow_call en91 rfl (rsameT_c H d0_2 d1_2) ?_)
      rintro _ _ ⟨rfl, H⟩
      refine sr_want rfl (j := 12) (d := 20) rfl rfl rfl (v := false) rfl rfl (ow_not rfl ?_)
      refine sr_op rfl rfl (ow_pick (v := .bool (!(sameT p.offices q.offices))) rfl rfl ?_)
      exact sr_live [27, 2, 3, 4] (again _ _ ⟨_, _, rfl, H, by rw [hg] <;> rfl⟩)
    · refine sr_pass rfl (j := 12) (d := 20) rfl rfl rfl (u := true) (v := false) rfl rfl ?_
      refine sr_pass rfl (j := 12) (d := 20) rfl rfl rfl (u := true) (v := false) rfl rfl ?_
      refine sr_pass rfl (j := 12) (d := 20) rfl rfl rfl (u := true) (v := false) rfl rfl ?_
      refine sr_pass rfl (j := 12) (d := 20) rfl rfl rfl (u := true) (v := false) rfl rfl ?_
      refine sr_pass rfl (j := 12) (d := 20) rfl rfl rfl (u := true) (v := false) rfl rfl ?_
      refine sr_pass rfl (j := 12) (d := 20) rfl rfl rfl (u := true) (v := false) rfl rfl ?_
      refine sr_op rfl rfl (ow_pick (v := .bool true) rfl rfl ?_)
      exact sr_live [27, 2, 3, 4] (again _ _ ⟨_, _, rfl, H, by rw [hg] <;> rfl⟩)
  rintro _ _ ⟨r, _, rfl, H, rfl⟩
  refine sr_op rfl rfl (ow_move (v := .bool (((!decide (p.name = q.name)) || (!decide (p.mode = q.mode))) || (!(sameT p.offices q.offices)))) rfl ?_)
  refine sr_cut 7 (fun m_ w_ => ∃ (r_ : Sl) (v_ : Bool), m_ = (35, .bool v_) :: (2, .pointer (some ⟨g1, 0, none⟩)) :: (3, .pointer (some ⟨g2, 0, none⟩)) :: (4, .bool false) :: r_ ∧ Hp B I w_ ((g2, Ob [.string q.name, .slice d1A1 q.kinds.length d1c1, .slice d1A2 q.offices.length d1c2, .slice d1A3 q.rules.length d1c3, .int .i64 q.change.kind, .int .i64 q.change.n, .int .i64 q.change.no, .string q.change.name, .slice d1A8 q.change.l.length d1c8, .int .i64 q.mode] 28) :: (g1, Ob [.string p.name, .slice d0A1 p.kinds.length d0c1, .slice d0A2 p.offices.length d0c2, .slice d0A3 p.rules.length d0c3, .int .i64 p.change.kind, .int .i64 p.change.n, .int .i64 p.change.no, .string p.change.name, .slice d0A8 p.change.l.length d0c8, .int .i64 p.mode] 28) :: L) ∧ v_ = ((((!decide (p.name = q.name)) || (!decide (p.mode = q.mode))) || (!(sameT p.offices q.offices))) || (!(sameT p.kinds q.kinds)))) (fun again => ?_) ?_
  · rcases hg : ((!decide (p.name = q.name)) || (!decide (p.mode = q.mode))) || (!(sameT p.offices q.offices)) with _ | _
    · refine sr_want rfl (j := 20) (d := 28) rfl rfl rfl (v := false) rfl rfl (ow_fieldAddr fd28_1 ty22 rfl rfl (r := 1) rfl ?_)
      refine sr_want rfl (j := 20) (d := 28) rfl rfl rfl (v := false) rfl rfl (ow_load (v := .slice d0A1 p.kinds.length d0c1) ty22 H rfl 1 rfl rfl rfl rfl ?_)
      refine sr_want rfl (j := 20) (d := 28) rfl rfl rfl (v := false) rfl rfl (ow_fieldAddr fd28_1 ty22 rfl rfl (r := 1) rfl ?_)
      refine sr_want rfl (j := 20) (d := 28) rfl rfl rfl (v := false) rfl rfl (ow_load (v := .slice d1A1 q.kinds.length d1c1) ty22 H rfl 0 rfl rfl rfl rfl ?_)
      refine sr_want rfl (j := 20) (d := 28) rfl rfl rfl (v := false) rfl rfl (ow_call en91 rfl (rsameT_c H d0_1 d1_1) ?_)
      rintro _ _ ⟨rfl, H⟩
      refine sr_want rfl (j := 20) (d := 28) rfl rfl rfl (v := false) rfl rfl (ow_not rfl ?_)
      refine sr_op rfl rfl (ow_pick (v := .bool (!(sameT p.kinds q.kinds))) rfl rfl ?_)
      exact sr_live [35, 2, 3, 4] (again _ _ ⟨_, _, rfl, H, by rw [hg] <;> rfl⟩)
    · refine sr_pass rfl (j := 20) (d := 28) rfl rfl rfl (u := true) (v := false) rfl rfl ?_
      refine sr_pass rfl (j := 20) (d := 28) rfl rfl rfl (u := true) (v := false) rfl rfl ?_
      refine sr_pass rfl (j := 20) (d := 28) rfl rfl rfl (u := true) (v := false) rfl rfl ?_
      refine sr_pass rfl (j := 20) (d := 28) rfl rfl rfl (u := true) (v := false) rfl rfl ?_
      refine sr_pass rfl (j := 20) (d := 28) rfl rfl rfl (u := true) (v := false) rfl rfl ?_
      refine sr_pass rfl (j := 20) (d := 28) rfl rfl rfl (u := true) (v := false) rfl rfl ?_
      refine sr_op rfl rfl (ow_pick (v := .bool true) rfl rfl ?_)
      exact sr_live [35, 2, 3, 4] (again _ _ ⟨_, _, rfl, H, by rw [hg] <;> rfl⟩)
  rintro _ _ ⟨r, _, rfl, H, rfl⟩
  refine sr_op rfl rfl (ow_move (v := .bool ((((!decide (p.name = q.name)) || (!decide (p.mode = q.mode))) || (!(sameT p.offices q.offices))) || (!(sameT p.kinds q.kinds)))) rfl ?_)
  refine sr_cut 8 (fun m_ w_ => ∃ (r_ : Sl) (v_ : Bool), m_ = (44, .bool v_) :: (2, .pointer (some ⟨g1, 0, none⟩)) :: (3, .pointer (some ⟨g2, 0, none⟩)) :: (4, .bool false) :: r_ ∧ Hp B I w_ ((g2, Ob [.string q.name, .slice d1A1 q.kinds.length d1c1, .slice d1A2 q.offices.length d1c2, .slice d1A3 q.rules.length d1c3, .int .i64 q.change.kind, .int .i64 q.change.n, .int .i64 q.change.no, .string q.change.name, .slice d1A8 q.change.l.length d1c8, .int .i64 q.mode] 28) :: (g1, Ob [.string p.name, .slice d0A1 p.kinds.length d0c1, .slice d0A2 p.offices.length d0c2, .slice d0A3 p.rules.length d0c3, .int .i64 p.change.kind, .int .i64 p.change.n, .int .i64 p.change.no, .string p.change.name, .slice d0A8 p.change.l.length d0c8, .int .i64 p.mode] 28) :: L) ∧ v_ = (((((!decide (p.name = q.name)) || (!decide (p.mode = q.mode))) || (!(sameT p.offices q.offices))) || (!(sameT p.kinds q.kinds))) || (!decide ((p.rules.length : Int) = (q.rules.length : Int))))) (fun again => ?_) ?_
  · rcases hg : (((!decide (p.name = q.name)) || (!decide (p.mode = q.mode))) || (!(sameT p.offices q.offices))) || (!(sameT p.kinds q.kinds)) with _ | _
    · refine sr_want rfl (j := 28) (d := 36) rfl rfl rfl (v := false) rfl rfl (ow_fieldAddr fd28_3 ty23 rfl rfl (r := 3) rfl ?_)
      refine sr_want rfl (j := 28) (d := 36) rfl rfl rfl (v := false) rfl rfl (ow_load (v := .slice d0A3 p.rules.length d0c3) ty23 H rfl 1 rfl rfl rfl rfl ?_)
      refine sr_want rfl (j := 28) (d := 36) rfl rfl rfl (v := false) rfl rfl (ow_lenS sl23 rfl rfl ?_)
      refine sr_want rfl (j := 28) (d := 36) rfl rfl rfl (v := false) rfl rfl (ow_fieldAddr fd28_3 ty23 rfl rfl (r := 3) rfl ?_)
      refine sr_want rfl (j := 28) (d := 36) rfl rfl rfl (v := false) rfl rfl (ow_load (v := .slice d1A3 q.rules.length d1c3) ty23 H rfl 0 rfl rfl rfl rfl ?_)
      refine sr_want rfl (j := 28) (d := 36) rfl rfl rfl (v := false) rfl rfl (ow_lenS sl23 rfl rfl ?_)
      refine sr_want rfl (j := 28) (d := 36) rfl rfl rfl (v := false) rfl rfl (ow_neq rfl rfl ?_)
      refine sr_op rfl rfl (ow_pick (v := .bool (!decide ((p.rules.length : Int) = (q.rules.length : Int)))) rfl rfl ?_)
      exact sr_live [44, 2, 3, 4] (again _ _ ⟨_, _, rfl, H, by rw [hg] <;> rfl⟩)
    · refine sr_pass rfl (j := 28) (d := 36) rfl rfl rfl (u := true) (v := false) rfl rfl ?_
      refine sr_pass rfl (j := 28) (d := 36) rfl rfl rfl (u := true) (v := false) rfl rfl ?_
      refine sr_pass rfl (j := 28) (d := 36) rfl rfl rfl (u := true) (v := false) rfl rfl ?_
      refine sr_pass rfl (j := 28) (d := 36) rfl rfl rfl (u := true) (v := false) rfl rfl ?_
      refine sr_pass rfl (j := 28) (d := 36) rfl rfl rfl (u := true) (v := false) rfl rfl ?_
      refine sr_pass rfl (j := 28) (d := 36) rfl rfl rfl (u := true) (v := false) rfl rfl ?_
      refine sr_pass rfl (j := 28) (d := 36) rfl rfl rfl (u := true) (v := false) rfl rfl ?_
      refine sr_op rfl rfl (ow_pick (v := .bool true) rfl rfl ?_)
      exact sr_live [44, 2, 3, 4] (again _ _ ⟨_, _, rfl, H, by rw [hg] <;> rfl⟩)
  rintro _ _ ⟨r, _, rfl, H, rfl⟩
  refine sr_op rfl rfl (ow_move (v := .bool (((((!decide (p.name = q.name)) || (!decide (p.mode = q.mode))) || (!(sameT p.offices q.offices))) || (!(sameT p.kinds q.kinds))) || (!decide ((p.rules.length : Int) = (q.rules.length : Int))))) rfl ?_)
  refine sr_cut 7 (fun m_ w_ => ∃ (r_ : Sl) (v_ : Bool), m_ = (52, .bool v_) :: (2, .pointer (some ⟨g1, 0, none⟩)) :: (3, .pointer (some ⟨g2, 0, none⟩)) :: (4, .bool false) :: r_ ∧ Hp B I w_ ((g2, Ob [.string q.name, .slice d1A1 q.kinds.length d1c1, .slice d1A2 q.offices.length d1c2, .slice d1A3 q.rules.length d1c3, .int .i64 q.change.kind, .int .i64 q.change.n, .int .i64 q.change.no, .string q.change.name, .slice d1A8 q.change.l.length d1c8, .int .i64 q.mode] 28) :: (g1, Ob [.string p.name, .slice d0A1 p.kinds.length d0c1, .slice d0A2 p.offices.length d0c2, .slice d0A3 p.rules.length d0c3, .int .i64 p.change.kind, .int .i64 p.change.n, .int .i64 p.change.no, .string p.change.name, .slice d0A8 p.change.l.length d0c8, .int .i64 p.mode] 28) :: L) ∧ v_ = ((((((!decide (p.name = q.name)) || (!decide (p.mode = q.mode))) || (!(sameT p.offices q.offices))) || (!(sameT p.kinds q.kinds))) || (!decide ((p.rules.length : Int) = (q.rules.length : Int)))) || (!(sameX p.change q.change)))) (fun again => ?_) ?_
  · rcases hg : ((((!decide (p.name = q.name)) || (!decide (p.mode = q.mode))) || (!(sameT p.offices q.offices))) || (!(sameT p.kinds q.kinds))) || (!decide ((p.rules.length : Int) = (q.rules.length : Int))) with _ | _
    · refine sr_want rfl (j := 37) (d := 45) rfl rfl rfl (v := false) rfl rfl (ow_fieldAddr fd28_4 ty26 rfl rfl (r := 4) rfl ?_)
      refine sr_want rfl (j := 37) (d := 45) rfl rfl rfl (v := false) rfl rfl (ow_load (v := .agg #[.int .i64 p.change.kind, .int .i64 p.change.n, .int .i64 p.change.no, .string p.change.name, .slice d0A8 p.change.l.length d0c8]) ty26 H rfl 1 rfl rfl rfl rfl ?_)
      refine sr_want rfl (j := 37) (d := 45) rfl rfl rfl (v := false) rfl rfl (ow_fieldAddr fd28_4 ty26 rfl rfl (r := 4) rfl ?_)
      refine sr_want rfl (j := 37) (d := 45) rfl rfl rfl (v := false) rfl rfl (ow_load (v := .agg #[.int .i64 q.change.kind, .int .i64 q.change.n, .int .i64 q.change.no, .string q.change.name, .slice d1A8 q.change.l.length d1c8]) ty26 H rfl 0 rfl rfl rfl rfl ?_)
      refine sr_want rfl (j := 37) (d := 45) rfl rfl rfl (v := false) rfl rfl (ow_call en92 rfl (rsameX_c _ (Nat.le_refl _) H (ex_iff.2 ⟨_, rfl, d0_4, d0_5, d0_6, d0_7, d0_8⟩) (ex_iff.2 ⟨_, rfl, d1_4, d1_5, d1_6, d1_7, d1_8⟩)) ?_)
      rintro _ _ ⟨rfl, H⟩
      refine sr_want rfl (j := 37) (d := 45) rfl rfl rfl (v := false) rfl rfl (ow_not rfl ?_)
      refine sr_op rfl rfl (ow_pick (v := .bool (!(sameX p.change q.change))) rfl rfl ?_)
      exact sr_live [52, 2, 3, 4] (again _ _ ⟨_, _, rfl, H, by rw [hg] <;> rfl⟩)
    · refine sr_pass rfl (j := 37) (d := 45) rfl rfl rfl (u := true) (v := false) rfl rfl ?_
      refine sr_pass rfl (j := 37) (d := 45) rfl rfl rfl (u := true) (v := false) rfl rfl ?_
      refine sr_pass rfl (j := 37) (d := 45) rfl rfl rfl (u := true) (v := false) rfl rfl ?_
      refine sr_pass rfl (j := 37) (d := 45) rfl rfl rfl (u := true) (v := false) rfl rfl ?_
      refine sr_pass rfl (j := 37) (d := 45) rfl rfl rfl (u := true) (v := false) rfl rfl ?_
      refine sr_pass rfl (j := 37) (d := 45) rfl rfl rfl (u := true) (v := false) rfl rfl ?_
      refine sr_op rfl rfl (ow_pick (v := .bool true) rfl rfl ?_)
      exact sr_live [52, 2, 3, 4] (again _ _ ⟨_, _, rfl, H, by rw [hg] <;> rfl⟩)
  rintro _ _ ⟨r, _, rfl, H, rfl⟩
  refine sr_nil ?_
  refine st_cond ((((((!decide (p.name = q.name)) || (!decide (p.mode = q.mode))) || (!(sameT p.offices q.offices))) || (!(sameT p.kinds q.kinds))) || (!decide ((p.rules.length : Int) = (q.rules.length : Int)))) || (!(sameX p.change q.change))) rfl (fun hc3 => ?_) (fun hc3 => ?_)
  · refine st_seq ?_
    refine st_region ?_
    refine sr_op rfl rfl (ow_assign (v := .bool false) rfl ?_)
    refine sr_nil ?_
    refine st_ret hb (hR _ _ (.bool false) (res_run (vs := [.bool false]) Tryz.results34 ⟨_, _, rfl, rfl, rfl⟩) ?_)
    exact ⟨_, rfl, by rw [sameP, rsamep_no hc3], (H.drop 2)⟩
  · obtain ⟨hsc, hlen, hch⟩ := rsamep_yes hc3
    refine st_skip ?_
    refine st_seq ?_
    refine st_seq ?_
    refine st_region ?_
    refine sr_op rfl rfl (ow_assign (v := .int .i64 0) rfl ?_)
    refine sr_nil ?_
    refine st_block ?_
    refine st_loop ?_
    refine st_live [2, 3, 4, 5] ?_
    refine st_ind (fun d_ m_ w_ => ∃ (i : Nat) (r_ : Sl), d_ = p.rules.length - i ∧ m_ = (2, .pointer (some ⟨g1, 0, none⟩)) :: (3, .pointer (some ⟨g2, 0, none⟩)) :: (4, .bool false) :: (5, .int .i64 (i : Int)) :: r_ ∧ Hp B I w_ ((g2, Ob [.string q.name, .slice d1A1 q.kinds.length d1c1, .slice d1A2 q.offices.length d1c2, .slice d1A3 q.rules.length d1c3, .int .i64 q.change.kind, .int .i64 q.change.n, .int .i64 q.change.no, .string q.change.name, .slice d1A8 q.change.l.length d1c8, .int .i64 q.mode] 28) :: (g1, Ob [.string p.name, .slice d0A1 p.kinds.length d0c1, .slice d0A2 p.offices.length d0c2, .slice d0A3 p.rules.length d0c3, .int .i64 p.change.kind, .int .i64 p.change.n, .int .i64 p.change.no, .string p.change.name, .slice d0A8 p.change.l.length d0c8, .int .i64 p.mode] 28) :: L) ∧ i ≤ p.rules.length ∧ sameRs p.rules q.rules = sameRs (p.rules.drop i) (q.rules.drop i)) _ ⟨0, _, rfl, rfl, H, Nat.zero_le _, rfl⟩ ?_
    rintro _ _ _ ⟨i, r5, rfl, rfl, H, hi, ha⟩ ih6
    refine st_seq ?_
    refine st_seq ?_
    refine st_region ?_
    refine sr_op rfl rfl (ow_move (v := .int .i64 (i : Int)) rfl ?_)
    refine sr_op rfl rfl (ow_fieldAddr fd28_3 ty23 rfl rfl (r := 3) rfl ?_)
    refine sr_op rfl rfl (ow_load (v := .slice d0A3 p.rules.length d0c3) ty23 H rfl 1 rfl rfl rfl rfl ?_)
    refine sr_op rfl rfl (ow_lenS sl23 rfl rfl ?_)
    refine sr_op rfl rfl (ow_lss rfl rfl ?_)
    refine sr_nil ?_
    refine st_cond (decide ((i : Int) < (p.rules.length : Int))) rfl (fun hc7 => ?_) (fun hc7 => ?_)
    · have hc7 := of_decide_eq_true hc7
      refine st_skip ?_
      refine st_seq ?_
      refine st_block ?_
      refine st_seq ?_
      refine st_region ?_
      refine sr_op rfl rfl (ow_fieldAddr fd28_3 ty23 rfl rfl (r := 3) rfl ?_)
      refine sr_op rfl rfl (ow_load (v := .slice d0A3 p.rules.length d0c3) ty23 H rfl 1 rfl rfl rfl rfl ?_)
      refine sr_op rfl rfl (ow_move (v := .int .i64 (i : Int)) rfl ?_)
      obtain ⟨e8, he8⟩ : ∃ q_, p.rules[i]? = some q_ := ⟨_, List.getElem?_eq_getElem (by omega)⟩
      obtain ⟨b8, o8, us8, hA8, hat8, hul8, hr8⟩ := RepS.get d0_3 he8
      have d8 := hr8
      obtain ⟨d8v7, rfl, d8_0, d8_1, d8_2, d8_3, d8_4, d8_5, d8_6, d8_7⟩ := ru_iff.1 hr8
      obtain ⟨d8A7, d8c7, rfl, d8m7, d8M7, d8_7⟩ := RepS.open_ d8_7
      refine sr_op rfl rfl (ow_indexAddrA sl23 ty84 hA8 rfl rfl (by omega) (by omega) (r := o8 + i * 8) rfl ?_)
      refine sr_op rfl rfl (ow_loadI (v := .agg #[.string e8.kind, .int .i64 e8.kindNo, .int .i64 e8.think, .int .i64 e8.expr.kind, .int .i64 e8.expr.n, .int .i64 e8.expr.no, .string e8.expr.name, .slice d8A7 e8.expr.l.length d8c7]) ty84 H rfl hat8 rfl rfl rfl ?_)
      refine sr_op rfl rfl (ow_alloc ty84 H [.string ⟨#[]⟩, .int .i64 0, .int .i64 0, .int .i64 0, .int .i64 0, .int .i64 0, .string ⟨#[]⟩, .slice none 0 0] rfl (fun g9 _ H => ?_))
      refine sr_op rfl rfl (ow_store ty84 H rfl (v := .agg #[.string e8.kind, .int .i64 e8.kindNo, .int .i64 e8.think, .int .i64 e8.expr.kind, .int .i64 e8.expr.n, .int .i64 e8.expr.no, .string e8.expr.name, .slice d8A7 e8.expr.l.length d8c7]) rfl [.string e8.kind, .int .i64 e8.kindNo, .int .i64 e8.think, .int .i64 e8.expr.kind, .int .i64 e8.expr.n, .int .i64 e8.expr.no, .string e8.expr.name, .slice d8A7 e8.expr.l.length d8c7] rfl rfl rfl 0 rfl rfl (fun _ H => ?_))
      refine sr_nil ?_
      refine st_seq ?_
      refine st_region ?_
      refine sr_op rfl rfl (ow_fieldAddr fd28_3 ty23 rfl rfl (r := 3) rfl ?_)
      refine sr_op rfl rfl (ow_load (v := .slice d1A3 q.rules.length d1c3) ty23 H rfl 1 rfl rfl rfl rfl ?_)
      refine sr_op rfl rfl (ow_move (v := .int .i64 (i : Int)) rfl ?_)
      obtain ⟨e10, he10⟩ : ∃ q_, q.rules[i]? = some q_ := ⟨_, List.getElem?_eq_getElem (by omega)⟩
      obtain ⟨b10, o10, us10, hA10, hat10, hul10, hr10⟩ := RepS.get d1_3 he10
      have d10 := hr10
      obtain ⟨d10v7, rfl, d10_0, d10_1, d10_2, d10_3, d10_4, d10_5, d10_6, d10_7⟩ := ru_iff.1 hr10
      obtain ⟨d10A7, d10c7, rfl, d10m7, d10M7, d10_7⟩ := RepS.open_ d10_7
      refine sr_op rfl rfl (ow_indexAddrA sl23 ty84 hA10 rfl rfl (by omega) (by omega) (r := o10 + i * 8) rfl ?_)
      refine sr_op rfl rfl (ow_loadI (v := .agg #[.string e10.kind, .int .i64 e10.kindNo, .int .i64 e10.think, .int .i64 e10.expr.kind, .int .i64 e10.expr.n, .int .i64 e10.expr.no, .string e10.expr.name, .slice d10A7 e10.expr.l.length d10c7]) ty84 H rfl hat10 rfl rfl rfl ?_)
      refine sr_op rfl rfl (ow_alloc ty84 H [.string ⟨#[]⟩, .int .i64 0, .int .i64 0, .int .i64 0, .int .i64 0, .int .i64 0, .string ⟨#[]⟩, .slice none 0 0] rfl (fun g11 _ H => ?_))
      refine sr_op rfl rfl (ow_store ty84 H rfl (v := .agg #[.string e10.kind, .int .i64 e10.kindNo, .int .i64 e10.think, .int .i64 e10.expr.kind, .int .i64 e10.expr.n, .int .i64 e10.expr.no, .string e10.expr.name, .slice d10A7 e10.expr.l.length d10c7]) rfl [.string e10.kind, .int .i64 e10.kindNo, .int .i64 e10.think, .int .i64 e10.expr.kind, .int .i64 e10.expr.n, .int .i64 e10.expr.no, .string e10.expr.name, .slice d10A7 e10.expr.l.length d10c7] rfl rfl rfl 0 rfl rfl (fun _ H => ?_))
      refine sr_nil ?_
      refine st_seq ?_
      refine st_region ?_
      refine sr_op rfl rfl (ow_fieldAddr fd84_0 ty9 rfl rfl (r := 0) rfl ?_)
      refine sr_op rfl rfl (ow_load (v := .string e8.kind) ty9 H rfl 1 rfl rfl rfl rfl ?_)
      refine sr_op rfl rfl (ow_fieldAddr fd84_0 ty9 rfl rfl (r := 0) rfl ?_)
      refine sr_op rfl rfl (ow_load (v := .string e10.kind) ty9 H rfl 0 rfl rfl rfl rfl ?_)
      refine sr_op rfl rfl (ow_sne rfl rfl ?_)
      refine sr_op rfl rfl (ow_move (v := .bool (!decide (e8.kind = e10.kind))) rfl ?_)
      refine sr_cut 6 (fun m_ w_ => ∃ (r_ : Sl) (v_ : Bool), m_ = (81, .bool v_) :: (2, .pointer (some ⟨g1, 0, none⟩)) :: (3, .pointer (some ⟨g2, 0, none⟩)) :: (4, .bool false) :: (5, .int .i64 (i : Int)) :: (6, .pointer (some ⟨g9, 0, none⟩)) :: (7, .pointer (some ⟨g11, 0, none⟩)) :: r_ ∧ Hp B I w_ ((g11, Ob [.string e10.kind, .int .i64 e10.kindNo, .int .i64 e10.think, .int .i64 e10.expr.kind, .int .i64 e10.expr.n, .int .i64 e10.expr.no, .string e10.expr.name, .slice d10A7 e10.expr.l.length d10c7] 84) :: (g9, Ob [.string e8.kind, .int .i64 e8.kindNo, .int .i64 e8.think, .int .i64 e8.expr.kind, .int .i64 e8.expr.n, .int .i64 e8.expr.no, .string e8.expr.name, .slice d8A7 e8.expr.l.length d8c7] 84) :: (g2, Ob [.string q.name, .slice d1A1 q.kinds.length d1c1, .slice d1A2 q.offices.length d1c2, .slice d1A3 q.rules.length d1c3, .int .i64 q.change.kind, .int .i64 q.change.n, .int .i64 q.change.no, .string q.change.name, .slice d1A8 q.change.l.length d1c8, .int .i64 q.mode] 28) :: (g1, Ob [.string p.name, .slice d0A1 p.kinds.length d0c1, .slice d0A2 p.offices.length d0c2, .slice d0A3 p.rules.length d0c3, .int .i64 p.change.kind, .int .i64 p.change.n, .int .i64 p.change.no, .string p.change.name, .slice d0A8 p.change.l.length d0c8, .int .i64 p.mode] 28) :: L) ∧ v_ = ((!decide (e8.kind = e10.kind)) || (!decide (e8.kindNo = e10.kindNo)))) (fun again => ?_) ?_
      · rcases hg : !decide (e8.kind = e10.kind) with _ | _
        · refine sr_want rfl (j := 5) (d := 75) rfl rfl rfl (v := false) rfl rfl (ow_fieldAddr fd84_1 ty3 rfl rfl (r := 1) rfl ?_)
          refine sr_want rfl (j := 5) (d := 75) rfl rfl rfl (v := false) rfl rfl (ow_load (v := .int .i64 e8.kindNo) ty3 H rfl 1 rfl rfl rfl rfl ?_)
          refine sr_want rfl (j := 5) (d := 75) rfl rfl rfl (v := false) rfl rfl (ow_fieldAddr fd84_1 ty3 rfl rfl (r := 1) rfl ?_)
          refine sr_want rfl (j := 5) (d := 75) rfl rfl rfl (v := false) rfl rfl (ow_load (v := .int .i64 e10.kindNo) ty3 H rfl 0 rfl rfl rfl rfl ?_)
          refine sr_want rfl (j := 5) (d := 75) rfl rfl rfl (v := false) rfl rfl (ow_neq rfl rfl ?_)
          refine sr_op rfl rfl (ow_pick (v := .bool (!decide (e8.kindNo = e10.kindNo))) rfl rfl ?_)
          exact sr_live [81, 2, 3, 4, 5, 6, 7] (again _ _ ⟨_, _, rfl, H, by rw [hg] <;> rfl⟩)
        · refine sr_pass rfl (j := 5) (d := 75) rfl rfl rfl (u := true) (v := false) rfl rfl ?_
          refine sr_pass rfl (j := 5) (d := 75) rfl rfl rfl (u := true) (v := false) rfl rfl ?_
          refine sr_pass rfl (j := 5) (d := 75) rfl rfl rfl (u := true) (v := false) rfl rfl ?_
          refine sr_pass rfl (j := 5) (d := 75) rfl rfl rfl (u := true) (v := false) rfl rfl ?_
          refine sr_pass rfl (j := 5) (d := 75) rfl rfl rfl (u := true) (v := false) rfl rfl ?_
          refine sr_op rfl rfl (ow_pick (v := .bool true) rfl rfl ?_)
          exact sr_live [81, 2, 3, 4, 5, 6, 7] (again _ _ ⟨_, _, rfl, H, by rw [hg] <;> rfl⟩)
      rintro _ _ ⟨r, _, rfl, H, rfl⟩
      refine sr_op rfl rfl (ow_move (v := .bool ((!decide (e8.kind = e10.kind)) || (!decide (e8.kindNo = e10.kindNo)))) rfl ?_)
      refine sr_cut 6 (fun m_ w_ => ∃ (r_ : Sl) (v_ : Bool), m_ = (88, .bool v_) :: (2, .pointer (some ⟨g1, 0, none⟩)) :: (3, .pointer (some ⟨g2, 0, none⟩)) :: (4, .bool false) :: (5, .int .i64 (i : Int)) :: (6, .pointer (some ⟨g9, 0, none⟩)) :: (7, .pointer (some ⟨g11, 0, none⟩)) :: r_ ∧ Hp B I w_ ((g11, Ob [.string e10.kind, .int .i64 e10.kindNo, .int .i64 e10.think, .int .i64 e10.expr.kind, .int .i64 e10.expr.n, .int .i64 e10.expr.no, .string e10.expr.name, .slice d10A7 e10.expr.l.length d10c7] 84) :: (g9, Ob [.string e8.kind, .int .i64 e8.kindNo, .int .i64 e8.think, .int .i64 e8.expr.kind, .int .i64 e8.expr.n, .int .i64 e8.expr.no, .string e8.expr.name, .slice d8A7 e8.expr.l.length d8c7] 84) :: (g2, Ob [.string q.name, .slice d1A1 q.kinds.length d1c1, .slice d1A2 q.offices.length d1c2, .slice d1A3 q.rules.length d1c3, .int .i64 q.change.kind, .int .i64 q.change.n, .int .i64 q.change.no, .string q.change.name, .slice d1A8 q.change.l.length d1c8, .int .i64 q.mode] 28) :: (g1, Ob [.string p.name, .slice d0A1 p.kinds.length d0c1, .slice d0A2 p.offices.length d0c2, .slice d0A3 p.rules.length d0c3, .int .i64 p.change.kind, .int .i64 p.change.n, .int .i64 p.change.no, .string p.change.name, .slice d0A8 p.change.l.length d0c8, .int .i64 p.mode] 28) :: L) ∧ v_ = (((!decide (e8.kind = e10.kind)) || (!decide (e8.kindNo = e10.kindNo))) || (!decide (e8.think = e10.think)))) (fun again => ?_) ?_
      · rcases hg : (!decide (e8.kind = e10.kind)) || (!decide (e8.kindNo = e10.kindNo)) with _ | _
        · refine sr_want rfl (j := 12) (d := 82) rfl rfl rfl (v := false) rfl rfl (ow_fieldAddr fd84_2 ty3 rfl rfl (r := 2) rfl ?_)
          refine sr_want rfl (j := 12) (d := 82) rfl rfl rfl (v := false) rfl rfl (ow_load (v := .int .i64 e8.think) ty3 H rfl 1 rfl rfl rfl rfl ?_)
          refine sr_want rfl (j := 12) (d := 82) rfl rfl rfl (v := false) rfl rfl (ow_fieldAddr fd84_2 ty3 rfl rfl (r := 2) rfl ?_)
          refine sr_want rfl (j := 12) (d := 82) rfl rfl rfl (v := false) rfl rfl (ow_load (v := .int .i64 e10.think) ty3 H rfl 0 rfl rfl rfl rfl ?_)
          refine sr_want rfl (j := 12) (d := 82) rfl rfl rfl (v := false) rfl rfl (ow_neq rfl rfl ?_)
          refine sr_op rfl rfl (ow_pick (v := .bool (!decide (e8.think = e10.think))) rfl rfl ?_)
          exact sr_live [88, 2, 3, 4, 5, 6, 7] (again _ _ ⟨_, _, rfl, H, by rw [hg] <;> rfl⟩)
        · refine sr_pass rfl (j := 12) (d := 82) rfl rfl rfl (u := true) (v := false) rfl rfl ?_
          refine sr_pass rfl (j := 12) (d := 82) rfl rfl rfl (u := true) (v := false) rfl rfl ?_
          refine sr_pass rfl (j := 12) (d := 82) rfl rfl rfl (u := true) (v := false) rfl rfl ?_
          refine sr_pass rfl (j := 12) (d := 82) rfl rfl rfl (u := true) (v := false) rfl rfl ?_
          refine sr_pass rfl (j := 12) (d := 82) rfl rfl rfl (u := true) (v := false) rfl rfl ?_
          refine sr_op rfl rfl (ow_pick (v := .bool true) rfl rfl ?_)
          exact sr_live [88, 2, 3, 4, 5, 6, 7] (again _ _ ⟨_, _, rfl, H, by rw [hg] <;> rfl⟩)
      rintro _ _ ⟨r, _, rfl, H, rfl⟩
      refine sr_op rfl rfl (ow_move (v := .bool (((!decide (e8.kind = e10.kind)) || (!decide (e8.kindNo = e10.kindNo))) || (!decide (e8.think = e10.think)))) rfl ?_)
      refine sr_cut 7 (fun m_ w_ => ∃ (r_ : Sl) (v_ : Bool), m_ = (96, .bool v_) :: (2, .pointer (some ⟨g1, 0, none⟩)) :: (3, .pointer (some ⟨g2, 0, none⟩)) :: (4, .bool false) :: (5, .int .i64 (i : Int)) :: r_ ∧ Hp B I w_ ((g11, Ob [.string e10.kind, .int .i64 e10.kindNo, .int .i64 e10.think, .int .i64 e10.expr.kind, .int .i64 e10.expr.n, .int .i64 e10.expr.no, .string e10.expr.name, .slice d10A7 e10.expr.l.length d10c7] 84) :: (g9, Ob [.string e8.kind, .int .i64 e8.kindNo, .int .i64 e8.think, .int .i64 e8.expr.kind, .int .i64 e8.expr.n, .int .i64 e8.expr.no, .string e8.expr.name, .slice d8A7 e8.expr.l.length d8c7] 84) :: (g2, Ob [.string q.name, .slice d1A1 q.kinds.length d1c1, .slice d1A2 q.offices.length d1c2, .slice d1A3 q.rules.length d1c3, .int .i64 q.change.kind, .int .i64 q.change.n, .int .i64 q.change.no, .string q.change.name, .slice d1A8 q.change.l.length d1c8, .int .i64 q.mode] 28) :: (g1, Ob [.string p.name, .slice d0A1 p.kinds.length d0c1, .slice d0A2 p.offices.length d0c2, .slice d0A3 p.rules.length d0c3, .int .i64 p.change.kind, .int .i64 p.change.n, .int .i64 p.change.no, .string p.change.name, .slice d0A8 p.change.l.length d0c8, .int .i64 p.mode] 28) :: L) ∧ v_ = ((((!decide (e8.kind = e10.kind)) || (!decide (e8.kindNo = e10.kindNo))) || (!decide (e8.think = e10.think))) || (!(sameX e8.expr e10.expr)))) (fun again => ?_) ?_
      · rcases hg : ((!decide (e8.kind = e10.kind)) || (!decide (e8.kindNo = e10.kindNo))) || (!decide (e8.think = e10.think)) with _ | _
        · refine sr_want rfl (j := 19) (d := 89) rfl rfl rfl (v := false) rfl rfl (ow_fieldAddr fd84_3 ty26 rfl rfl (r := 3) rfl ?_)
          refine sr_want rfl (j := 19) (d := 89) rfl rfl rfl (v := false) rfl rfl (ow_load (v := .agg #[.int .i64 e8.expr.kind, .int .i64 e8.expr.n, .int .i64 e8.expr.no, .string e8.expr.name, .slice d8A7 e8.expr.l.length d8c7]) ty26 H rfl 1 rfl rfl rfl rfl ?_)
          refine sr_want rfl (j := 19) (d := 89) rfl rfl rfl (v := false) rfl rfl (ow_fieldAddr fd84_3 ty26 rfl rfl (r := 3) rfl ?_)
          refine sr_want rfl (j := 19) (d := 89) rfl rfl rfl (v := false) rfl rfl (ow_load (v := .agg #[.int .i64 e10.expr.kind, .int .i64 e10.expr.n, .int .i64 e10.expr.no, .string e10.expr.name, .slice d10A7 e10.expr.l.length d10c7]) ty26 H rfl 0 rfl rfl rfl rfl ?_)
          refine sr_want rfl (j := 19) (d := 89) rfl rfl rfl (v := false) rfl rfl (ow_call en92 rfl (rsameX_c _ (Nat.le_refl _) H (ex_iff.2 ⟨_, rfl, d8_3, d8_4, d8_5, d8_6, d8_7⟩) (ex_iff.2 ⟨_, rfl, d10_3, d10_4, d10_5, d10_6, d10_7⟩)) ?_)
          rintro _ _ ⟨rfl, H⟩
          refine sr_want rfl (j := 19) (d := 89) rfl rfl rfl (v := false) rfl rfl (ow_not rfl ?_)
          refine sr_op rfl rfl (ow_pick (v := .bool (!(sameX e8.expr e10.expr))) rfl rfl ?_)
          exact sr_live [96, 2, 3, 4, 5] (again _ _ ⟨_, _, rfl, H, by rw [hg] <;> rfl⟩)
        · refine sr_pass rfl (j := 19) (d := 89) rfl rfl rfl (u := true) (v := false) rfl rfl ?_
          refine sr_pass rfl (j := 19) (d := 89) rfl rfl rfl (u := true) (v := false) rfl rfl ?_
          refine sr_pass rfl (j := 19) (d := 89) rfl rfl rfl (u := true) (v := false) rfl rfl ?_
          refine sr_pass rfl (j := 19) (d := 89) rfl rfl rfl (u := true) (v := false) rfl rfl ?_
          refine sr_pass rfl (j := 19) (d := 89) rfl rfl rfl (u := true) (v := false) rfl rfl ?_
          refine sr_pass rfl (j := 19) (d := 89) rfl rfl rfl (u := true) (v := false) rfl rfl ?_
          refine sr_op rfl rfl (ow_pick (v := .bool true) rfl rfl ?_)
          exact sr_live [96, 2, 3, 4, 5] (again _ _ ⟨_, _, rfl, H, by rw [hg] <;> rfl⟩)
      rintro _ _ ⟨r, _, rfl, H, rfl⟩
      refine sr_nil ?_
      refine st_cond ((((!decide (e8.kind = e10.kind)) || (!decide (e8.kindNo = e10.kindNo))) || (!decide (e8.think = e10.think))) || (!(sameX e8.expr e10.expr))) rfl (fun hc12 => ?_) (fun hc12 => ?_)
      · have hbad := ror4 hc12
        refine st_seq ?_
        refine st_region ?_
        refine sr_op rfl rfl (ow_assign (v := .bool false) rfl ?_)
        refine sr_nil ?_
        refine st_ret hb (hR _ _ (.bool false) (res_run (vs := [.bool false]) Tryz.results34 ⟨_, _, rfl, rfl, rfl⟩) ?_)
        exact ⟨_, rfl, by rw [sameP, ha, drop_some he8, drop_some he10, sameRs, sameR, hbad, Bool.false_and, Bool.and_false, Bool.false_and], (H.drop 4)⟩
      · have hgood := ror4n hc12
        refine st_skip ?_
        refine st_inBlock ?_
        refine st_region ?_
        refine sr_op rfl rfl (ow_move (v := .int .i64 (i : Int)) rfl ?_)
        refine sr_op rfl rfl (ow_add (r := ((i + 1 : Nat) : Int)) rfl rfl (inc_i64 (by omega)) ?_)
        refine sr_op rfl rfl (ow_assign (v := .int .i64 ((i + 1 : Nat) : Int)) rfl ?_)
        refine sr_nil ?_
        exact st_inLoop (st_live [2, 3, 4, 5] (ih6 _ _ _ (by omega) ⟨i + 1, _, rfl, rfl, H.drop 2, by omega, by rw [ha, drop_some he8, drop_some he10, sameRs, sameR, hgood, Bool.true_and]⟩))
    · have hc7 := of_decide_eq_false hc7
      refine st_exit rfl ?_
      refine st_seq ?_
      refine st_region ?_
      refine sr_op rfl rfl (ow_assign (v := .bool true) rfl ?_)
      refine sr_nil ?_
      refine st_ret hb (hR _ _ (.bool true) (res_run (vs := [.bool true]) Tryz.results34 ⟨_, _, rfl, rfl, rfl⟩) ?_)
      have h1 : p.rules.drop i = [] := List.drop_of_length_le (by omega)
      have h2 : q.rules.drop i = [] := List.drop_of_length_le (by omega)
      exact ⟨_, rfl, by rw [sameP, ha, h1, h2, hsc, hch]; rfl, (H.drop 2)⟩
def partsL (g : Ex → Int → Int) : List Ex → Int → Int → Int
  | [], n, _ => n
  | y :: l, n, t => if n ≤ t then partsL g l (n + g y (t - n)) t else n
def partsF : Nat → Ex → Int → Int
  | 0, _, _ => 1
  | d + 1, x, t => partsL (partsF d) x.l 1 t
theorem partsF_succ (d : Nat) (x : Ex) (t : Int) : partsF (d + 1) x t = partsL (partsF d) x.l 1 t := rfl
theorem partsL_stop {g : Ex → Int → Int} {l : List Ex} {n t : Int} (h : ¬ n ≤ t) : partsL g l n t = n := by
  cases l with
  | nil => rfl
  | cons y l => rw [partsL, if_neg h]
theorem partsF_bound : ∀ (d : Nat) (x : Ex) (t : Int), x.pc ≤ d → 0 ≤ t → 1 ≤ partsF d x t ∧ partsF d x t ≤ t + 1 ∧ (partsF d x t ≤ t → partsF d x t = (x.pc : Int))
  | 0, x, t, h, _ => by
    have := x.pc_eq
    omega
  | d + 1, x, t, h, ht => by
    have hpc := x.pc_eq
    have hl : ∀ (l : List Ex) (n : Int), Ex.pcs l ≤ d → 1 ≤ n → n ≤ t + 1 → n ≤ partsL (partsF d) l n t ∧ partsL (partsF d) l n t ≤ t + 1 ∧ (partsL (partsF d) l n t ≤ t → partsL (partsF d) l n t = n + (Ex.pcs l : Int)) := by
      intro l
      induction l with
      | nil =>
        intro n _ _ _
        simp only [partsL, Ex.pcs]
        omega
      | cons y l ih =>
        intro n hp h1 h2
        simp only [Ex.pcs] at hp
        by_cases hn : n ≤ t
        · have hy := partsF_bound d y (t - n) (by omega) (by omega)
          have hr := ih (n + partsF d y (t - n)) (by omega) (by omega) (by omega)
          simp only [partsL, if_pos hn, Ex.pcs]
          refine ⟨by omega, by omega, fun h_ => ?_⟩
          have h3 := hr.2.2 h_
          have h4 := hy.2.2 (by omega)
          omega
        · simp only [partsL, if_neg hn]
          omega
    have hr := hl x.l 1 (by omega) (by omega) (by omega)
    rw [partsF_succ]
    refine ⟨by omega, by omega, fun h_ => ?_⟩
    have := hr.2.2 h_
    omega
def partsE (x : Ex) : Int := partsF x.pc x 60
def rfewB (p : Po) : Bool := !((((decide (60 < (p.offices.length : Int)) || decide (60 < (p.kinds.length : Int))) || decide (20 < (p.rules.length : Int))) || decide (60 < (p.name.size : Int))) || decide (60 < partsE p.change)) && p.rules.all fun r => !decide (60 < partsE r.expr)
theorem rfew_ok {p : Po} (h : rfewB p = true) : fewOk p := by
  have hx : ∀ x : Ex, ¬ 60 < partsE x → x.pc ≤ 60 := by
    intro x hx
    have := partsF_bound x.pc x 60 (Nat.le_refl _) (by decide)
    have h2 := this.2.2 (by unfold partsE at hx; omega)
    unfold partsE at hx
    omega
  simp only [rfewB, Bool.and_eq_true, Bool.not_eq_true', Bool.or_eq_false_iff, decide_eq_false_iff_not] at h
  obtain ⟨⟨⟨⟨⟨h1, h2⟩, h3⟩, h4⟩, h5⟩, h6⟩ := h
  refine ⟨by omega, by omega, by omega, hx _ h5, fun r hr => hx _ ?_⟩
  have := List.all_eq_true.1 h6 r hr
  simpa using this
theorem rParts_c {B : World} : ∀ (d : Nat) {x : Ex} {I : Im} {L : List (Nat × Obj)} {w : World} {us : List Value} (t : Int), x.pc ≤ d → 0 ≤ t → t ≤ 1000000 → Hp B I w L → RepL I (encEx x) us → Calls Tryz.prog 87 #[.agg us.toArray, .int .i64 t] w (Rt fun r w' => r = .int .i64 (partsF d x t) ∧ Hp B I w' L) := by
  intro d
  induction d with
  | zero =>
    intro x I L w us t h0
    have := x.pc_eq
    omega
  | succ d ih =>
  intro x I L w us t hd ht ht2 H hx
  have hpc := x.pc_eq
  have d0 := hx
  obtain ⟨d0v4, rfl, d0_0, d0_1, d0_2, d0_3, d0_4⟩ := ex_iff.1 hx
  obtain ⟨d0A4, d0c4, rfl, d0m4, d0M4, d0_4⟩ := RepS.open_ d0_4
  refine calls_st (n := 31) Tryz.func87 rfl rfl rfl ?_
  intro G bF cs hb hfn hR hP
  simp only [ini]
  refine st_seq ?_
  refine st_region ?_
  refine sr_op rfl rfl (ow_box H (v := .agg #[.int .i64 x.kind, .int .i64 x.n, .int .i64 x.no, .string x.name, .slice d0A4 x.l.length d0c4]) rfl [.int .i64 x.kind, .int .i64 x.n, .int .i64 x.no, .string x.name, .slice d0A4 x.l.length d0c4] rfl (fun g1 _ H => ?_))
  refine sr_op rfl rfl (ow_assign (v := .int .i64 0) rfl ?_)
  refine sr_nil ?_
  refine st_seq ?_
  refine st_region ?_
  refine sr_op rfl rfl (ow_assign (v := .int .i64 1) rfl ?_)
  refine sr_nil ?_
  refine st_seq ?_
  refine st_seq ?_
  refine st_region ?_
  refine sr_op rfl rfl (ow_assign (v := .int .i64 0) rfl ?_)
  refine sr_nil ?_
  refine st_block ?_
  refine st_loop ?_
  refine st_live [1, 2, 4, 5, 6] ?_
  refine st_ind (fun d_ m_ w_ => ∃ (i : Nat) (n : Int) (r_ : Sl), d_ = x.l.length - i ∧ m_ = (1, .int .i64 t) :: (2, .pointer (some ⟨g1, 0, none⟩)) :: (4, .int .i64 0) :: (5, .int .i64 n) :: (6, .int .i64 (i : Int)) :: r_ ∧ Hp B I w_ ((g1, Ob [.int .i64 x.kind, .int .i64 x.n, .int .i64 x.no, .string x.name, .slice d0A4 x.l.length d0c4] 26) :: L) ∧ i ≤ x.l.length ∧ 1 ≤ n ∧ n ≤ t + 1 ∧ partsL (partsF d) x.l 1 t = partsL (partsF d) (x.l.drop i) n t) _ ⟨0, 1, _, rfl, rfl, H, Nat.zero_le _, by omega, by omega, rfl⟩ ?_
  rintro _ _ _ ⟨i, n, r3, rfl, rfl, H, hi, hn1, hn2, hn3⟩ ih4
  refine st_seq ?_
  refine st_seq ?_
  refine st_region ?_
  refine sr_op rfl rfl (ow_move (v := .int .i64 (i : Int)) rfl ?_)
  refine sr_op rfl rfl (ow_fieldAddr fd26_4 ty24 rfl rfl (r := 4) rfl ?_)
  refine sr_op rfl rfl (ow_load (v := .slice d0A4 x.l.length d0c4) ty24 H rfl 0 rfl rfl rfl rfl ?_)
  refine sr_op rfl rfl (ow_lenS sl24 rfl rfl ?_)
  refine sr_op rfl rfl (ow_lss rfl rfl ?_)
  refine sr_op rfl rfl (ow_move (v := .bool (decide ((i : Int) < (x.l.length : Int)))) rfl ?_)
  refine sr_cut 4 (fun m_ w_ => ∃ (r_ : Sl) (v_ : Bool), m_ = (16, .bool v_) :: (1, .int .i64 t) :: (2, .pointer (some ⟨g1, 0, none⟩)) :: (4, .int .i64 0) :: (5, .int .i64 n) :: (6, .int .i64 (i : Int)) :: r_ ∧ Hp B I w_ ((g1, Ob [.int .i64 x.kind, .int .i64 x.n, .int .i64 x.no, .string x.name, .slice d0A4 x.l.length d0c4] 26) :: L) ∧ v_ = ((decide ((i : Int) < (x.l.length : Int))) && (decide (n ≤ t)))) (fun again => ?_) ?_
  · rcases hg : decide ((i : Int) < (x.l.length : Int)) with _ | _
    · refine sr_pass rfl (j := 5) (d := 12) rfl rfl rfl (u := false) (v := true) rfl rfl ?_
      refine sr_pass rfl (j := 5) (d := 12) rfl rfl rfl (u := false) (v := true) rfl rfl ?_
      refine sr_pass rfl (j := 5) (d := 12) rfl rfl rfl (u := false) (v := true) rfl rfl ?_
      refine sr_op rfl rfl (ow_pick (v := .bool false) rfl rfl ?_)
      exact sr_live [16, 1, 2, 4, 5, 6] (again _ _ ⟨_, _, rfl, H, by rw [hg] <;> rfl⟩)
    · refine sr_want rfl (j := 5) (d := 12) rfl rfl rfl (v := true) rfl rfl (ow_move (v := .int .i64 n) rfl ?_)
      refine sr_want rfl (j := 5) (d := 12) rfl rfl rfl (v := true) rfl rfl (ow_move (v := .int .i64 t) rfl ?_)
      refine sr_want rfl (j := 5) (d := 12) rfl rfl rfl (v := true) rfl rfl (ow_leq rfl rfl ?_)
      refine sr_op rfl rfl (ow_pick (v := .bool (decide (n ≤ t))) rfl rfl ?_)
      exact sr_live [16, 1, 2, 4, 5, 6] (again _ _ ⟨_, _, rfl, H, by rw [hg] <;> rfl⟩)
  rintro _ _ ⟨r, _, rfl, H, rfl⟩
  refine sr_nil ?_
  refine st_cond ((decide ((i : Int) < (x.l.length : Int))) && (decide (n ≤ t))) rfl (fun hc5 => ?_) (fun hc5 => ?_)
  · simp only [Bool.and_eq_true, decide_eq_true_eq] at hc5
    obtain ⟨hc5, hnt⟩ := hc5
    refine st_skip ?_
    refine st_seq ?_
    refine st_block ?_
    refine st_region ?_
    refine sr_op rfl rfl (ow_move (v := .int .i64 n) rfl ?_)
    refine sr_op rfl rfl (ow_fieldAddr fd26_4 ty24 rfl rfl (r := 4) rfl ?_)
    refine sr_op rfl rfl (ow_load (v := .slice d0A4 x.l.length d0c4) ty24 H rfl 0 rfl rfl rfl rfl ?_)
    refine sr_op rfl rfl (ow_move (v := .int .i64 (i : Int)) rfl ?_)
    obtain ⟨e6, he6⟩ : ∃ q_, x.l[i]? = some q_ := ⟨_, List.getElem?_eq_getElem (by omega)⟩
    obtain ⟨b6, o6, us6, hA6, hat6, hul6, hr6⟩ := RepS.get d0_4 he6
    have d6 := hr6
    obtain ⟨d6v4, rfl, d6_0, d6_1, d6_2, d6_3, d6_4⟩ := ex_iff.1 hr6
    obtain ⟨d6A4, d6c4, rfl, d6m4, d6M4, d6_4⟩ := RepS.open_ d6_4
    refine sr_op rfl rfl (ow_indexAddrA sl24 ty26 hA6 rfl rfl (by omega) (by omega) (r := o6 + i * 5) rfl ?_)
    refine sr_op rfl rfl (ow_loadI (v := .agg #[.int .i64 e6.kind, .int .i64 e6.n, .int .i64 e6.no, .string e6.name, .slice d6A4 e6.l.length d6c4]) ty26 H rfl hat6 rfl rfl rfl ?_)
    refine sr_op rfl rfl (ow_move (v := .int .i64 t) rfl ?_)
    refine sr_op rfl rfl (ow_move (v := .int .i64 n) rfl ?_)
    refine sr_op rfl rfl (ow_sub (r := t - n) rfl rfl (wrap_i64 (by omega) (by omega)) ?_)
    have hyd_ : e6.pc ≤ d := by have h_ := Ex.pc_at he6; omega
    have hyb_ := partsF_bound d e6 (t - n) hyd_ (by omega)
    refine sr_op rfl rfl (ow_call en87 rfl (ih (t - n) hyd_ (by omega) (by omega) H d6) ?_)
    rintro _ _ ⟨rfl, H⟩
    refine sr_op rfl rfl (ow_add (r := n + (partsF d e6 (t - n))) rfl rfl (wrap_i64 (by omega) (by omega)) ?_)
    refine sr_op rfl rfl (ow_assign (v := .int .i64 (n + (partsF d e6 (t - n)))) rfl ?_)
    refine sr_nil ?_
    refine st_inBlock ?_
    refine st_region ?_
    refine sr_op rfl rfl (ow_move (v := .int .i64 (i : Int)) rfl ?_)
    refine sr_op rfl rfl (ow_add (r := ((i + 1 : Nat) : Int)) rfl rfl (inc_i64 (by omega)) ?_)
    refine sr_op rfl rfl (ow_assign (v := .int .i64 ((i + 1 : Nat) : Int)) rfl ?_)
    refine sr_nil ?_
    exact st_inLoop (st_live [1, 2, 4, 5, 6] (ih4 _ _ _ (by omega) ⟨i + 1, n + (partsF d e6 (t - n)), _, rfl, rfl, H, by omega, by omega, by omega, by rw [hn3, drop_some he6, partsL, if_pos hnt]⟩))
  · simp only [Bool.and_eq_false_iff, decide_eq_false_iff_not] at hc5
    have hstop := hc5
    refine st_exit rfl ?_
    refine st_seq ?_
    refine st_region ?_
    refine sr_op rfl rfl (ow_move (v := .int .i64 n) rfl ?_)
    refine sr_op rfl rfl (ow_assign (v := .int .i64 n) rfl ?_)
    refine sr_nil ?_
    refine st_ret hb (hR _ _ (.int .i64 n) (res_run (vs := [.int .i64 n]) Tryz.results87 ⟨_, _, rfl, rfl, rfl⟩) ?_)
    refine ⟨_, rfl, congrArg (Value.int .i64) ?_, (H.drop 1)⟩
    rw [partsF_succ, hn3]
    rcases hstop with h_ | h_
    · rw [List.drop_of_length_le (by omega)]; rfl
    · rw [partsL_stop h_]
theorem rFew_c {B I L w} {p : Po} {us : List Value} (H : Hp B I w L) (hp : RepL I (encPo p) us) : Calls Tryz.prog 32 #[.agg us.toArray] w (Rt fun r w' => r = .bool (rfewB p) ∧ Hp B I w' L) := by
  have d0 := hp
  obtain ⟨d0v1, d0v2, d0v3, d0v8, rfl, d0_0, d0_1, d0_2, d0_3, d0_4, d0_5, d0_6, d0_7, d0_8, d0_9⟩ := po_iff.1 hp
  obtain ⟨d0A1, d0c1, rfl, d0m1, d0M1, d0_1⟩ := RepS.open_ d0_1
  obtain ⟨d0A2, d0c2, rfl, d0m2, d0M2, d0_2⟩ := RepS.open_ d0_2
  obtain ⟨d0A3, d0c3, rfl, d0m3, d0M3, d0_3⟩ := RepS.open_ d0_3
  obtain ⟨d0A8, d0c8, rfl, d0m8, d0M8, d0_8⟩ := RepS.open_ d0_8
  refine calls_st (n := 47) Tryz.func32 rfl rfl rfl ?_
  intro G bF cs hb hfn hR hP
  simp only [ini]
  refine st_seq ?_
  refine st_region ?_
  refine sr_op rfl rfl (ow_box H (v := .agg #[.string p.name, .slice d0A1 p.kinds.length d0c1, .slice d0A2 p.offices.length d0c2, .slice d0A3 p.rules.length d0c3, .int .i64 p.change.kind, .int .i64 p.change.n, .int .i64 p.change.no, .string p.change.name, .slice d0A8 p.change.l.length d0c8, .int .i64 p.mode]) rfl [.string p.name, .slice d0A1 p.kinds.length d0c1, .slice d0A2 p.offices.length d0c2, .slice d0A3 p.rules.length d0c3, .int .i64 p.change.kind, .int .i64 p.change.n, .int .i64 p.change.no, .string p.change.name, .slice d0A8 p.change.l.length d0c8, .int .i64 p.mode] rfl (fun g1 _ H => ?_))
  refine sr_op rfl rfl (ow_assign (v := .bool false) rfl ?_)
  refine sr_nil ?_
  refine st_seq ?_
  refine st_seq ?_
  refine st_region ?_
  refine sr_op rfl rfl (ow_fieldAddr fd28_2 ty22 rfl rfl (r := 2) rfl ?_)
  refine sr_op rfl rfl (ow_load (v := .slice d0A2 p.offices.length d0c2) ty22 H rfl 0 rfl rfl rfl rfl ?_)
  refine sr_op rfl rfl (ow_lenS sl22 rfl rfl ?_)
  refine sr_op rfl rfl (ow_gtr rfl rfl ?_)
  refine sr_op rfl rfl (ow_move (v := .bool (decide (60 < (p.offices.length : Int)))) rfl ?_)
  refine sr_cut 5 (fun m_ w_ => ∃ (r_ : Sl) (v_ : Bool), m_ = (13, .bool v_) :: (1, .pointer (some ⟨g1, 0, none⟩)) :: (2, .bool false) :: r_ ∧ Hp B I w_ ((g1, Ob [.string p.name, .slice d0A1 p.kinds.length d0c1, .slice d0A2 p.offices.length d0c2, .slice d0A3 p.rules.length d0c3, .int .i64 p.change.kind, .int .i64 p.change.n, .int .i64 p.change.no, .string p.change.name, .slice d0A8 p.change.l.length d0c8, .int .i64 p.mode] 28) :: L) ∧ v_ = ((decide (60 < (p.offices.length : Int))) || (decide (60 < (p.kinds.length : Int))))) (fun again => ?_) ?_
  · rcases hg : decide (60 < (p.offices.length : Int)) with _ | _
    · refine sr_want rfl (j := 4) (d := 8) rfl rfl rfl (v := false) rfl rfl (ow_fieldAddr fd28_1 ty22 rfl rfl (r := 1) rfl ?_)
      refine sr_want rfl (j := 4) (d := 8) rfl rfl rfl (v := false) rfl rfl (ow_load (v := .slice d0A1 p.kinds.length d0c1) ty22 H rfl 0 rfl rfl rfl rfl ?_)
      refine sr_want rfl (j := 4) (d := 8) rfl rfl rfl (v := false) rfl rfl (ow_lenS sl22 rfl rfl ?_)
      refine sr_want rfl (j := 4) (d := 8) rfl rfl rfl (v := false) rfl rfl (ow_gtr rfl rfl ?_)
      refine sr_op rfl rfl (ow_pick (v := .bool (decide (60 < (p.kinds.length : Int)))) rfl rfl ?_)
      exact sr_live [13, 1, 2] (again _ _ ⟨_, _, rfl, H, by rw [hg] <;> rfl⟩)
    · refine sr_pass rfl (j := 4) (d := 8) rfl rfl rfl (u := true) (v := false) rfl rfl ?_
      refine sr_pass rfl (j := 4) (d := 8) rfl rfl rfl (u := true) (v := false) rfl rfl ?_
      refine sr_pass rfl (j := 4) (d := 8) rfl rfl rfl (u := true) (v := false) rfl rfl ?_
      refine sr_pass rfl (j := 4) (d := 8) rfl rfl rfl (u := true) (v := false) rfl rfl ?_
      refine sr_op rfl rfl (ow_pick (v := .bool true) rfl rfl ?_)
      exact sr_live [13, 1, 2] (again _ _ ⟨_, _, rfl, H, by rw [hg] <;> rfl⟩)
  rintro _ _ ⟨r, _, rfl, H, rfl⟩
  refine sr_op rfl rfl (ow_move (v := .bool ((decide (60 < (p.offices.length : Int))) || (decide (60 < (p.kinds.length : Int))))) rfl ?_)
  refine sr_cut 5 (fun m_ w_ => ∃ (r_ : Sl) (v_ : Bool), m_ = (19, .bool v_) :: (1, .pointer (some ⟨g1, 0, none⟩)) :: (2, .bool false) :: r_ ∧ Hp B I w_ ((g1, Ob [.string p.name, .slice d0A1 p.kinds.length d0c1, .slice d0A2 p.offices.length d0c2, .slice d0A3 p.rules.length d0c3, .int .i64 p.change.kind, .int .i64 p.change.n, .int .i64 p.change.no, .string p.change.name, .slice d0A8 p.change.l.length d0c8, .int .i64 p.mode] 28) :: L) ∧ v_ = (((decide (60 < (p.offices.length : Int))) || (decide (60 < (p.kinds.length : Int)))) || (decide (20 < (p.rules.length : Int))))) (fun again => ?_) ?_
  · rcases hg : (decide (60 < (p.offices.length : Int))) || (decide (60 < (p.kinds.length : Int))) with _ | _
    · refine sr_want rfl (j := 10) (d := 14) rfl rfl rfl (v := false) rfl rfl (ow_fieldAddr fd28_3 ty23 rfl rfl (r := 3) rfl ?_)
      refine sr_want rfl (j := 10) (d := 14) rfl rfl rfl (v := false) rfl rfl (ow_load (v := .slice d0A3 p.rules.length d0c3) ty23 H rfl 0 rfl rfl rfl rfl ?_)
      refine sr_want rfl (j := 10) (d := 14) rfl rfl rfl (v := false) rfl rfl (ow_lenS sl23 rfl rfl ?_)
      refine sr_want rfl (j := 10) (d := 14) rfl rfl rfl (v := false) rfl rfl (ow_gtr rfl rfl ?_)
      refine sr_op rfl rfl (ow_pick (v := .bool (decide (20 < (p.rules.length : Int)))) rfl rfl ?_)
      exact sr_live [19, 1, 2] (again _ _ ⟨_, _, rfl, H, by rw [hg] <;> rfl⟩)
    · refine sr_pass rfl (j := 10) (d := 14) rfl rfl rfl (u := true) (v := false) rfl rfl ?_
      refine sr_pass rfl (j := 10) (d := 14) rfl rfl rfl (u := true) (v := false) rfl rfl ?_
      refine sr_pass rfl (j := 10) (d := 14) rfl rfl rfl (u := true) (v := false) rfl rfl ?_
      refine sr_pass rfl (j := 10) (d := 14) rfl rfl rfl (u := true) (v := false) rfl rfl ?_
      refine sr_op rfl rfl (ow_pick (v := .bool true) rfl rfl ?_)
      exact sr_live [19, 1, 2] (again _ _ ⟨_, _, rfl, H, by rw [hg] <;> rfl⟩)
  rintro _ _ ⟨r, _, rfl, H, rfl⟩
  refine sr_op rfl rfl (ow_move (v := .bool (((decide (60 < (p.offices.length : Int))) || (decide (60 < (p.kinds.length : Int)))) || (decide (20 < (p.rules.length : Int))))) rfl ?_)
  refine sr_cut 5 (fun m_ w_ => ∃ (r_ : Sl) (v_ : Bool), m_ = (25, .bool v_) :: (1, .pointer (some ⟨g1, 0, none⟩)) :: (2, .bool false) :: r_ ∧ Hp B I w_ ((g1, Ob [.string p.name, .slice d0A1 p.kinds.length d0c1, .slice d0A2 p.offices.length d0c2, .slice d0A3 p.rules.length d0c3, .int .i64 p.change.kind, .int .i64 p.change.n, .int .i64 p.change.no, .string p.change.name, .slice d0A8 p.change.l.length d0c8, .int .i64 p.mode] 28) :: L) ∧ v_ = ((((decide (60 < (p.offices.length : Int))) || (decide (60 < (p.kinds.length : Int)))) || (decide (20 < (p.rules.length : Int)))) || (decide (60 < (p.name.size : Int))))) (fun again => ?_) ?_
  · rcases hg : ((decide (60 < (p.offices.length : Int))) || (decide (60 < (p.kinds.length : Int)))) || (decide (20 < (p.rules.length : Int))) with _ | _
    · refine sr_want rfl (j := 16) (d := 20) rfl rfl rfl (v := false) rfl rfl (ow_fieldAddr fd28_0 ty9 rfl rfl (r := 0) rfl ?_)
      refine sr_want rfl (j := 16) (d := 20) rfl rfl rfl (v := false) rfl rfl (ow_load (v := .string p.name) ty9 H rfl 0 rfl rfl rfl rfl ?_)
      refine sr_want rfl (j := 16) (d := 20) rfl rfl rfl (v := false) rfl rfl (ow_lenT un9 rfl rfl ?_)
      refine sr_want rfl (j := 16) (d := 20) rfl rfl rfl (v := false) rfl rfl (ow_gtr rfl rfl ?_)
      refine sr_op rfl rfl (ow_pick (v := .bool (decide (60 < (p.name.size : Int)))) rfl rfl ?_)
      exact sr_live [25, 1, 2] (again _ _ ⟨_, _, rfl, H, by rw [hg] <;> rfl⟩)
    · refine sr_pass rfl (j := 16) (d := 20) rfl rfl rfl (u := true) (v := false) rfl rfl ?_
      refine sr_pass rfl (j := 16) (d := 20) rfl rfl rfl (u := true) (v := false) rfl rfl ?_
      refine sr_pass rfl (j := 16) (d := 20) rfl rfl rfl (u := true) (v := false) rfl rfl ?_
      refine sr_pass rfl (j := 16) (d := 20) rfl rfl rfl (u := true) (v := false) rfl rfl ?_
      refine sr_op rfl rfl (ow_pick (v := .bool true) rfl rfl ?_)
      exact sr_live [25, 1, 2] (again _ _ ⟨_, _, rfl, H, by rw [hg] <;> rfl⟩)
  rintro _ _ ⟨r, _, rfl, H, rfl⟩
  refine sr_op rfl rfl (ow_move (v := .bool ((((decide (60 < (p.offices.length : Int))) || (decide (60 < (p.kinds.length : Int)))) || (decide (20 < (p.rules.length : Int)))) || (decide (60 < (p.name.size : Int))))) rfl ?_)
  refine sr_cut 5 (fun m_ w_ => ∃ (r_ : Sl) (v_ : Bool), m_ = (31, .bool v_) :: (1, .pointer (some ⟨g1, 0, none⟩)) :: (2, .bool false) :: r_ ∧ Hp B I w_ ((g1, Ob [.string p.name, .slice d0A1 p.kinds.length d0c1, .slice d0A2 p.offices.length d0c2, .slice d0A3 p.rules.length d0c3, .int .i64 p.change.kind, .int .i64 p.change.n, .int .i64 p.change.no, .string p.change.name, .slice d0A8 p.change.l.length d0c8, .int .i64 p.mode] 28) :: L) ∧ v_ = (((((decide (60 < (p.offices.length : Int))) || (decide (60 < (p.kinds.length : Int)))) || (decide (20 < (p.rules.length : Int)))) || (decide (60 < (p.name.size : Int)))) || (decide (60 < (partsE p.change))))) (fun again => ?_) ?_
  · rcases hg : (((decide (60 < (p.offices.length : Int))) || (decide (60 < (p.kinds.length : Int)))) || (decide (20 < (p.rules.length : Int)))) || (decide (60 < (p.name.size : Int))) with _ | _
    · refine sr_want rfl (j := 22) (d := 26) rfl rfl rfl (v := false) rfl rfl (ow_fieldAddr fd28_4 ty26 rfl rfl (r := 4) rfl ?_)
      refine sr_want rfl (j := 22) (d := 26) rfl rfl rfl (v := false) rfl rfl (ow_load (v := .agg #[.int .i64 p.change.kind, .int .i64 p.change.n, .int .i64 p.change.no, .string p.change.name, .slice d0A8 p.change.l.length d0c8]) ty26 H rfl 0 rfl rfl rfl rfl ?_)
      refine sr_want rfl (j := 22) (d := 26) rfl rfl rfl (v := false) rfl rfl (ow_call en87 rfl (rParts_c p.change.pc 60 (Nat.le_refl _) (by decide) (by decide) H (ex_iff.2 ⟨_, rfl, d0_4, d0_5, d0_6, d0_7, d0_8⟩)) ?_)
      rintro _ _ ⟨rfl, H⟩
      refine sr_want rfl (j := 22) (d := 26) rfl rfl rfl (v := false) rfl rfl (ow_gtr rfl rfl ?_)
      refine sr_op rfl rfl (ow_pick (v := .bool (decide (60 < (partsE p.change)))) rfl rfl ?_)
      exact sr_live [31, 1, 2] (again _ _ ⟨_, _, rfl, H, by rw [hg] <;> rfl⟩)
    · refine sr_pass rfl (j := 22) (d := 26) rfl rfl rfl (u := true) (v := false) rfl rfl ?_
      refine sr_pass rfl (j := 22) (d := 26) rfl rfl rfl (u := true) (v := false) rfl rfl ?_
      refine sr_pass rfl (j := 22) (d := 26) rfl rfl rfl (u := true) (v := false) rfl rfl ?_
      refine sr_pass rfl (j := 22) (d := 26) rfl rfl rfl (u := true) (v := false) rfl rfl ?_
      refine sr_op rfl rfl (ow_pick (v := .bool true) rfl rfl ?_)
      exact sr_live [31, 1, 2] (again _ _ ⟨_, _, rfl, H, by rw [hg] <;> rfl⟩)
  rintro _ _ ⟨r, _, rfl, H, rfl⟩
  refine sr_nil ?_
  refine st_cond (((((decide (60 < (p.offices.length : Int))) || (decide (60 < (p.kinds.length : Int)))) || (decide (20 < (p.rules.length : Int)))) || (decide (60 < (p.name.size : Int)))) || (decide (60 < (partsE p.change)))) rfl (fun hc2 => ?_) (fun hc2 => ?_)
  · refine st_seq ?_
    refine st_region ?_
    refine sr_op rfl rfl (ow_assign (v := .bool false) rfl ?_)
    refine sr_nil ?_
    refine st_ret hb (hR _ _ (.bool false) (res_run (vs := [.bool false]) Tryz.results32 ⟨_, _, rfl, rfl, rfl⟩) ?_)
    exact ⟨_, rfl, congrArg Value.bool (by rw [rfewB, hc2]; rfl), (H.drop 1)⟩
  · have h0_ := hc2
    refine st_skip ?_
    refine st_seq ?_
    refine st_seq ?_
    refine st_region ?_
    refine sr_op rfl rfl (ow_assign (v := .int .i64 0) rfl ?_)
    refine sr_nil ?_
    refine st_block ?_
    refine st_loop ?_
    refine st_live [1, 2, 3] ?_
    refine st_ind (fun d_ m_ w_ => ∃ (i : Nat) (r_ : Sl), d_ = p.rules.length - i ∧ m_ = (1, .pointer (some ⟨g1, 0, none⟩)) :: (2, .bool false) :: (3, .int .i64 (i : Int)) :: r_ ∧ Hp B I w_ ((g1, Ob [.string p.name, .slice d0A1 p.kinds.length d0c1, .slice d0A2 p.offices.length d0c2, .slice d0A3 p.rules.length d0c3, .int .i64 p.change.kind, .int .i64 p.change.n, .int .i64 p.change.no, .string p.change.name, .slice d0A8 p.change.l.length d0c8, .int .i64 p.mode] 28) :: L) ∧ i ≤ p.rules.length ∧ ((p.rules.take i).all fun r => !decide (60 < partsE r.expr)) = true) _ ⟨0, _, rfl, rfl, H, Nat.zero_le _, rfl⟩ ?_
    rintro _ _ _ ⟨i, r4, rfl, rfl, H, hi, ha⟩ ih5
    refine st_seq ?_
    refine st_seq ?_
    refine st_region ?_
    refine sr_op rfl rfl (ow_move (v := .int .i64 (i : Int)) rfl ?_)
    refine sr_op rfl rfl (ow_fieldAddr fd28_3 ty23 rfl rfl (r := 3) rfl ?_)
    refine sr_op rfl rfl (ow_load (v := .slice d0A3 p.rules.length d0c3) ty23 H rfl 0 rfl rfl rfl rfl ?_)
    refine sr_op rfl rfl (ow_lenS sl23 rfl rfl ?_)
    refine sr_op rfl rfl (ow_lss rfl rfl ?_)
    refine sr_nil ?_
    refine st_cond (decide ((i : Int) < (p.rules.length : Int))) rfl (fun hc6 => ?_) (fun hc6 => ?_)
    · have hc6 := of_decide_eq_true hc6
      refine st_skip ?_
      refine st_seq ?_
      refine st_block ?_
      refine st_seq ?_
      refine st_region ?_
      refine sr_op rfl rfl (ow_fieldAddr fd28_3 ty23 rfl rfl (r := 3) rfl ?_)
      refine sr_op rfl rfl (ow_load (v := .slice d0A3 p.rules.length d0c3) ty23 H rfl 0 rfl rfl rfl rfl ?_)
      refine sr_op rfl rfl (ow_move (v := .int .i64 (i : Int)) rfl ?_)
      obtain ⟨e7, he7⟩ : ∃ q_, p.rules[i]? = some q_ := ⟨_, List.getElem?_eq_getElem (by omega)⟩
      obtain ⟨b7, o7, us7, hA7, hat7, hul7, hr7⟩ := RepS.get d0_3 he7
      have d7 := hr7
      obtain ⟨d7v7, rfl, d7_0, d7_1, d7_2, d7_3, d7_4, d7_5, d7_6, d7_7⟩ := ru_iff.1 hr7
      obtain ⟨d7A7, d7c7, rfl, d7m7, d7M7, d7_7⟩ := RepS.open_ d7_7
      refine sr_op rfl rfl (ow_indexAddrA sl23 ty84 hA7 rfl rfl (by omega) (by omega) (r := o7 + i * 8) rfl ?_)
      refine sr_op rfl rfl (ow_fieldAddr fd84_3 ty26 rfl rfl (r := o7 + i * 8 + 3) rfl ?_)
      refine sr_op rfl rfl (ow_loadI (v := .agg #[.int .i64 e7.expr.kind, .int .i64 e7.expr.n, .int .i64 e7.expr.no, .string e7.expr.name, .slice d7A7 e7.expr.l.length d7c7]) ty26 H rfl (At.sub (vs := [.int .i64 e7.expr.kind, .int .i64 e7.expr.n, .int .i64 e7.expr.no, .string e7.expr.name, .slice d7A7 e7.expr.l.length d7c7]) hat7 3 rfl) rfl rfl rfl ?_)
      refine sr_op rfl rfl (ow_call en87 rfl (rParts_c e7.expr.pc 60 (Nat.le_refl _) (by decide) (by decide) H (ex_iff.2 ⟨_, rfl, d7_3, d7_4, d7_5, d7_6, d7_7⟩)) ?_)
      rintro _ _ ⟨rfl, H⟩
      refine sr_op rfl rfl (ow_gtr rfl rfl ?_)
      refine sr_nil ?_
      refine st_cond (decide (60 < (partsE e7.expr))) rfl (fun hc8 => ?_) (fun hc8 => ?_)
      · have hbad := hc8
        refine st_seq ?_
        refine st_region ?_
        refine sr_op rfl rfl (ow_assign (v := .bool false) rfl ?_)
        refine sr_nil ?_
        refine st_ret hb (hR _ _ (.bool false) (res_run (vs := [.bool false]) Tryz.results32 ⟨_, _, rfl, rfl, rfl⟩) ?_)
        have hno : (p.rules.all fun r => !decide (60 < partsE r.expr)) = false := by
          rw [Bool.eq_false_iff]
          intro h_
          have h1_ := List.all_eq_true.1 h_ _ (List.mem_of_getElem? he7)
          rw [hbad] at h1_
          cases h1_
        exact ⟨_, rfl, congrArg Value.bool (by rw [rfewB, hno, Bool.and_false]), (H.drop 1)⟩
      · have hgood := hc8
        refine st_skip ?_
        refine st_inBlock ?_
        refine st_region ?_
        refine sr_op rfl rfl (ow_move (v := .int .i64 (i : Int)) rfl ?_)
        refine sr_op rfl rfl (ow_add (r := ((i + 1 : Nat) : Int)) rfl rfl (inc_i64 (by omega)) ?_)
        refine sr_op rfl rfl (ow_assign (v := .int .i64 ((i + 1 : Nat) : Int)) rfl ?_)
        refine sr_nil ?_
        exact st_inLoop (st_live [1, 2, 3] (ih5 _ _ _ (by omega) ⟨i + 1, _, rfl, rfl, H, by omega, by rw [take_some he7, List.all_append, ha, List.all_cons, hgood]; rfl⟩))
    · have hc6 := of_decide_eq_false hc6
      refine st_exit rfl ?_
      refine st_seq ?_
      refine st_region ?_
      refine sr_op rfl rfl (ow_assign (v := .bool true) rfl ?_)
      refine sr_nil ?_
      refine st_ret hb (hR _ _ (.bool true) (res_run (vs := [.bool true]) Tryz.results32 ⟨_, _, rfl, rfl, rfl⟩) ?_)
      rw [List.take_of_length_le (by omega)] at ha
      exact ⟨_, rfl, congrArg Value.bool (by rw [rfewB, h0_, ha]; rfl), (H.drop 1)⟩
end Go.Proofs.YtghmjnbpkobooaaGreatDoor
