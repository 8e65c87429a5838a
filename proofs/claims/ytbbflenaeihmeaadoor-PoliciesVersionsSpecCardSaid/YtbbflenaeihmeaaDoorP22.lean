/-
  Walks: the statements PoliciesSpec and PoliciesVersionsSpec.
-/
import Derived.Test.YtbbflenaeihmeaaDoorP21
import Derived.Test.YtbbflenaeihmeaaDoorL2
import Derived.Test.YtbbflenaeihmeaaDoorB8
set_option linter.unusedVariables false
set_option linter.unusedSimpArgs false
set_option maxRecDepth 10000
set_option maxHeartbeats 4000000
namespace Go.Proofs.YtbbflenaeihmeaaDoor
open Go Go.RowKit

theorem Same_refl {B I L w} (H : Hp B I w L) {p : Po} {us ws : List Value} (hp : RepL I (encPo p) us) (hq : RepL I (encPo p) ws) : Calls Tryd.prog 21 #[.agg us.toArray, .agg ws.toArray] w (Rt fun r w' => r = .bool true ∧ Hp B I w' L) := by
  have h := Same_c H hp hq
  rw [sameP_refl] at h
  exact h
theorem PoliciesSpec_c {B I L w} (H : Hp B I w L) {p : Po} {us : List Value} (hp : RepL I (encPo p) us) (hkd : At I 0 0 kindsV) : Calls Tryd.prog 3 #[.agg us.toArray] w (Rt fun r w' => r = .bool true ∧ Hp B I w' L) := by
  have d0 := hp
  obtain ⟨d0v1, d0v2, d0v3, d0v8, rfl, d0_0, d0_1, d0_2, d0_3, d0_4, d0_5, d0_6, d0_7, d0_8, d0_9⟩ := po_iff.1 hp
  obtain ⟨d0A1, d0c1, rfl, d0m1, d0M1, d0_1⟩ := RepS.open_ d0_1
  obtain ⟨d0A2, d0c2, rfl, d0m2, d0M2, d0_2⟩ := RepS.open_ d0_2
  obtain ⟨d0A3, d0c3, rfl, d0m3, d0M3, d0_3⟩ := RepS.open_ d0_3
  obtain ⟨d0A8, d0c8, rfl, d0m8, d0M8, d0_8⟩ := RepS.open_ d0_8
  refine calls_st (n := 37) Tryd.func3 rfl rfl rfl ?_
  intro G bF cs hb hfn hR hP
  simp only [ini]
  refine st_seq ?_
  refine st_region ?_
  refine sr_op rfl rfl (ow_box H (v := .agg #[.string p.name, .slice d0A1 p.kinds.length d0c1, .slice d0A2 p.offices.length d0c2, .slice d0A3 p.rules.length d0c3, .int .i64 p.change.kind, .int .i64 p.change.n, .int .i64 p.change.no, .string p.change.name, .slice d0A8 p.change.l.length d0c8, .int .i64 p.mode]) rfl [.string p.name, .slice d0A1 p.kinds.length d0c1, .slice d0A2 p.offices.length d0c2, .slice d0A3 p.rules.length d0c3, .int .i64 p.change.kind, .int .i64 p.change.n, .int .i64 p.change.no, .string p.change.name, .slice d0A8 p.change.l.length d0c8, .int .i64 p.mode] rfl (fun g1 _ H => ?_))
  refine sr_op rfl rfl (ow_assign (v := .bool false) rfl ?_)
  refine sr_nil ?_
  refine st_seq ?_
  refine st_seq ?_
  refine st_region ?_
  refine sr_op rfl rfl (ow_call en17 rfl (sane_c H hkd) ?_)
  rintro _ _ ⟨rfl, H⟩
  refine sr_op rfl rfl (ow_not rfl ?_)
  refine sr_nil ?_
  refine st_no rfl ?_
  refine st_skip ?_
  refine st_seq ?_
  refine st_seq ?_
  refine st_region ?_
  refine sr_op rfl rfl (ow_load (v := .agg #[.string p.name, .slice d0A1 p.kinds.length d0c1, .slice d0A2 p.offices.length d0c2, .slice d0A3 p.rules.length d0c3, .int .i64 p.change.kind, .int .i64 p.change.n, .int .i64 p.change.no, .string p.change.name, .slice d0A8 p.change.l.length d0c8, .int .i64 p.mode]) ty28 H rfl 0 rfl rfl rfl rfl ?_)
  refine sr_op rfl rfl (ow_call en18 rfl (Few_c H d0) ?_)
  rintro _ _ ⟨rfl, H⟩
  refine sr_op rfl rfl (ow_not rfl ?_)
  refine sr_nil ?_
  refine st_cond (!(fewB p)) rfl (fun hc2 => ?_) (fun hc2 => ?_)
  · have hc2 := bnt hc2
    refine st_seq ?_
    refine st_region ?_
    refine sr_op rfl rfl (ow_assign (v := .bool true) rfl ?_)
    refine sr_nil ?_
    refine st_ret hb (hR _ _ (.bool true) (res_run (vs := [.bool true]) Tryd.results3 ⟨_, _, rfl, rfl, rfl⟩) ?_)
    exact ⟨_, rfl, rfl, (H.drop 1)⟩
  · have hc2 := bnf hc2
    refine st_skip ?_
    refine st_seq ?_
    refine st_region ?_
    refine sr_op rfl rfl (ow_load (v := .agg #[.string p.name, .slice d0A1 p.kinds.length d0c1, .slice d0A2 p.offices.length d0c2, .slice d0A3 p.rules.length d0c3, .int .i64 p.change.kind, .int .i64 p.change.n, .int .i64 p.change.no, .string p.change.name, .slice d0A8 p.change.l.length d0c8, .int .i64 p.mode]) ty28 H rfl 0 rfl rfl rfl rfl ?_)
    refine sr_op rfl rfl (ow_call en19 rfl (Resolve_c H d0 hkd) ?_)
    rintro _ _ ⟨I3, us3, hI3, H, rfl, hr3⟩
    have d3 := hr3
    obtain ⟨d3v1, d3v2, d3v3, d3v8, rfl, d3_0, d3_1, d3_2, d3_3, d3_4, d3_5, d3_6, d3_7, d3_8, d3_9⟩ := po_iff.1 hr3
    obtain ⟨d3A1, d3c1, rfl, d3m1, d3M1, d3_1⟩ := RepS.open_ d3_1
    obtain ⟨d3A2, d3c2, rfl, d3m2, d3M2, d3_2⟩ := RepS.open_ d3_2
    obtain ⟨d3A3, d3c3, rfl, d3m3, d3M3, d3_3⟩ := RepS.open_ d3_3
    obtain ⟨d3A8, d3c8, rfl, d3m8, d3M8, d3_8⟩ := RepS.open_ d3_8
    refine sr_op rfl rfl (ow_move (v := .tuple #[.agg #[.string ((resP p).name), .slice d3A1 ((resP p).kinds.length) d3c1, .slice d3A2 ((resP p).offices.length) d3c2, .slice d3A3 ((resP p).rules.length) d3c3, .int .i64 ((resP p).change.kind), .int .i64 ((resP p).change.n), .int .i64 ((resP p).change.no), .string ((resP p).change.name), .slice d3A8 ((resP p).change.l.length) d3c8, .int .i64 ((resP p).mode)], .int .i64 (errOf p)]) rfl ?_)
    refine sr_op rfl rfl (ow_extract (v := .agg #[.string ((resP p).name), .slice d3A1 ((resP p).kinds.length) d3c1, .slice d3A2 ((resP p).offices.length) d3c2, .slice d3A3 ((resP p).rules.length) d3c3, .int .i64 ((resP p).change.kind), .int .i64 ((resP p).change.n), .int .i64 ((resP p).change.no), .string ((resP p).change.name), .slice d3A8 ((resP p).change.l.length) d3c8, .int .i64 ((resP p).mode)]) rfl rfl ?_)
    refine sr_op rfl rfl (ow_extract (v := .int .i64 (errOf p)) rfl rfl ?_)
    refine sr_op rfl rfl (ow_alloc ty28 H [.string ⟨#[]⟩, .slice none 0 0, .slice none 0 0, .slice none 0 0, .int .i64 0, .int .i64 0, .int .i64 0, .string ⟨#[]⟩, .slice none 0 0, .int .i64 0] rfl (fun g4 _ H => ?_))
    refine sr_op rfl rfl (ow_store ty28 H rfl (v := .agg #[.string ((resP p).name), .slice d3A1 ((resP p).kinds.length) d3c1, .slice d3A2 ((resP p).offices.length) d3c2, .slice d3A3 ((resP p).rules.length) d3c3, .int .i64 ((resP p).change.kind), .int .i64 ((resP p).change.n), .int .i64 ((resP p).change.no), .string ((resP p).change.name), .slice d3A8 ((resP p).change.l.length) d3c8, .int .i64 ((resP p).mode)]) rfl [.string ((resP p).name), .slice d3A1 ((resP p).kinds.length) d3c1, .slice d3A2 ((resP p).offices.length) d3c2, .slice d3A3 ((resP p).rules.length) d3c3, .int .i64 ((resP p).change.kind), .int .i64 ((resP p).change.n), .int .i64 ((resP p).change.no), .string ((resP p).change.name), .slice d3A8 ((resP p).change.l.length) d3c8, .int .i64 ((resP p).mode)] rfl rfl rfl 0 rfl rfl (fun _ H => ?_))
    refine sr_op rfl rfl (ow_assign (v := .int .i64 (errOf p)) rfl ?_)
    refine sr_nil ?_
    refine st_seq ?_
    refine st_region ?_
    refine sr_op rfl rfl (ow_load (v := .agg #[.string p.name, .slice d0A1 p.kinds.length d0c1, .slice d0A2 p.offices.length d0c2, .slice d0A3 p.rules.length d0c3, .int .i64 p.change.kind, .int .i64 p.change.n, .int .i64 p.change.no, .string p.change.name, .slice d0A8 p.change.l.length d0c8, .int .i64 p.mode]) ty28 H rfl 1 rfl rfl rfl rfl ?_)
    have d0 := (d0.mono hI3)
    refine sr_op rfl rfl (ow_call en20 rfl (refResolve_c H d0) ?_)
    rintro _ _ ⟨I5, us5, hI5, H, rfl, hr5⟩
    have d5 := hr5
    obtain ⟨d5v1, d5v2, d5v3, d5v8, rfl, d5_0, d5_1, d5_2, d5_3, d5_4, d5_5, d5_6, d5_7, d5_8, d5_9⟩ := po_iff.1 hr5
    obtain ⟨d5A1, d5c1, rfl, d5m1, d5M1, d5_1⟩ := RepS.open_ d5_1
    obtain ⟨d5A2, d5c2, rfl, d5m2, d5M2, d5_2⟩ := RepS.open_ d5_2
    obtain ⟨d5A3, d5c3, rfl, d5m3, d5M3, d5_3⟩ := RepS.open_ d5_3
    obtain ⟨d5A8, d5c8, rfl, d5m8, d5M8, d5_8⟩ := RepS.open_ d5_8
    refine sr_op rfl rfl (ow_move (v := .tuple #[.agg #[.string ((resP p).name), .slice d5A1 ((resP p).kinds.length) d5c1, .slice d5A2 ((resP p).offices.length) d5c2, .slice d5A3 ((resP p).rules.length) d5c3, .int .i64 ((resP p).change.kind), .int .i64 ((resP p).change.n), .int .i64 ((resP p).change.no), .string ((resP p).change.name), .slice d5A8 ((resP p).change.l.length) d5c8, .int .i64 ((resP p).mode)], .int .i64 (errOf p)]) rfl ?_)
    refine sr_op rfl rfl (ow_extract (v := .agg #[.string ((resP p).name), .slice d5A1 ((resP p).kinds.length) d5c1, .slice d5A2 ((resP p).offices.length) d5c2, .slice d5A3 ((resP p).rules.length) d5c3, .int .i64 ((resP p).change.kind), .int .i64 ((resP p).change.n), .int .i64 ((resP p).change.no), .string ((resP p).change.name), .slice d5A8 ((resP p).change.l.length) d5c8, .int .i64 ((resP p).mode)]) rfl rfl ?_)
    refine sr_op rfl rfl (ow_extract (v := .int .i64 (errOf p)) rfl rfl ?_)
    refine sr_op rfl rfl (ow_alloc ty28 H [.string ⟨#[]⟩, .slice none 0 0, .slice none 0 0, .slice none 0 0, .int .i64 0, .int .i64 0, .int .i64 0, .string ⟨#[]⟩, .slice none 0 0, .int .i64 0] rfl (fun g6 _ H => ?_))
    refine sr_op rfl rfl (ow_store ty28 H rfl (v := .agg #[.string ((resP p).name), .slice d5A1 ((resP p).kinds.length) d5c1, .slice d5A2 ((resP p).offices.length) d5c2, .slice d5A3 ((resP p).rules.length) d5c3, .int .i64 ((resP p).change.kind), .int .i64 ((resP p).change.n), .int .i64 ((resP p).change.no), .string ((resP p).change.name), .slice d5A8 ((resP p).change.l.length) d5c8, .int .i64 ((resP p).mode)]) rfl [.string ((resP p).name), .slice d5A1 ((resP p).kinds.length) d5c1, .slice d5A2 ((resP p).offices.length) d5c2, .slice d5A3 ((resP p).rules.length) d5c3, .int .i64 ((resP p).change.kind), .int .i64 ((resP p).change.n), .int .i64 ((resP p).change.no), .string ((resP p).change.name), .slice d5A8 ((resP p).change.l.length) d5c8, .int .i64 ((resP p).mode)] rfl rfl rfl 0 rfl rfl (fun _ H => ?_))
    refine sr_op rfl rfl (ow_assign (v := .int .i64 (errOf p)) rfl ?_)
    refine sr_nil ?_
    refine st_seq ?_
    refine st_cut (fun m_ w_ => ∃ (r_ : Sl), m_ = (2, .bool (decide (checkE p = (checkE p)))) :: r_ ∧ Hp B I5 w_ ((g6, Ob [.string ((resP p).name), .slice d5A1 ((resP p).kinds.length) d5c1, .slice d5A2 ((resP p).offices.length) d5c2, .slice d5A3 ((resP p).rules.length) d5c3, .int .i64 ((resP p).change.kind), .int .i64 ((resP p).change.n), .int .i64 ((resP p).change.no), .string ((resP p).change.name), .slice d5A8 ((resP p).change.l.length) d5c8, .int .i64 ((resP p).mode)] 28) :: (g4, Ob [.string ((resP p).name), .slice d3A1 ((resP p).kinds.length) d3c1, .slice d3A2 ((resP p).offices.length) d3c2, .slice d3A3 ((resP p).rules.length) d3c3, .int .i64 ((resP p).change.kind), .int .i64 ((resP p).change.n), .int .i64 ((resP p).change.no), .string ((resP p).change.name), .slice d3A8 ((resP p).change.l.length) d3c8, .int .i64 ((resP p).mode)] 28) :: (g1, Ob [.string p.name, .slice d0A1 p.kinds.length d0c1, .slice d0A2 p.offices.length d0c2, .slice d0A3 p.rules.length d0c3, .int .i64 p.change.kind, .int .i64 p.change.n, .int .i64 p.change.no, .string p.change.name, .slice d0A8 p.change.l.length d0c8, .int .i64 p.mode] 28) :: L)) (fun again => ?_) ?_
    · refine st_draw (F := (fun w_ => ∃ I2, Le I5 I2 ∧ Hp B I2 w_ [(g6, Ob [.string ((resP p).name), .slice d5A1 ((resP p).kinds.length) d5c1, .slice d5A2 ((resP p).offices.length) d5c2, .slice d5A3 ((resP p).rules.length) d5c3, .int .i64 ((resP p).change.kind), .int .i64 ((resP p).change.n), .int .i64 ((resP p).change.no), .string ((resP p).change.name), .slice d5A8 ((resP p).change.l.length) d5c8, .int .i64 ((resP p).mode)] 28), (g4, Ob [.string ((resP p).name), .slice d3A1 ((resP p).kinds.length) d3c1, .slice d3A2 ((resP p).offices.length) d3c2, .slice d3A3 ((resP p).rules.length) d3c3, .int .i64 ((resP p).change.kind), .int .i64 ((resP p).change.n), .int .i64 ((resP p).change.no), .string ((resP p).change.name), .slice d3A8 ((resP p).change.l.length) d3c8, .int .i64 ((resP p).mode)] 28), (g1, Ob [.string p.name, .slice d0A1 p.kinds.length d0c1, .slice d0A2 p.offices.length d0c2, .slice d0A3 p.rules.length d0c3, .int .i64 p.change.kind, .int .i64 p.change.n, .int .i64 p.change.no, .string p.change.name, .slice d0A8 p.change.l.length d0c8, .int .i64 p.mode] 28)])) (p0 := [0, 1]) (plan := [(2, [3, 4, 5, 6, 7, 8, 9, 11], []), (10, [], [11]), (12, [13, 14, 15], [])]) [] [] [(23, .agg #[.string ((resP p).name), .slice d5A1 ((resP p).kinds.length) d5c1, .slice d5A2 ((resP p).offices.length) d5c2, .slice d5A3 ((resP p).rules.length) d5c3, .int .i64 ((resP p).change.kind), .int .i64 ((resP p).change.n), .int .i64 ((resP p).change.no), .string ((resP p).change.name), .slice d5A8 ((resP p).change.l.length) d5c8, .int .i64 ((resP p).mode)]), (22, .agg #[.string ((resP p).name), .slice d3A1 ((resP p).kinds.length) d3c1, .slice d3A2 ((resP p).offices.length) d3c2, .slice d3A3 ((resP p).rules.length) d3c3, .int .i64 ((resP p).change.kind), .int .i64 ((resP p).change.n), .int .i64 ((resP p).change.no), .string ((resP p).change.name), .slice d3A8 ((resP p).change.l.length) d3c8, .int .i64 ((resP p).mode)])] (by kernel_rfl) rfl ?_ ⟨_, Le.refl _, H.drew.pick [0, 1, 2] (by decide)⟩ ?_
      · refine ⟨kn_op rfl rfl (wantB_none rfl) fun _ hF2 => ?_, ?_⟩
        · obtain ⟨_, hle2, H2⟩ := hF2
          refine  (ow_load (v := .agg #[.string ((resP p).name), .slice d3A1 ((resP p).kinds.length) d3c1, .slice d3A2 ((resP p).offices.length) d3c2, .slice d3A3 ((resP p).rules.length) d3c3, .int .i64 ((resP p).change.kind), .int .i64 ((resP p).change.n), .int .i64 ((resP p).change.no), .string ((resP p).change.name), .slice d3A8 ((resP p).change.l.length) d3c8, .int .i64 ((resP p).mode)]) ty28 H2 rfl 1 rfl rfl rfl rfl ?_)
          exact ⟨rfl, rfl⟩
        refine ⟨kn_op rfl rfl (wantB_none rfl) fun _ hF2 => ?_, ?_⟩
        · obtain ⟨_, hle2, H2⟩ := hF2
          refine  (ow_load (v := .agg #[.string ((resP p).name), .slice d5A1 ((resP p).kinds.length) d5c1, .slice d5A2 ((resP p).offices.length) d5c2, .slice d5A3 ((resP p).rules.length) d5c3, .int .i64 ((resP p).change.kind), .int .i64 ((resP p).change.n), .int .i64 ((resP p).change.no), .string ((resP p).change.name), .slice d5A8 ((resP p).change.l.length) d5c8, .int .i64 ((resP p).mode)]) ty28 H2 rfl 0 rfl rfl rfl rfl ?_)
          exact ⟨rfl, rfl⟩
        exact trivial
      have H := H.drew
      have d3 := (d3.mono hI5)
      refine cw_op rfl (wantB_none rfl) (ow_call en21 rfl (Same_refl H d3 d5) ?_)
      rintro _ _ ⟨rfl, H⟩
      refine af_some [(33, .agg #[.string p.name, .slice d0A1 p.kinds.length d0c1, .slice d0A2 p.offices.length d0c2, .slice d0A3 p.rules.length d0c3, .int .i64 p.change.kind, .int .i64 p.change.n, .int .i64 p.change.no, .string p.change.name, .slice d0A8 p.change.l.length d0c8, .int .i64 p.mode]), (31, .agg #[.string p.name, .slice d0A1 p.kinds.length d0c1, .slice d0A2 p.offices.length d0c2, .slice d0A3 p.rules.length d0c3, .int .i64 p.change.kind, .int .i64 p.change.n, .int .i64 p.change.no, .string p.change.name, .slice d0A8 p.change.l.length d0c8, .int .i64 p.mode]), (30, .bool (decide (errOf p = (errOf p)))), (29, .bool (decide (errOf p = (errOf p)))), (28, .bool (decide (errOf p = (errOf p)))), (27, .int .i64 (errOf p)), (26, .int .i64 (errOf p)), (25, .bool true)] (fun w_ => ∃ I2, Le I5 I2 ∧ Hp B I2 w_ [(g6, Ob [.string ((resP p).name), .slice d5A1 ((resP p).kinds.length) d5c1, .slice d5A2 ((resP p).offices.length) d5c2, .slice d5A3 ((resP p).rules.length) d5c3, .int .i64 ((resP p).change.kind), .int .i64 ((resP p).change.n), .int .i64 ((resP p).change.no), .string ((resP p).change.name), .slice d5A8 ((resP p).change.l.length) d5c8, .int .i64 ((resP p).mode)] 28), (g4, Ob [.string ((resP p).name), .slice d3A1 ((resP p).kinds.length) d3c1, .slice d3A2 ((resP p).offices.length) d3c2, .slice d3A3 ((resP p).rules.length) d3c3, .int .i64 ((resP p).change.kind), .int .i64 ((resP p).change.n), .int .i64 ((resP p).change.no), .string ((resP p).change.name), .slice d3A8 ((resP p).change.l.length) d3c8, .int .i64 ((resP p).mode)] 28), (g1, Ob [.string p.name, .slice d0A1 p.kinds.length d0c1, .slice d0A2 p.offices.length d0c2, .slice d0A3 p.rules.length d0c3, .int .i64 p.change.kind, .int .i64 p.change.n, .int .i64 p.change.no, .string p.change.name, .slice d0A8 p.change.l.length d0c8, .int .i64 p.mode] 28)]) rfl ⟨_, Le.refl _, H.pick [0, 1, 2] (by decide)⟩ ?_ ?_
      · refine ⟨kn_op rfl rfl (wantB_none rfl) fun _ hF2 => ?_, ?_⟩
        · obtain ⟨_, hle2, H2⟩ := hF2
          refine  (ow_move (v := .bool true) rfl ?_)
          exact ⟨rfl, rfl⟩
        refine ⟨kn_op rfl rfl ((wantB_some (j := 3) rfl rfl (d := 25) rfl rfl (u := true) rfl).trans rfl) fun _ hF2 => ?_, ?_⟩
        · obtain ⟨_, hle2, H2⟩ := hF2
          refine  (ow_move (v := .int .i64 (errOf p)) rfl ?_)
          exact ⟨rfl, rfl⟩
        refine ⟨kn_op rfl rfl ((wantB_some (j := 3) rfl rfl (d := 25) rfl rfl (u := true) rfl).trans rfl) fun _ hF2 => ?_, ?_⟩
        · obtain ⟨_, hle2, H2⟩ := hF2
          refine  (ow_move (v := .int .i64 (errOf p)) rfl ?_)
          exact ⟨rfl, rfl⟩
        refine ⟨kn_op rfl rfl ((wantB_some (j := 3) rfl rfl (d := 25) rfl rfl (u := true) rfl).trans rfl) fun _ hF2 => ?_, ?_⟩
        · obtain ⟨_, hle2, H2⟩ := hF2
          refine  (ow_eql rfl rfl ?_)
          exact ⟨rfl, rfl⟩
        refine ⟨kn_op rfl rfl (wantB_none rfl) fun _ hF2 => ?_, ?_⟩
        · obtain ⟨_, hle2, H2⟩ := hF2
          refine  (ow_pick (v := .bool (decide (errOf p = (errOf p)))) rfl rfl ?_)
          exact ⟨rfl, rfl⟩
        refine ⟨kn_op rfl rfl (wantB_none rfl) fun _ hF2 => ?_, ?_⟩
        · obtain ⟨_, hle2, H2⟩ := hF2
          refine  (ow_move (v := .bool (decide (errOf p = (errOf p)))) rfl ?_)
          exact ⟨rfl, rfl⟩
        refine ⟨kn_op rfl rfl ((wantB_some (j := 8) rfl rfl (d := 30) rfl rfl (u := true) (by exact congrArg Value.bool (decide_eq_true rfl))).trans rfl) fun _ hF2 => ?_, ?_⟩
        · obtain ⟨_, hle2, H2⟩ := hF2
          refine  (ow_load (v := .agg #[.string p.name, .slice d0A1 p.kinds.length d0c1, .slice d0A2 p.offices.length d0c2, .slice d0A3 p.rules.length d0c3, .int .i64 p.change.kind, .int .i64 p.change.n, .int .i64 p.change.no, .string p.change.name, .slice d0A8 p.change.l.length d0c8, .int .i64 p.mode]) ty28 H2 rfl 2 rfl rfl rfl rfl ?_)
          exact ⟨rfl, rfl⟩
        refine ⟨kn_op rfl rfl ((wantB_some (j := 8) rfl rfl (d := 30) rfl rfl (u := true) (by exact congrArg Value.bool (decide_eq_true rfl))).trans rfl) fun _ hF2 => ?_, ?_⟩
        · obtain ⟨_, hle2, H2⟩ := hF2
          refine  (ow_load (v := .agg #[.string p.name, .slice d0A1 p.kinds.length d0c1, .slice d0A2 p.offices.length d0c2, .slice d0A3 p.rules.length d0c3, .int .i64 p.change.kind, .int .i64 p.change.n, .int .i64 p.change.no, .string p.change.name, .slice d0A8 p.change.l.length d0c8, .int .i64 p.mode]) ty28 H2 rfl 2 rfl rfl rfl rfl ?_)
          exact ⟨rfl, rfl⟩
        exact trivial
      have d0 := (d0.mono hI5)
      have hkd := ((hkd.mono hI3).mono hI5)
      refine cw_op rfl ((wantB_some (j := 8) rfl rfl (d := 30) rfl rfl (u := true) (by exact congrArg Value.bool (decide_eq_true rfl))).trans rfl) (ow_call en22 rfl (Check_c H d0 hkd) ?_)
      rintro _ _ ⟨rfl, H⟩
      refine af_some [] (fun w_ => ∃ I2, Le I5 I2 ∧ Hp B I2 w_ [(g6, Ob [.string ((resP p).name), .slice d5A1 ((resP p).kinds.length) d5c1, .slice d5A2 ((resP p).offices.length) d5c2, .slice d5A3 ((resP p).rules.length) d5c3, .int .i64 ((resP p).change.kind), .int .i64 ((resP p).change.n), .int .i64 ((resP p).change.no), .string ((resP p).change.name), .slice d5A8 ((resP p).change.l.length) d5c8, .int .i64 ((resP p).mode)] 28), (g4, Ob [.string ((resP p).name), .slice d3A1 ((resP p).kinds.length) d3c1, .slice d3A2 ((resP p).offices.length) d3c2, .slice d3A3 ((resP p).rules.length) d3c3, .int .i64 ((resP p).change.kind), .int .i64 ((resP p).change.n), .int .i64 ((resP p).change.no), .string ((resP p).change.name), .slice d3A8 ((resP p).change.l.length) d3c8, .int .i64 ((resP p).mode)] 28), (g1, Ob [.string p.name, .slice d0A1 p.kinds.length d0c1, .slice d0A2 p.offices.length d0c2, .slice d0A3 p.rules.length d0c3, .int .i64 p.change.kind, .int .i64 p.change.n, .int .i64 p.change.no, .string p.change.name, .slice d0A8 p.change.l.length d0c8, .int .i64 p.mode] 28)]) rfl ⟨_, Le.refl _, H.pick [0, 1, 2] (by decide)⟩ ?_ ?_
      · refine ⟨kn_op rfl rfl ((wantB_some (j := 8) rfl rfl (d := 30) rfl rfl (u := true) (by exact congrArg Value.bool (decide_eq_true rfl))).trans rfl) fun _ hF2 => ?_, ?_⟩
        · obtain ⟨_, hle2, H2⟩ := hF2
          refine  (ow_load (v := .agg #[.string p.name, .slice d0A1 p.kinds.length d0c1, .slice d0A2 p.offices.length d0c2, .slice d0A3 p.rules.length d0c3, .int .i64 p.change.kind, .int .i64 p.change.n, .int .i64 p.change.no, .string p.change.name, .slice d0A8 p.change.l.length d0c8, .int .i64 p.mode]) ty28 H2 rfl 2 rfl rfl rfl rfl ?_)
          exact ⟨rfl, rfl⟩
        exact trivial
      refine cw_op rfl ((wantB_some (j := 8) rfl rfl (d := 30) rfl rfl (u := true) (by exact congrArg Value.bool (decide_eq_true rfl))).trans rfl) (ow_call en23 rfl (refCheck_c H d0) ?_)
      rintro _ _ ⟨rfl, H⟩
      refine af_some [(2, .bool (decide (checkE p = (checkE p)))), (36, .bool (decide (checkE p = (checkE p)))), (35, .bool (decide (checkE p = (checkE p))))] (fun w_ => ∃ I2, Le I5 I2 ∧ Hp B I2 w_ [(g6, Ob [.string ((resP p).name), .slice d5A1 ((resP p).kinds.length) d5c1, .slice d5A2 ((resP p).offices.length) d5c2, .slice d5A3 ((resP p).rules.length) d5c3, .int .i64 ((resP p).change.kind), .int .i64 ((resP p).change.n), .int .i64 ((resP p).change.no), .string ((resP p).change.name), .slice d5A8 ((resP p).change.l.length) d5c8, .int .i64 ((resP p).mode)] 28), (g4, Ob [.string ((resP p).name), .slice d3A1 ((resP p).kinds.length) d3c1, .slice d3A2 ((resP p).offices.length) d3c2, .slice d3A3 ((resP p).rules.length) d3c3, .int .i64 ((resP p).change.kind), .int .i64 ((resP p).change.n), .int .i64 ((resP p).change.no), .string ((resP p).change.name), .slice d3A8 ((resP p).change.l.length) d3c8, .int .i64 ((resP p).mode)] 28), (g1, Ob [.string p.name, .slice d0A1 p.kinds.length d0c1, .slice d0A2 p.offices.length d0c2, .slice d0A3 p.rules.length d0c3, .int .i64 p.change.kind, .int .i64 p.change.n, .int .i64 p.change.no, .string p.change.name, .slice d0A8 p.change.l.length d0c8, .int .i64 p.mode] 28)]) rfl ⟨_, Le.refl _, H.pick [0, 1, 2] (by decide)⟩ ?_ ?_
      · refine ⟨kn_op rfl rfl ((wantB_some (j := 8) rfl rfl (d := 30) rfl rfl (u := true) (by exact congrArg Value.bool (decide_eq_true rfl))).trans rfl) fun _ hF2 => ?_, ?_⟩
        · obtain ⟨_, hle2, H2⟩ := hF2
          refine  (ow_eql rfl rfl ?_)
          exact ⟨rfl, rfl⟩
        refine ⟨kn_op rfl rfl (wantB_none rfl) fun _ hF2 => ?_, ?_⟩
        · obtain ⟨_, hle2, H2⟩ := hF2
          refine  (ow_pick (a := true) (v := .bool (decide (checkE p = (checkE p)))) (congrArg Value.bool (decide_eq_true rfl)) rfl ?_)
          exact ⟨rfl, rfl⟩
        refine ⟨kn_op rfl rfl (wantB_none rfl) fun _ hF2 => ?_, ?_⟩
        · obtain ⟨_, hle2, H2⟩ := hF2
          refine  (ow_assign (v := .bool (decide (checkE p = (checkE p)))) rfl ?_)
          exact ⟨rfl, rfl⟩
        exact trivial
      refine cw_nil ?_
      exact st_live [2] (again _ _ ⟨_, rfl, H⟩)
    rintro _ _ ⟨r7, rfl, H⟩
    refine st_ret hb (hR _ _ (.bool (decide (checkE p = (checkE p)))) (res_run (vs := [.bool (decide (checkE p = (checkE p)))]) Tryd.results3 ⟨_, _, rfl, rfl, rfl⟩) ?_)
    exact ⟨_, rfl, congrArg Value.bool (decide_eq_true rfl), (Hp.back (H.drop 3) (hI3.trans hI5))⟩
theorem PoliciesVersionsSpec_c {B I L w} (H : Hp B I w L) {l : List Ve} {v : Value} (hl : RepS encVe I 13 l v) (hkd : At I 0 0 kindsV) (at_ kn : Int) : Calls Tryd.prog 4 #[v, .int .i64 at_, .int .i64 kn] w (Rt fun r w' => r = .bool true ∧ Hp B I w' L) := by
  obtain ⟨s0A, s0c, rfl, s0m, s0M, s0⟩ := RepS.open_ hl
  refine calls_st (n := 54) Tryd.func4 rfl rfl rfl ?_
  intro G bF cs hb hfn hR hP
  simp only [ini]
  refine st_seq ?_
  refine st_region ?_
  refine sr_op rfl rfl (ow_assign (v := .bool false) rfl ?_)
  refine sr_nil ?_
  refine st_seq ?_
  refine st_seq ?_
  refine st_region ?_
  refine sr_op rfl rfl (ow_call en17 rfl (sane_c H hkd) ?_)
  rintro _ _ ⟨rfl, H⟩
  refine sr_op rfl rfl (ow_not rfl ?_)
  refine sr_nil ?_
  refine st_no rfl ?_
  refine st_skip ?_
  refine st_seq ?_
  refine st_seq ?_
  refine st_region ?_
  refine sr_op rfl rfl (ow_move (v := .slice s0A l.length s0c) rfl ?_)
  refine sr_op rfl rfl (ow_call en24 rfl (FewVersions_c H s0) ?_)
  rintro _ _ ⟨rfl, H⟩
  refine sr_op rfl rfl (ow_not rfl ?_)
  refine sr_nil ?_
  refine st_cond (!(fewVs l)) rfl (fun hc1 => ?_) (fun hc1 => ?_)
  · have hc1 := bnt hc1
    refine st_seq ?_
    refine st_region ?_
    refine sr_op rfl rfl (ow_assign (v := .bool true) rfl ?_)
    refine sr_nil ?_
    refine st_ret hb (hR _ _ (.bool true) (res_run (vs := [.bool true]) Tryd.results4 ⟨_, _, rfl, rfl, rfl⟩) ?_)
    exact ⟨_, rfl, rfl, H⟩
  · have hc1 := bnf hc1
    refine st_skip ?_
    refine st_seq ?_
    refine st_region ?_
    refine sr_op rfl rfl (ow_move (v := .slice s0A l.length s0c) rfl ?_)
    refine sr_op rfl rfl (ow_move (v := .int .i64 at_) rfl ?_)
    refine sr_op rfl rfl (ow_move (v := .int .i64 kn) rfl ?_)
    refine sr_op rfl rfl (ow_call en25 rfl (Standing_c H s0 hkd at_ kn) ?_)
    rintro _ _ ⟨rfl, H⟩
    refine sr_op rfl rfl (ow_move (v := .tuple #[.int .i64 ((standE l at_ kn).1), .bool ((standE l at_ kn).2.1), .int .i64 ((standE l at_ kn).2.2)]) rfl ?_)
    refine sr_op rfl rfl (ow_extract (v := .int .i64 ((standE l at_ kn).1)) rfl rfl ?_)
    refine sr_op rfl rfl (ow_extract (v := .bool ((standE l at_ kn).2.1)) rfl rfl ?_)
    refine sr_op rfl rfl (ow_extract (v := .int .i64 ((standE l at_ kn).2.2)) rfl rfl ?_)
    refine sr_op rfl rfl (ow_assign (v := .int .i64 ((standE l at_ kn).1)) rfl ?_)
    refine sr_op rfl rfl (ow_assign (v := .bool ((standE l at_ kn).2.1)) rfl ?_)
    refine sr_op rfl rfl (ow_assign (v := .int .i64 ((standE l at_ kn).2.2)) rfl ?_)
    refine sr_nil ?_
    refine st_seq ?_
    refine st_region ?_
    refine sr_op rfl rfl (ow_move (v := .slice s0A l.length s0c) rfl ?_)
    refine sr_op rfl rfl (ow_move (v := .int .i64 at_) rfl ?_)
    refine sr_op rfl rfl (ow_move (v := .int .i64 kn) rfl ?_)
    refine sr_op rfl rfl (ow_call en26 rfl (refStanding_c H s0 at_ kn) ?_)
    rintro _ _ ⟨rfl, H⟩
    refine sr_op rfl rfl (ow_move (v := .tuple #[.int .i64 ((standE l at_ kn).1), .bool ((standE l at_ kn).2.1), .int .i64 ((standE l at_ kn).2.2)]) rfl ?_)
    refine sr_op rfl rfl (ow_extract (v := .int .i64 ((standE l at_ kn).1)) rfl rfl ?_)
    refine sr_op rfl rfl (ow_extract (v := .bool ((standE l at_ kn).2.1)) rfl rfl ?_)
    refine sr_op rfl rfl (ow_extract (v := .int .i64 ((standE l at_ kn).2.2)) rfl rfl ?_)
    refine sr_op rfl rfl (ow_assign (v := .int .i64 ((standE l at_ kn).1)) rfl ?_)
    refine sr_op rfl rfl (ow_assign (v := .bool ((standE l at_ kn).2.1)) rfl ?_)
    refine sr_op rfl rfl (ow_assign (v := .int .i64 ((standE l at_ kn).2.2)) rfl ?_)
    refine sr_nil ?_
    refine st_seq ?_
    refine st_region ?_
    refine sr_op rfl rfl (ow_move (v := .slice s0A l.length s0c) rfl ?_)
    refine sr_op rfl rfl (ow_call en27 rfl (CheckAll_c H s0 hkd) ?_)
    rintro _ _ ⟨rfl, H⟩
    refine sr_op rfl rfl (ow_move (v := .slice s0A l.length s0c) rfl ?_)
    refine sr_op rfl rfl (ow_call en28 rfl (refCheckAll_c H s0) ?_)
    rintro _ _ ⟨rfl, H⟩
    refine sr_op rfl rfl (ow_eql rfl rfl ?_)
    refine sr_op rfl rfl (ow_move (v := .bool (decide (allE l = (allE l)))) rfl ?_)
    refine sr_want rfl (j := 5) (d := 39) rfl rfl rfl (v := true) (congrArg Value.bool (decide_eq_true rfl)) rfl (ow_move (v := .int .i64 ((standE l at_ kn).1)) rfl ?_)
    refine sr_want rfl (j := 5) (d := 39) rfl rfl rfl (v := true) (congrArg Value.bool (decide_eq_true rfl)) rfl (ow_move (v := .int .i64 ((standE l at_ kn).1)) rfl ?_)
    refine sr_want rfl (j := 5) (d := 39) rfl rfl rfl (v := true) (congrArg Value.bool (decide_eq_true rfl)) rfl (ow_eql rfl rfl ?_)
    refine sr_op rfl rfl (ow_pick (a := true) (v := .bool (decide (((standE l at_ kn).1) = ((standE l at_ kn).1)))) (congrArg Value.bool (decide_eq_true rfl)) rfl ?_)
    refine sr_op rfl rfl (ow_move (v := .bool (decide (((standE l at_ kn).1) = ((standE l at_ kn).1)))) rfl ?_)
    refine sr_want rfl (j := 10) (d := 44) rfl rfl rfl (v := true) (congrArg Value.bool (decide_eq_true rfl)) rfl (ow_move (v := .bool ((standE l at_ kn).2.1)) rfl ?_)
    refine sr_want rfl (j := 10) (d := 44) rfl rfl rfl (v := true) (congrArg Value.bool (decide_eq_true rfl)) rfl (ow_move (v := .bool ((standE l at_ kn).2.1)) rfl ?_)
    refine sr_want rfl (j := 10) (d := 44) rfl rfl rfl (v := true) (congrArg Value.bool (decide_eq_true rfl)) rfl (ow_beq Tryd.underlying4 rfl rfl ?_)
    refine sr_op rfl rfl (ow_pick (a := true) (v := .bool (decide (((standE l at_ kn).2.1) = ((standE l at_ kn).2.1)))) (congrArg Value.bool (decide_eq_true rfl)) rfl ?_)
    refine sr_op rfl rfl (ow_move (v := .bool (decide (((standE l at_ kn).2.1) = ((standE l at_ kn).2.1)))) rfl ?_)
    refine sr_want rfl (j := 15) (d := 49) rfl rfl rfl (v := true) (congrArg Value.bool (decide_eq_true rfl)) rfl (ow_move (v := .int .i64 ((standE l at_ kn).2.2)) rfl ?_)
    refine sr_want rfl (j := 15) (d := 49) rfl rfl rfl (v := true) (congrArg Value.bool (decide_eq_true rfl)) rfl (ow_move (v := .int .i64 ((standE l at_ kn).2.2)) rfl ?_)
    refine sr_want rfl (j := 15) (d := 49) rfl rfl rfl (v := true) (congrArg Value.bool (decide_eq_true rfl)) rfl (ow_eql rfl rfl ?_)
    refine sr_op rfl rfl (ow_pick (a := true) (v := .bool (decide (((standE l at_ kn).2.2) = ((standE l at_ kn).2.2)))) (congrArg Value.bool (decide_eq_true rfl)) rfl ?_)
    refine sr_op rfl rfl (ow_assign (v := .bool (decide (((standE l at_ kn).2.2) = ((standE l at_ kn).2.2)))) rfl ?_)
    refine sr_nil ?_
    refine st_ret hb (hR _ _ (.bool (decide (((standE l at_ kn).2.2) = ((standE l at_ kn).2.2)))) (res_run (vs := [.bool (decide (((standE l at_ kn).2.2) = ((standE l at_ kn).2.2)))]) Tryd.results4 ⟨_, _, rfl, rfl, rfl⟩) ?_)
    exact ⟨_, rfl, congrArg Value.bool (decide_eq_true rfl), H⟩
end Go.Proofs.YtbbflenaeihmeaaDoor
