/-
  Walks: the statement PoliciesTwice.
-/
import Derived.Test.YtbbflenaeihmeaaDoorP24
set_option linter.unusedVariables false
set_option linter.unusedSimpArgs false
set_option maxRecDepth 10000
set_option maxHeartbeats 4000000
namespace Go.Proofs.YtbbflenaeihmeaaDoor
open Go Go.RowKit

theorem Check_as {B I L w} (H : Hp B I w L) {q : Po} {us : List Value} (hp : RepL I (encPo q) us) (hkd : At I 0 0 kindsV) {e : Int} (h : checkE q = e) : Calls Tryd.prog 22 #[.agg us.toArray] w (Rt fun r w' => r = .int .i64 e ∧ Hp B I w' L) := by
  have h1 := Check_c H hp hkd
  rw [h] at h1
  exact h1
theorem PoliciesTwice_c {B I L w} (H : Hp B I w L) {p : Po} {us : List Value} (hp : RepL I (encPo p) us) (hkd : At I 0 0 kindsV) (n : Int) (hn : I64 n) : Calls Tryd.prog 6 #[.agg us.toArray, .int .i64 n] w (Rt fun r w' => r = .bool true ∧ Hp B I w' L) := by
  by_cases hok : errOf p = 0
  · have d0 := hp
    obtain ⟨d0v1, d0v2, d0v3, d0v8, rfl, d0_0, d0_1, d0_2, d0_3, d0_4, d0_5, d0_6, d0_7, d0_8, d0_9⟩ := po_iff.1 hp
    obtain ⟨d0A1, d0c1, rfl, d0m1, d0M1, d0_1⟩ := RepS.open_ d0_1
    obtain ⟨d0A2, d0c2, rfl, d0m2, d0M2, d0_2⟩ := RepS.open_ d0_2
    obtain ⟨d0A3, d0c3, rfl, d0m3, d0M3, d0_3⟩ := RepS.open_ d0_3
    obtain ⟨d0A8, d0c8, rfl, d0m8, d0M8, d0_8⟩ := RepS.open_ d0_8
    refine calls_st (n := 71) Tryd.func6 rfl rfl rfl ?_
    intro G bF cs hb hfn hR hP
    simp only [ini]
    refine st_seq ?_
    refine st_region ?_
    refine sr_op rfl rfl (ow_box H (v := .agg #[.string p.name, .slice d0A1 p.kinds.length d0c1, .slice d0A2 p.offices.length d0c2, .slice d0A3 p.rules.length d0c3, .int .i64 p.change.kind, .int .i64 p.change.n, .int .i64 p.change.no, .string p.change.name, .slice d0A8 p.change.l.length d0c8, .int .i64 p.mode]) rfl [.string p.name, .slice d0A1 p.kinds.length d0c1, .slice d0A2 p.offices.length d0c2, .slice d0A3 p.rules.length d0c3, .int .i64 p.change.kind, .int .i64 p.change.n, .int .i64 p.change.no, .string p.change.name, .slice d0A8 p.change.l.length d0c8, .int .i64 p.mode] rfl (fun g1 _ H => ?_))
    refine sr_op rfl rfl (ow_assign (v := .bool false) rfl ?_)
    refine sr_nil ?_
    refine st_seq ?_
    refine st_seq ?_
    refine st_region ?_
    refine sr_op rfl rfl (ow_call en17 rfl (sane_c H hkd) ?_)
    rintro _ _ ⟨rfl, H⟩
    refine sr_op rfl rfl (ow_not rfl ?_)
    refine sr_nil ?_
    refine st_no rfl ?_
    refine st_skip ?_
    refine st_seq ?_
    refine st_seq ?_
    refine st_region ?_
    refine sr_op rfl rfl (ow_load (v := .agg #[.string p.name, .slice d0A1 p.kinds.length d0c1, .slice d0A2 p.offices.length d0c2, .slice d0A3 p.rules.length d0c3, .int .i64 p.change.kind, .int .i64 p.change.n, .int .i64 p.change.no, .string p.change.name, .slice d0A8 p.change.l.length d0c8, .int .i64 p.mode]) ty28 H rfl 0 rfl rfl rfl rfl ?_)
    refine sr_op rfl rfl (ow_call en18 rfl (Few_c H d0) ?_)
    rintro _ _ ⟨rfl, H⟩
    refine sr_op rfl rfl (ow_not rfl ?_)
    refine sr_nil ?_
    refine st_cond (!(fewB p)) rfl (fun hc2 => ?_) (fun hc2 => ?_)
    · refine st_seq ?_
      refine st_region ?_
      refine sr_op rfl rfl (ow_assign (v := .bool true) rfl ?_)
      refine sr_nil ?_
      refine st_ret hb (hR _ _ (.bool true) (res_run (vs := [.bool true]) Tryd.results6 ⟨_, _, rfl, rfl, rfl⟩) ?_)
      exact ⟨_, rfl, rfl, (H.drop 1)⟩
    · have hfw := bnf hc2
      refine st_skip ?_
      refine st_seq ?_
      refine st_region ?_
      refine sr_op rfl rfl (ow_load (v := .agg #[.string p.name, .slice d0A1 p.kinds.length d0c1, .slice d0A2 p.offices.length d0c2, .slice d0A3 p.rules.length d0c3, .int .i64 p.change.kind, .int .i64 p.change.n, .int .i64 p.change.no, .string p.change.name, .slice d0A8 p.change.l.length d0c8, .int .i64 p.mode]) ty28 H rfl 0 rfl rfl rfl rfl ?_)
      refine sr_op rfl rfl (ow_move (v := .int .i64 n) rfl ?_)
      refine sr_op rfl rfl (ow_call en30 rfl (bare_c H d0 hfw n hn) ?_)
      rintro _ _ ⟨I3, us3, hI3, H, rfl, hr3⟩
      have d3 := hr3
      obtain ⟨d3v1, d3v2, d3v3, d3v8, rfl, d3_0, d3_1, d3_2, d3_3, d3_4, d3_5, d3_6, d3_7, d3_8, d3_9⟩ := po_iff.1 hr3
      obtain ⟨d3A1, d3c1, rfl, d3m1, d3M1, d3_1⟩ := RepS.open_ d3_1
      obtain ⟨d3A2, d3c2, rfl, d3m2, d3M2, d3_2⟩ := RepS.open_ d3_2
      obtain ⟨d3A3, d3c3, rfl, d3m3, d3M3, d3_3⟩ := RepS.open_ d3_3
      obtain ⟨d3A8, d3c8, rfl, d3m8, d3M8, d3_8⟩ := RepS.open_ d3_8
      refine sr_op rfl rfl (ow_alloc ty28 H [.string ⟨#[]⟩, .slice none 0 0, .slice none 0 0, .slice none 0 0, .int .i64 0, .int .i64 0, .int .i64 0, .string ⟨#[]⟩, .slice none 0 0, .int .i64 0] rfl (fun g4 _ H => ?_))
      refine sr_op rfl rfl (ow_store ty28 H rfl (v := .agg #[.string ((bareP n p).name), .slice d3A1 ((bareP n p).kinds.length) d3c1, .slice d3A2 ((bareP n p).offices.length) d3c2, .slice d3A3 ((bareP n p).rules.length) d3c3, .int .i64 ((bareP n p).change.kind), .int .i64 ((bareP n p).change.n), .int .i64 ((bareP n p).change.no), .string ((bareP n p).change.name), .slice d3A8 ((bareP n p).change.l.length) d3c8, .int .i64 ((bareP n p).mode)]) rfl [.string ((bareP n p).name), .slice d3A1 ((bareP n p).kinds.length) d3c1, .slice d3A2 ((bareP n p).offices.length) d3c2, .slice d3A3 ((bareP n p).rules.length) d3c3, .int .i64 ((bareP n p).change.kind), .int .i64 ((bareP n p).change.n), .int .i64 ((bareP n p).change.no), .string ((bareP n p).change.name), .slice d3A8 ((bareP n p).change.l.length) d3c8, .int .i64 ((bareP n p).mode)] rfl rfl rfl 0 rfl rfl (fun _ H => ?_))
      refine sr_nil ?_
      refine st_seq ?_
      refine st_region ?_
      refine sr_op rfl rfl (ow_load (v := .agg #[.string p.name, .slice d0A1 p.kinds.length d0c1, .slice d0A2 p.offices.length d0c2, .slice d0A3 p.rules.length d0c3, .int .i64 p.change.kind, .int .i64 p.change.n, .int .i64 p.change.no, .string p.change.name, .slice d0A8 p.change.l.length d0c8, .int .i64 p.mode]) ty28 H rfl 1 rfl rfl rfl rfl ?_)
      have d0 := (d0.mono hI3)
      have hkd := (hkd.mono hI3)
      refine sr_op rfl rfl (ow_call en19 rfl (Resolve_as H d0 hkd hok rfl) ?_)
      rintro _ _ ⟨I5, us5, hI5, H, rfl, hr5⟩
      have d5 := hr5
      obtain ⟨d5v1, d5v2, d5v3, d5v8, rfl, d5_0, d5_1, d5_2, d5_3, d5_4, d5_5, d5_6, d5_7, d5_8, d5_9⟩ := po_iff.1 hr5
      obtain ⟨d5A1, d5c1, rfl, d5m1, d5M1, d5_1⟩ := RepS.open_ d5_1
      obtain ⟨d5A2, d5c2, rfl, d5m2, d5M2, d5_2⟩ := RepS.open_ d5_2
      obtain ⟨d5A3, d5c3, rfl, d5m3, d5M3, d5_3⟩ := RepS.open_ d5_3
      obtain ⟨d5A8, d5c8, rfl, d5m8, d5M8, d5_8⟩ := RepS.open_ d5_8
      refine sr_op rfl rfl (ow_move (v := .tuple #[.agg #[.string ((resolveP p).name), .slice d5A1 ((resolveP p).kinds.length) d5c1, .slice d5A2 ((resolveP p).offices.length) d5c2, .slice d5A3 ((resolveP p).rules.length) d5c3, .int .i64 ((resolveP p).change.kind), .int .i64 ((resolveP p).change.n), .int .i64 ((resolveP p).change.no), .string ((resolveP p).change.name), .slice d5A8 ((resolveP p).change.l.length) d5c8, .int .i64 ((resolveP p).mode)], .int .i64 0]) rfl ?_)
      refine sr_op rfl rfl (ow_extract (v := .agg #[.string ((resolveP p).name), .slice d5A1 ((resolveP p).kinds.length) d5c1, .slice d5A2 ((resolveP p).offices.length) d5c2, .slice d5A3 ((resolveP p).rules.length) d5c3, .int .i64 ((resolveP p).change.kind), .int .i64 ((resolveP p).change.n), .int .i64 ((resolveP p).change.no), .string ((resolveP p).change.name), .slice d5A8 ((resolveP p).change.l.length) d5c8, .int .i64 ((resolveP p).mode)]) rfl rfl ?_)
      refine sr_op rfl rfl (ow_extract (v := .int .i64 0) rfl rfl ?_)
      refine sr_op rfl rfl (ow_alloc ty28 H [.string ⟨#[]⟩, .slice none 0 0, .slice none 0 0, .slice none 0 0, .int .i64 0, .int .i64 0, .int .i64 0, .string ⟨#[]⟩, .slice none 0 0, .int .i64 0] rfl (fun g6 _ H => ?_))
      refine sr_op rfl rfl (ow_store ty28 H rfl (v := .agg #[.string ((resolveP p).name), .slice d5A1 ((resolveP p).kinds.length) d5c1, .slice d5A2 ((resolveP p).offices.length) d5c2, .slice d5A3 ((resolveP p).rules.length) d5c3, .int .i64 ((resolveP p).change.kind), .int .i64 ((resolveP p).change.n), .int .i64 ((resolveP p).change.no), .string ((resolveP p).change.name), .slice d5A8 ((resolveP p).change.l.length) d5c8, .int .i64 ((resolveP p).mode)]) rfl [.string ((resolveP p).name), .slice d5A1 ((resolveP p).kinds.length) d5c1, .slice d5A2 ((resolveP p).offices.length) d5c2, .slice d5A3 ((resolveP p).rules.length) d5c3, .int .i64 ((resolveP p).change.kind), .int .i64 ((resolveP p).change.n), .int .i64 ((resolveP p).change.no), .string ((resolveP p).change.name), .slice d5A8 ((resolveP p).change.l.length) d5c8, .int .i64 ((resolveP p).mode)] rfl rfl rfl 0 rfl rfl (fun _ H => ?_))
      refine sr_op rfl rfl (ow_assign (v := .int .i64 0) rfl ?_)
      refine sr_nil ?_
      refine st_seq ?_
      refine st_region ?_
      refine sr_op rfl rfl (ow_load (v := .agg #[.string ((bareP n p).name), .slice d3A1 ((bareP n p).kinds.length) d3c1, .slice d3A2 ((bareP n p).offices.length) d3c2, .slice d3A3 ((bareP n p).rules.length) d3c3, .int .i64 ((bareP n p).change.kind), .int .i64 ((bareP n p).change.n), .int .i64 ((bareP n p).change.no), .string ((bareP n p).change.name), .slice d3A8 ((bareP n p).change.l.length) d3c8, .int .i64 ((bareP n p).mode)]) ty28 H rfl 1 rfl rfl rfl rfl ?_)
      have d3 := (d3.mono hI5)
      have hkd := (hkd.mono hI5)
      refine sr_op rfl rfl (ow_call en19 rfl (Resolve_as H d3 hkd (by rw [bare_err]; exact hok) (bare_resolveP n p)) ?_)
      rintro _ _ ⟨I7, us7, hI7, H, rfl, hr7⟩
      have d7 := hr7
      obtain ⟨d7v1, d7v2, d7v3, d7v8, rfl, d7_0, d7_1, d7_2, d7_3, d7_4, d7_5, d7_6, d7_7, d7_8, d7_9⟩ := po_iff.1 hr7
      obtain ⟨d7A1, d7c1, rfl, d7m1, d7M1, d7_1⟩ := RepS.open_ d7_1
      obtain ⟨d7A2, d7c2, rfl, d7m2, d7M2, d7_2⟩ := RepS.open_ d7_2
      obtain ⟨d7A3, d7c3, rfl, d7m3, d7M3, d7_3⟩ := RepS.open_ d7_3
      obtain ⟨d7A8, d7c8, rfl, d7m8, d7M8, d7_8⟩ := RepS.open_ d7_8
      refine sr_op rfl rfl (ow_move (v := .tuple #[.agg #[.string ((resolveP p).name), .slice d7A1 ((resolveP p).kinds.length) d7c1, .slice d7A2 ((resolveP p).offices.length) d7c2, .slice d7A3 ((resolveP p).rules.length) d7c3, .int .i64 ((resolveP p).change.kind), .int .i64 ((resolveP p).change.n), .int .i64 ((resolveP p).change.no), .string ((resolveP p).change.name), .slice d7A8 ((resolveP p).change.l.length) d7c8, .int .i64 ((resolveP p).mode)], .int .i64 0]) rfl ?_)
      refine sr_op rfl rfl (ow_extract (v := .agg #[.string ((resolveP p).name), .slice d7A1 ((resolveP p).kinds.length) d7c1, .slice d7A2 ((resolveP p).offices.length) d7c2, .slice d7A3 ((resolveP p).rules.length) d7c3, .int .i64 ((resolveP p).change.kind), .int .i64 ((resolveP p).change.n), .int .i64 ((resolveP p).change.no), .string ((resolveP p).change.name), .slice d7A8 ((resolveP p).change.l.length) d7c8, .int .i64 ((resolveP p).mode)]) rfl rfl ?_)
      refine sr_op rfl rfl (ow_extract (v := .int .i64 0) rfl rfl ?_)
      refine sr_op rfl rfl (ow_alloc ty28 H [.string ⟨#[]⟩, .slice none 0 0, .slice none 0 0, .slice none 0 0, .int .i64 0, .int .i64 0, .int .i64 0, .string ⟨#[]⟩, .slice none 0 0, .int .i64 0] rfl (fun g8 _ H => ?_))
      refine sr_op rfl rfl (ow_store ty28 H rfl (v := .agg #[.string ((resolveP p).name), .slice d7A1 ((resolveP p).kinds.length) d7c1, .slice d7A2 ((resolveP p).offices.length) d7c2, .slice d7A3 ((resolveP p).rules.length) d7c3, .int .i64 ((resolveP p).change.kind), .int .i64 ((resolveP p).change.n), .int .i64 ((resolveP p).change.no), .string ((resolveP p).change.name), .slice d7A8 ((resolveP p).change.l.length) d7c8, .int .i64 ((resolveP p).mode)]) rfl [.string ((resolveP p).name), .slice d7A1 ((resolveP p).kinds.length) d7c1, .slice d7A2 ((resolveP p).offices.length) d7c2, .slice d7A3 ((resolveP p).rules.length) d7c3, .int .i64 ((resolveP p).change.kind), .int .i64 ((resolveP p).change.n), .int .i64 ((resolveP p).change.no), .string ((resolveP p).change.name), .slice d7A8 ((resolveP p).change.l.length) d7c8, .int .i64 ((resolveP p).mode)] rfl rfl rfl 0 rfl rfl (fun _ H => ?_))
      refine sr_op rfl rfl (ow_assign (v := .int .i64 0) rfl ?_)
      refine sr_nil ?_
      refine st_seq ?_
      refine st_seq ?_
      refine st_region ?_
      refine sr_op rfl rfl (ow_move (v := .int .i64 0) rfl ?_)
      refine sr_op rfl rfl (ow_move (v := .int .i64 0) rfl ?_)
      refine sr_op rfl rfl (ow_neq rfl rfl ?_)
      refine sr_op rfl rfl (ow_move (v := .bool false) rfl ?_)
      refine sr_want rfl (j := 3) (d := 33) rfl rfl rfl (v := false) rfl rfl (ow_load (v := .agg #[.string ((resolveP p).name), .slice d5A1 ((resolveP p).kinds.length) d5c1, .slice d5A2 ((resolveP p).offices.length) d5c2, .slice d5A3 ((resolveP p).rules.length) d5c3, .int .i64 ((resolveP p).change.kind), .int .i64 ((resolveP p).change.n), .int .i64 ((resolveP p).change.no), .string ((resolveP p).change.name), .slice d5A8 ((resolveP p).change.l.length) d5c8, .int .i64 ((resolveP p).mode)]) ty28 H rfl 1 rfl rfl rfl rfl ?_)
      refine sr_want rfl (j := 3) (d := 33) rfl rfl rfl (v := false) rfl rfl (ow_load (v := .agg #[.string ((resolveP p).name), .slice d7A1 ((resolveP p).kinds.length) d7c1, .slice d7A2 ((resolveP p).offices.length) d7c2, .slice d7A3 ((resolveP p).rules.length) d7c3, .int .i64 ((resolveP p).change.kind), .int .i64 ((resolveP p).change.n), .int .i64 ((resolveP p).change.no), .string ((resolveP p).change.name), .slice d7A8 ((resolveP p).change.l.length) d7c8, .int .i64 ((resolveP p).mode)]) ty28 H rfl 0 rfl rfl rfl rfl ?_)
      have d5 := (d5.mono hI7)
      refine sr_want rfl (j := 3) (d := 33) rfl rfl rfl (v := false) rfl rfl (ow_call en21 rfl (Same_eq H d5 d7 rfl) ?_)
      rintro _ _ ⟨rfl, H⟩
      refine sr_want rfl (j := 3) (d := 33) rfl rfl rfl (v := false) rfl rfl (ow_not rfl ?_)
      refine sr_op rfl rfl (ow_pick (v := .bool !true) rfl rfl ?_)
      refine sr_nil ?_
      refine st_no rfl ?_
      refine st_skip ?_
      refine st_seq ?_
      refine st_seq ?_
      refine st_region ?_
      refine sr_op rfl rfl (ow_move (v := .int .i64 0) rfl ?_)
      refine sr_op rfl rfl (ow_neq rfl rfl ?_)
      refine sr_nil ?_
      refine st_no rfl ?_
      refine st_skip ?_
      refine st_seq ?_
      refine st_region ?_
      refine sr_op rfl rfl (ow_load (v := .agg #[.string ((resolveP p).name), .slice d5A1 ((resolveP p).kinds.length) d5c1, .slice d5A2 ((resolveP p).offices.length) d5c2, .slice d5A3 ((resolveP p).rules.length) d5c3, .int .i64 ((resolveP p).change.kind), .int .i64 ((resolveP p).change.n), .int .i64 ((resolveP p).change.no), .string ((resolveP p).change.name), .slice d5A8 ((resolveP p).change.l.length) d5c8, .int .i64 ((resolveP p).mode)]) ty28 H rfl 1 rfl rfl rfl rfl ?_)
      have hkd := (hkd.mono hI7)
      refine sr_op rfl rfl (ow_call en19 rfl (Resolve_as H d5 hkd (by rw [err_resolve]; exact hok) (resolve_twice p)) ?_)
      rintro _ _ ⟨I9, us9, hI9, H, rfl, hr9⟩
      have d9 := hr9
      obtain ⟨d9v1, d9v2, d9v3, d9v8, rfl, d9_0, d9_1, d9_2, d9_3, d9_4, d9_5, d9_6, d9_7, d9_8, d9_9⟩ := po_iff.1 hr9
      obtain ⟨d9A1, d9c1, rfl, d9m1, d9M1, d9_1⟩ := RepS.open_ d9_1
      obtain ⟨d9A2, d9c2, rfl, d9m2, d9M2, d9_2⟩ := RepS.open_ d9_2
      obtain ⟨d9A3, d9c3, rfl, d9m3, d9M3, d9_3⟩ := RepS.open_ d9_3
      obtain ⟨d9A8, d9c8, rfl, d9m8, d9M8, d9_8⟩ := RepS.open_ d9_8
      refine sr_op rfl rfl (ow_move (v := .tuple #[.agg #[.string ((resolveP p).name), .slice d9A1 ((resolveP p).kinds.length) d9c1, .slice d9A2 ((resolveP p).offices.length) d9c2, .slice d9A3 ((resolveP p).rules.length) d9c3, .int .i64 ((resolveP p).change.kind), .int .i64 ((resolveP p).change.n), .int .i64 ((resolveP p).change.no), .string ((resolveP p).change.name), .slice d9A8 ((resolveP p).change.l.length) d9c8, .int .i64 ((resolveP p).mode)], .int .i64 0]) rfl ?_)
      refine sr_op rfl rfl (ow_extract (v := .agg #[.string ((resolveP p).name), .slice d9A1 ((resolveP p).kinds.length) d9c1, .slice d9A2 ((resolveP p).offices.length) d9c2, .slice d9A3 ((resolveP p).rules.length) d9c3, .int .i64 ((resolveP p).change.kind), .int .i64 ((resolveP p).change.n), .int .i64 ((resolveP p).change.no), .string ((resolveP p).change.name), .slice d9A8 ((resolveP p).change.l.length) d9c8, .int .i64 ((resolveP p).mode)]) rfl rfl ?_)
      refine sr_op rfl rfl (ow_extract (v := .int .i64 0) rfl rfl ?_)
      refine sr_op rfl rfl (ow_alloc ty28 H [.string ⟨#[]⟩, .slice none 0 0, .slice none 0 0, .slice none 0 0, .int .i64 0, .int .i64 0, .int .i64 0, .string ⟨#[]⟩, .slice none 0 0, .int .i64 0] rfl (fun g10 _ H => ?_))
      refine sr_op rfl rfl (ow_store ty28 H rfl (v := .agg #[.string ((resolveP p).name), .slice d9A1 ((resolveP p).kinds.length) d9c1, .slice d9A2 ((resolveP p).offices.length) d9c2, .slice d9A3 ((resolveP p).rules.length) d9c3, .int .i64 ((resolveP p).change.kind), .int .i64 ((resolveP p).change.n), .int .i64 ((resolveP p).change.no), .string ((resolveP p).change.name), .slice d9A8 ((resolveP p).change.l.length) d9c8, .int .i64 ((resolveP p).mode)]) rfl [.string ((resolveP p).name), .slice d9A1 ((resolveP p).kinds.length) d9c1, .slice d9A2 ((resolveP p).offices.length) d9c2, .slice d9A3 ((resolveP p).rules.length) d9c3, .int .i64 ((resolveP p).change.kind), .int .i64 ((resolveP p).change.n), .int .i64 ((resolveP p).change.no), .string ((resolveP p).change.name), .slice d9A8 ((resolveP p).change.l.length) d9c8, .int .i64 ((resolveP p).mode)] rfl rfl rfl 0 rfl rfl (fun _ H => ?_))
      refine sr_op rfl rfl (ow_assign (v := .int .i64 0) rfl ?_)
      refine sr_nil ?_
      refine st_seq ?_
      refine st_cut (fun m_ w_ => ∃ (r_ : Sl), m_ = (4, .bool (decide ((decide ((checkE (bareP n p)) = 0)) = (sameP (bareP n p) (resolveP p))))) :: r_ ∧ Hp B I9 w_ ((g10, Ob [.string ((resolveP p).name), .slice d9A1 ((resolveP p).kinds.length) d9c1, .slice d9A2 ((resolveP p).offices.length) d9c2, .slice d9A3 ((resolveP p).rules.length) d9c3, .int .i64 ((resolveP p).change.kind), .int .i64 ((resolveP p).change.n), .int .i64 ((resolveP p).change.no), .string ((resolveP p).change.name), .slice d9A8 ((resolveP p).change.l.length) d9c8, .int .i64 ((resolveP p).mode)] 28) :: (g8, Ob [.string ((resolveP p).name), .slice d7A1 ((resolveP p).kinds.length) d7c1, .slice d7A2 ((resolveP p).offices.length) d7c2, .slice d7A3 ((resolveP p).rules.length) d7c3, .int .i64 ((resolveP p).change.kind), .int .i64 ((resolveP p).change.n), .int .i64 ((resolveP p).change.no), .string ((resolveP p).change.name), .slice d7A8 ((resolveP p).change.l.length) d7c8, .int .i64 ((resolveP p).mode)] 28) :: (g6, Ob [.string ((resolveP p).name), .slice d5A1 ((resolveP p).kinds.length) d5c1, .slice d5A2 ((resolveP p).offices.length) d5c2, .slice d5A3 ((resolveP p).rules.length) d5c3, .int .i64 ((resolveP p).change.kind), .int .i64 ((resolveP p).change.n), .int .i64 ((resolveP p).change.no), .string ((resolveP p).change.name), .slice d5A8 ((resolveP p).change.l.length) d5c8, .int .i64 ((resolveP p).mode)] 28) :: (g4, Ob [.string ((bareP n p).name), .slice d3A1 ((bareP n p).kinds.length) d3c1, .slice d3A2 ((bareP n p).offices.length) d3c2, .slice d3A3 ((bareP n p).rules.length) d3c3, .int .i64 ((bareP n p).change.kind), .int .i64 ((bareP n p).change.n), .int .i64 ((bareP n p).change.no), .string ((bareP n p).change.name), .slice d3A8 ((bareP n p).change.l.length) d3c8, .int .i64 ((bareP n p).mode)] 28) :: (g1, Ob [.string p.name, .slice d0A1 p.kinds.length d0c1, .slice d0A2 p.offices.length d0c2, .slice d0A3 p.rules.length d0c3, .int .i64 p.change.kind, .int .i64 p.change.n, .int .i64 p.change.no, .string p.change.name, .slice d0A8 p.change.l.length d0c8, .int .i64 p.mode] 28) :: L)) (fun again => ?_) ?_
      · refine st_draw (F := (fun w_ => ∃ I2, Le I9 I2 ∧ Hp B I2 w_ [(g10, Ob [.string ((resolveP p).name), .slice d9A1 ((resolveP p).kinds.length) d9c1, .slice d9A2 ((resolveP p).offices.length) d9c2, .slice d9A3 ((resolveP p).rules.length) d9c3, .int .i64 ((resolveP p).change.kind), .int .i64 ((resolveP p).change.n), .int .i64 ((resolveP p).change.no), .string ((resolveP p).change.name), .slice d9A8 ((resolveP p).change.l.length) d9c8, .int .i64 ((resolveP p).mode)] 28), (g8, Ob [.string ((resolveP p).name), .slice d7A1 ((resolveP p).kinds.length) d7c1, .slice d7A2 ((resolveP p).offices.length) d7c2, .slice d7A3 ((resolveP p).rules.length) d7c3, .int .i64 ((resolveP p).change.kind), .int .i64 ((resolveP p).change.n), .int .i64 ((resolveP p).change.no), .string ((resolveP p).change.name), .slice d7A8 ((resolveP p).change.l.length) d7c8, .int .i64 ((resolveP p).mode)] 28), (g6, Ob [.string ((resolveP p).name), .slice d5A1 ((resolveP p).kinds.length) d5c1, .slice d5A2 ((resolveP p).offices.length) d5c2, .slice d5A3 ((resolveP p).rules.length) d5c3, .int .i64 ((resolveP p).change.kind), .int .i64 ((resolveP p).change.n), .int .i64 ((resolveP p).change.no), .string ((resolveP p).change.name), .slice d5A8 ((resolveP p).change.l.length) d5c8, .int .i64 ((resolveP p).mode)] 28), (g4, Ob [.string ((bareP n p).name), .slice d3A1 ((bareP n p).kinds.length) d3c1, .slice d3A2 ((bareP n p).offices.length) d3c2, .slice d3A3 ((bareP n p).rules.length) d3c3, .int .i64 ((bareP n p).change.kind), .int .i64 ((bareP n p).change.n), .int .i64 ((bareP n p).change.no), .string ((bareP n p).change.name), .slice d3A8 ((bareP n p).change.l.length) d3c8, .int .i64 ((bareP n p).mode)] 28), (g1, Ob [.string p.name, .slice d0A1 p.kinds.length d0c1, .slice d0A2 p.offices.length d0c2, .slice d0A3 p.rules.length d0c3, .int .i64 p.change.kind, .int .i64 p.change.n, .int .i64 p.change.no, .string p.change.name, .slice d0A8 p.change.l.length d0c8, .int .i64 p.mode] 28)])) (p0 := [0, 1, 2, 3, 4]) (plan := [(5, [6, 7, 8], []), (9, [10, 11, 12, 13, 16, 17], []), (14, [15], [16, 17]), (18, [19, 20, 21], [15])]) [] [] [(54, .agg #[.string ((resolveP p).name), .slice d9A1 ((resolveP p).kinds.length) d9c1, .slice d9A2 ((resolveP p).offices.length) d9c2, .slice d9A3 ((resolveP p).rules.length) d9c3, .int .i64 ((resolveP p).change.kind), .int .i64 ((resolveP p).change.n), .int .i64 ((resolveP p).change.no), .string ((resolveP p).change.name), .slice d9A8 ((resolveP p).change.l.length) d9c8, .int .i64 ((resolveP p).mode)]), (53, .agg #[.string ((resolveP p).name), .slice d5A1 ((resolveP p).kinds.length) d5c1, .slice d5A2 ((resolveP p).offices.length) d5c2, .slice d5A3 ((resolveP p).rules.length) d5c3, .int .i64 ((resolveP p).change.kind), .int .i64 ((resolveP p).change.n), .int .i64 ((resolveP p).change.no), .string ((resolveP p).change.name), .slice d5A8 ((resolveP p).change.l.length) d5c8, .int .i64 ((resolveP p).mode)]), (52, .bool true), (51, .bool true), (50, .int .i64 0)] (by kernel_rfl) rfl ?_ ⟨_, Le.refl _, H.drew.pick [0, 1, 2, 3, 4] (by decide)⟩ ?_
        · refine ⟨kn_op rfl rfl (wantB_none rfl) fun _ hF2 => ?_, ?_⟩
          · obtain ⟨_, hle2, H2⟩ := hF2
            refine  (ow_move (v := .int .i64 0) rfl ?_)
            exact ⟨rfl, rfl⟩
          refine ⟨kn_op rfl rfl (wantB_none rfl) fun _ hF2 => ?_, ?_⟩
          · obtain ⟨_, hle2, H2⟩ := hF2
            refine  (ow_eql rfl rfl ?_)
            exact ⟨rfl, rfl⟩
          refine ⟨kn_op rfl rfl (wantB_none rfl) fun _ hF2 => ?_, ?_⟩
          · obtain ⟨_, hle2, H2⟩ := hF2
            refine  (ow_move (v := .bool true) rfl ?_)
            exact ⟨rfl, rfl⟩
          refine ⟨kn_op rfl rfl ((wantB_some (j := 2) rfl rfl (d := 52) rfl rfl (u := true) rfl).trans rfl) fun _ hF2 => ?_, ?_⟩
          · obtain ⟨_, hle2, H2⟩ := hF2
            refine  (ow_load (v := .agg #[.string ((resolveP p).name), .slice d5A1 ((resolveP p).kinds.length) d5c1, .slice d5A2 ((resolveP p).offices.length) d5c2, .slice d5A3 ((resolveP p).rules.length) d5c3, .int .i64 ((resolveP p).change.kind), .int .i64 ((resolveP p).change.n), .int .i64 ((resolveP p).change.no), .string ((resolveP p).change.name), .slice d5A8 ((resolveP p).change.l.length) d5c8, .int .i64 ((resolveP p).mode)]) ty28 H2 rfl 2 rfl rfl rfl rfl ?_)
            exact ⟨rfl, rfl⟩
          refine ⟨kn_op rfl rfl ((wantB_some (j := 2) rfl rfl (d := 52) rfl rfl (u := true) rfl).trans rfl) fun _ hF2 => ?_, ?_⟩
          · obtain ⟨_, hle2, H2⟩ := hF2
            refine  (ow_load (v := .agg #[.string ((resolveP p).name), .slice d9A1 ((resolveP p).kinds.length) d9c1, .slice d9A2 ((resolveP p).offices.length) d9c2, .slice d9A3 ((resolveP p).rules.length) d9c3, .int .i64 ((resolveP p).change.kind), .int .i64 ((resolveP p).change.n), .int .i64 ((resolveP p).change.no), .string ((resolveP p).change.name), .slice d9A8 ((resolveP p).change.l.length) d9c8, .int .i64 ((resolveP p).mode)]) ty28 H2 rfl 0 rfl rfl rfl rfl ?_)
            exact ⟨rfl, rfl⟩
          exact trivial
        have H := H.drew
        have d5 := (d5.mono hI9)
        refine cw_op rfl ((wantB_some (j := 2) rfl rfl (d := 52) rfl rfl (u := true) rfl).trans rfl) (ow_call en21 rfl (Same_eq H d5 d9 rfl) ?_)
        rintro _ _ ⟨rfl, H⟩
        refine af_some [(58, .agg #[.string ((resolveP p).name), .slice d5A1 ((resolveP p).kinds.length) d5c1, .slice d5A2 ((resolveP p).offices.length) d5c2, .slice d5A3 ((resolveP p).rules.length) d5c3, .int .i64 ((resolveP p).change.kind), .int .i64 ((resolveP p).change.n), .int .i64 ((resolveP p).change.no), .string ((resolveP p).change.name), .slice d5A8 ((resolveP p).change.l.length) d5c8, .int .i64 ((resolveP p).mode)]), (57, .bool true), (56, .bool true)] (fun w_ => ∃ I2, Le I9 I2 ∧ Hp B I2 w_ [(g10, Ob [.string ((resolveP p).name), .slice d9A1 ((resolveP p).kinds.length) d9c1, .slice d9A2 ((resolveP p).offices.length) d9c2, .slice d9A3 ((resolveP p).rules.length) d9c3, .int .i64 ((resolveP p).change.kind), .int .i64 ((resolveP p).change.n), .int .i64 ((resolveP p).change.no), .string ((resolveP p).change.name), .slice d9A8 ((resolveP p).change.l.length) d9c8, .int .i64 ((resolveP p).mode)] 28), (g8, Ob [.string ((resolveP p).name), .slice d7A1 ((resolveP p).kinds.length) d7c1, .slice d7A2 ((resolveP p).offices.length) d7c2, .slice d7A3 ((resolveP p).rules.length) d7c3, .int .i64 ((resolveP p).change.kind), .int .i64 ((resolveP p).change.n), .int .i64 ((resolveP p).change.no), .string ((resolveP p).change.name), .slice d7A8 ((resolveP p).change.l.length) d7c8, .int .i64 ((resolveP p).mode)] 28), (g6, Ob [.string ((resolveP p).name), .slice d5A1 ((resolveP p).kinds.length) d5c1, .slice d5A2 ((resolveP p).offices.length) d5c2, .slice d5A3 ((resolveP p).rules.length) d5c3, .int .i64 ((resolveP p).change.kind), .int .i64 ((resolveP p).change.n), .int .i64 ((resolveP p).change.no), .string ((resolveP p).change.name), .slice d5A8 ((resolveP p).change.l.length) d5c8, .int .i64 ((resolveP p).mode)] 28), (g4, Ob [.string ((bareP n p).name), .slice d3A1 ((bareP n p).kinds.length) d3c1, .slice d3A2 ((bareP n p).offices.length) d3c2, .slice d3A3 ((bareP n p).rules.length) d3c3, .int .i64 ((bareP n p).change.kind), .int .i64 ((bareP n p).change.n), .int .i64 ((bareP n p).change.no), .string ((bareP n p).change.name), .slice d3A8 ((bareP n p).change.l.length) d3c8, .int .i64 ((bareP n p).mode)] 28), (g1, Ob [.string p.name, .slice d0A1 p.kinds.length d0c1, .slice d0A2 p.offices.length d0c2, .slice d0A3 p.rules.length d0c3, .int .i64 p.change.kind, .int .i64 p.change.n, .int .i64 p.change.no, .string p.change.name, .slice d0A8 p.change.l.length d0c8, .int .i64 p.mode] 28)]) rfl ⟨_, Le.refl _, H.pick [0, 1, 2, 3, 4] (by decide)⟩ ?_ ?_
        · refine ⟨kn_op rfl rfl (wantB_none rfl) fun _ hF2 => ?_, ?_⟩
          · obtain ⟨_, hle2, H2⟩ := hF2
            refine  (ow_pick (v := .bool true) rfl rfl ?_)
            exact ⟨rfl, rfl⟩
          refine ⟨kn_op rfl rfl (wantB_none rfl) fun _ hF2 => ?_, ?_⟩
          · obtain ⟨_, hle2, H2⟩ := hF2
            refine  (ow_move (v := .bool true) rfl ?_)
            exact ⟨rfl, rfl⟩
          refine ⟨kn_op rfl rfl ((wantB_some (j := 7) rfl rfl (d := 57) rfl rfl (u := true) rfl).trans rfl) fun _ hF2 => ?_, ?_⟩
          · obtain ⟨_, hle2, H2⟩ := hF2
            refine  (ow_load (v := .agg #[.string ((resolveP p).name), .slice d5A1 ((resolveP p).kinds.length) d5c1, .slice d5A2 ((resolveP p).offices.length) d5c2, .slice d5A3 ((resolveP p).rules.length) d5c3, .int .i64 ((resolveP p).change.kind), .int .i64 ((resolveP p).change.n), .int .i64 ((resolveP p).change.no), .string ((resolveP p).change.name), .slice d5A8 ((resolveP p).change.l.length) d5c8, .int .i64 ((resolveP p).mode)]) ty28 H2 rfl 2 rfl rfl rfl rfl ?_)
            exact ⟨rfl, rfl⟩
          exact trivial
        have hkd := (hkd.mono hI9)
        refine cw_op rfl ((wantB_some (j := 7) rfl rfl (d := 57) rfl rfl (u := true) rfl).trans rfl) (ow_call en22 rfl (Check_as H d5 hkd (check_resolved hok)) ?_)
        rintro _ _ ⟨rfl, H⟩
        refine af_some [(67, .agg #[.string ((resolveP p).name), .slice d5A1 ((resolveP p).kinds.length) d5c1, .slice d5A2 ((resolveP p).offices.length) d5c2, .slice d5A3 ((resolveP p).rules.length) d5c3, .int .i64 ((resolveP p).change.kind), .int .i64 ((resolveP p).change.n), .int .i64 ((resolveP p).change.no), .string ((resolveP p).change.name), .slice d5A8 ((resolveP p).change.l.length) d5c8, .int .i64 ((resolveP p).mode)]), (66, .agg #[.string ((bareP n p).name), .slice d3A1 ((bareP n p).kinds.length) d3c1, .slice d3A2 ((bareP n p).offices.length) d3c2, .slice d3A3 ((bareP n p).rules.length) d3c3, .int .i64 ((bareP n p).change.kind), .int .i64 ((bareP n p).change.n), .int .i64 ((bareP n p).change.no), .string ((bareP n p).change.name), .slice d3A8 ((bareP n p).change.l.length) d3c8, .int .i64 ((bareP n p).mode)]), (63, .agg #[.string ((bareP n p).name), .slice d3A1 ((bareP n p).kinds.length) d3c1, .slice d3A2 ((bareP n p).offices.length) d3c2, .slice d3A3 ((bareP n p).rules.length) d3c3, .int .i64 ((bareP n p).change.kind), .int .i64 ((bareP n p).change.n), .int .i64 ((bareP n p).change.no), .string ((bareP n p).change.name), .slice d3A8 ((bareP n p).change.l.length) d3c8, .int .i64 ((bareP n p).mode)]), (62, .bool true), (61, .bool true), (60, .bool true)] (fun w_ => ∃ I2, Le I9 I2 ∧ Hp B I2 w_ [(g10, Ob [.string ((resolveP p).name), .slice d9A1 ((resolveP p).kinds.length) d9c1, .slice d9A2 ((resolveP p).offices.length) d9c2, .slice d9A3 ((resolveP p).rules.length) d9c3, .int .i64 ((resolveP p).change.kind), .int .i64 ((resolveP p).change.n), .int .i64 ((resolveP p).change.no), .string ((resolveP p).change.name), .slice d9A8 ((resolveP p).change.l.length) d9c8, .int .i64 ((resolveP p).mode)] 28), (g8, Ob [.string ((resolveP p).name), .slice d7A1 ((resolveP p).kinds.length) d7c1, .slice d7A2 ((resolveP p).offices.length) d7c2, .slice d7A3 ((resolveP p).rules.length) d7c3, .int .i64 ((resolveP p).change.kind), .int .i64 ((resolveP p).change.n), .int .i64 ((resolveP p).change.no), .string ((resolveP p).change.name), .slice d7A8 ((resolveP p).change.l.length) d7c8, .int .i64 ((resolveP p).mode)] 28), (g6, Ob [.string ((resolveP p).name), .slice d5A1 ((resolveP p).kinds.length) d5c1, .slice d5A2 ((resolveP p).offices.length) d5c2, .slice d5A3 ((resolveP p).rules.length) d5c3, .int .i64 ((resolveP p).change.kind), .int .i64 ((resolveP p).change.n), .int .i64 ((resolveP p).change.no), .string ((resolveP p).change.name), .slice d5A8 ((resolveP p).change.l.length) d5c8, .int .i64 ((resolveP p).mode)] 28), (g4, Ob [.string ((bareP n p).name), .slice d3A1 ((bareP n p).kinds.length) d3c1, .slice d3A2 ((bareP n p).offices.length) d3c2, .slice d3A3 ((bareP n p).rules.length) d3c3, .int .i64 ((bareP n p).change.kind), .int .i64 ((bareP n p).change.n), .int .i64 ((bareP n p).change.no), .string ((bareP n p).change.name), .slice d3A8 ((bareP n p).change.l.length) d3c8, .int .i64 ((bareP n p).mode)] 28), (g1, Ob [.string p.name, .slice d0A1 p.kinds.length d0c1, .slice d0A2 p.offices.length d0c2, .slice d0A3 p.rules.length d0c3, .int .i64 p.change.kind, .int .i64 p.change.n, .int .i64 p.change.no, .string p.change.name, .slice d0A8 p.change.l.length d0c8, .int .i64 p.mode] 28)]) rfl ⟨_, Le.refl _, H.pick [0, 1, 2, 3, 4] (by decide)⟩ ?_ ?_
        · refine ⟨kn_op rfl rfl ((wantB_some (j := 7) rfl rfl (d := 57) rfl rfl (u := true) rfl).trans rfl) fun _ hF2 => ?_, ?_⟩
          · obtain ⟨_, hle2, H2⟩ := hF2
            refine  (ow_eql rfl rfl ?_)
            exact ⟨rfl, rfl⟩
          refine ⟨kn_op rfl rfl (wantB_none rfl) fun _ hF2 => ?_, ?_⟩
          · obtain ⟨_, hle2, H2⟩ := hF2
            refine  (ow_pick (v := .bool true) rfl rfl ?_)
            exact ⟨rfl, rfl⟩
          refine ⟨kn_op rfl rfl (wantB_none rfl) fun _ hF2 => ?_, ?_⟩
          · obtain ⟨_, hle2, H2⟩ := hF2
            refine  (ow_move (v := .bool true) rfl ?_)
            exact ⟨rfl, rfl⟩
          refine ⟨kn_op rfl rfl ((wantB_some (j := 12) rfl rfl (d := 62) rfl rfl (u := true) rfl).trans rfl) fun _ hF2 => ?_, ?_⟩
          · obtain ⟨_, hle2, H2⟩ := hF2
            refine  (ow_load (v := .agg #[.string ((bareP n p).name), .slice d3A1 ((bareP n p).kinds.length) d3c1, .slice d3A2 ((bareP n p).offices.length) d3c2, .slice d3A3 ((bareP n p).rules.length) d3c3, .int .i64 ((bareP n p).change.kind), .int .i64 ((bareP n p).change.n), .int .i64 ((bareP n p).change.no), .string ((bareP n p).change.name), .slice d3A8 ((bareP n p).change.l.length) d3c8, .int .i64 ((bareP n p).mode)]) ty28 H2 rfl 3 rfl rfl rfl rfl ?_)
            exact ⟨rfl, rfl⟩
          refine ⟨kn_op rfl rfl ((wantB_some (j := 12) rfl rfl (d := 62) rfl rfl (u := true) rfl).trans rfl) fun _ hF2 => ?_, ?_⟩
          · obtain ⟨_, hle2, H2⟩ := hF2
            refine  (ow_load (v := .agg #[.string ((bareP n p).name), .slice d3A1 ((bareP n p).kinds.length) d3c1, .slice d3A2 ((bareP n p).offices.length) d3c2, .slice d3A3 ((bareP n p).rules.length) d3c3, .int .i64 ((bareP n p).change.kind), .int .i64 ((bareP n p).change.n), .int .i64 ((bareP n p).change.no), .string ((bareP n p).change.name), .slice d3A8 ((bareP n p).change.l.length) d3c8, .int .i64 ((bareP n p).mode)]) ty28 H2 rfl 3 rfl rfl rfl rfl ?_)
            exact ⟨rfl, rfl⟩
          refine ⟨kn_op rfl rfl ((wantB_some (j := 12) rfl rfl (d := 62) rfl rfl (u := true) rfl).trans rfl) fun _ hF2 => ?_, ?_⟩
          · obtain ⟨_, hle2, H2⟩ := hF2
            refine  (ow_load (v := .agg #[.string ((resolveP p).name), .slice d5A1 ((resolveP p).kinds.length) d5c1, .slice d5A2 ((resolveP p).offices.length) d5c2, .slice d5A3 ((resolveP p).rules.length) d5c3, .int .i64 ((resolveP p).change.kind), .int .i64 ((resolveP p).change.n), .int .i64 ((resolveP p).change.no), .string ((resolveP p).change.name), .slice d5A8 ((resolveP p).change.l.length) d5c8, .int .i64 ((resolveP p).mode)]) ty28 H2 rfl 2 rfl rfl rfl rfl ?_)
            exact ⟨rfl, rfl⟩
          exact trivial
        have d3 := ((d3.mono hI7).mono hI9)
        refine cw_op rfl ((wantB_some (j := 12) rfl rfl (d := 62) rfl rfl (u := true) rfl).trans rfl) (ow_call en22 rfl (Check_c H d3 hkd) ?_)
        rintro _ _ ⟨rfl, H⟩
        refine af_some [(65, .bool (decide ((checkE (bareP n p)) = 0)))] (fun w_ => ∃ I2, Le I9 I2 ∧ Hp B I2 w_ [(g10, Ob [.string ((resolveP p).name), .slice d9A1 ((resolveP p).kinds.length) d9c1, .slice d9A2 ((resolveP p).offices.length) d9c2, .slice d9A3 ((resolveP p).rules.length) d9c3, .int .i64 ((resolveP p).change.kind), .int .i64 ((resolveP p).change.n), .int .i64 ((resolveP p).change.no), .string ((resolveP p).change.name), .slice d9A8 ((resolveP p).change.l.length) d9c8, .int .i64 ((resolveP p).mode)] 28), (g8, Ob [.string ((resolveP p).name), .slice d7A1 ((resolveP p).kinds.length) d7c1, .slice d7A2 ((resolveP p).offices.length) d7c2, .slice d7A3 ((resolveP p).rules.length) d7c3, .int .i64 ((resolveP p).change.kind), .int .i64 ((resolveP p).change.n), .int .i64 ((resolveP p).change.no), .string ((resolveP p).change.name), .slice d7A8 ((resolveP p).change.l.length) d7c8, .int .i64 ((resolveP p).mode)] 28), (g6, Ob [.string ((resolveP p).name), .slice d5A1 ((resolveP p).kinds.length) d5c1, .slice d5A2 ((resolveP p).offices.length) d5c2, .slice d5A3 ((resolveP p).rules.length) d5c3, .int .i64 ((resolveP p).change.kind), .int .i64 ((resolveP p).change.n), .int .i64 ((resolveP p).change.no), .string ((resolveP p).change.name), .slice d5A8 ((resolveP p).change.l.length) d5c8, .int .i64 ((resolveP p).mode)] 28), (g4, Ob [.string ((bareP n p).name), .slice d3A1 ((bareP n p).kinds.length) d3c1, .slice d3A2 ((bareP n p).offices.length) d3c2, .slice d3A3 ((bareP n p).rules.length) d3c3, .int .i64 ((bareP n p).change.kind), .int .i64 ((bareP n p).change.n), .int .i64 ((bareP n p).change.no), .string ((bareP n p).change.name), .slice d3A8 ((bareP n p).change.l.length) d3c8, .int .i64 ((bareP n p).mode)] 28), (g1, Ob [.string p.name, .slice d0A1 p.kinds.length d0c1, .slice d0A2 p.offices.length d0c2, .slice d0A3 p.rules.length d0c3, .int .i64 p.change.kind, .int .i64 p.change.n, .int .i64 p.change.no, .string p.change.name, .slice d0A8 p.change.l.length d0c8, .int .i64 p.mode] 28)]) rfl ⟨_, Le.refl _, H.pick [0, 1, 2, 3, 4] (by decide)⟩ ?_ ?_
        · refine ⟨kn_op rfl rfl ((wantB_some (j := 12) rfl rfl (d := 62) rfl rfl (u := true) rfl).trans rfl) fun _ hF2 => ?_, ?_⟩
          · obtain ⟨_, hle2, H2⟩ := hF2
            refine  (ow_load (v := .agg #[.string ((bareP n p).name), .slice d3A1 ((bareP n p).kinds.length) d3c1, .slice d3A2 ((bareP n p).offices.length) d3c2, .slice d3A3 ((bareP n p).rules.length) d3c3, .int .i64 ((bareP n p).change.kind), .int .i64 ((bareP n p).change.n), .int .i64 ((bareP n p).change.no), .string ((bareP n p).change.name), .slice d3A8 ((bareP n p).change.l.length) d3c8, .int .i64 ((bareP n p).mode)]) ty28 H2 rfl 3 rfl rfl rfl rfl ?_)
            exact ⟨rfl, rfl⟩
          refine ⟨kn_op rfl rfl ((wantB_some (j := 12) rfl rfl (d := 62) rfl rfl (u := true) rfl).trans rfl) fun _ hF2 => ?_, ?_⟩
          · obtain ⟨_, hle2, H2⟩ := hF2
            refine  (ow_load (v := .agg #[.string ((resolveP p).name), .slice d5A1 ((resolveP p).kinds.length) d5c1, .slice d5A2 ((resolveP p).offices.length) d5c2, .slice d5A3 ((resolveP p).rules.length) d5c3, .int .i64 ((resolveP p).change.kind), .int .i64 ((resolveP p).change.n), .int .i64 ((resolveP p).change.no), .string ((resolveP p).change.name), .slice d5A8 ((resolveP p).change.l.length) d5c8, .int .i64 ((resolveP p).mode)]) ty28 H2 rfl 2 rfl rfl rfl rfl ?_)
            exact ⟨rfl, rfl⟩
          refine ⟨kn_op rfl rfl ((wantB_some (j := 12) rfl rfl (d := 62) rfl rfl (u := true) rfl).trans rfl) fun _ hF2 => ?_, ?_⟩
          · obtain ⟨_, hle2, H2⟩ := hF2
            refine  (ow_eql rfl rfl ?_)
            exact ⟨rfl, rfl⟩
          exact trivial
        refine cw_op rfl ((wantB_some (j := 12) rfl rfl (d := 62) rfl rfl (u := true) rfl).trans rfl) (ow_call en21 rfl (Same_c H d3 d5) ?_)
        rintro _ _ ⟨rfl, H⟩
        refine af_some [(4, .bool (decide ((decide ((checkE (bareP n p)) = 0)) = (sameP (bareP n p) (resolveP p))))), (70, .bool (decide ((decide ((checkE (bareP n p)) = 0)) = (sameP (bareP n p) (resolveP p))))), (69, .bool (decide ((decide ((checkE (bareP n p)) = 0)) = (sameP (bareP n p) (resolveP p)))))] (fun w_ => ∃ I2, Le I9 I2 ∧ Hp B I2 w_ [(g10, Ob [.string ((resolveP p).name), .slice d9A1 ((resolveP p).kinds.length) d9c1, .slice d9A2 ((resolveP p).offices.length) d9c2, .slice d9A3 ((resolveP p).rules.length) d9c3, .int .i64 ((resolveP p).change.kind), .int .i64 ((resolveP p).change.n), .int .i64 ((resolveP p).change.no), .string ((resolveP p).change.name), .slice d9A8 ((resolveP p).change.l.length) d9c8, .int .i64 ((resolveP p).mode)] 28), (g8, Ob [.string ((resolveP p).name), .slice d7A1 ((resolveP p).kinds.length) d7c1, .slice d7A2 ((resolveP p).offices.length) d7c2, .slice d7A3 ((resolveP p).rules.length) d7c3, .int .i64 ((resolveP p).change.kind), .int .i64 ((resolveP p).change.n), .int .i64 ((resolveP p).change.no), .string ((resolveP p).change.name), .slice d7A8 ((resolveP p).change.l.length) d7c8, .int .i64 ((resolveP p).mode)] 28), (g6, Ob [.string ((resolveP p).name), .slice d5A1 ((resolveP p).kinds.length) d5c1, .slice d5A2 ((resolveP p).offices.length) d5c2, .slice d5A3 ((resolveP p).rules.length) d5c3, .int .i64 ((resolveP p).change.kind), .int .i64 ((resolveP p).change.n), .int .i64 ((resolveP p).change.no), .string ((resolveP p).change.name), .slice d5A8 ((resolveP p).change.l.length) d5c8, .int .i64 ((resolveP p).mode)] 28), (g4, Ob [.string ((bareP n p).name), .slice d3A1 ((bareP n p).kinds.length) d3c1, .slice d3A2 ((bareP n p).offices.length) d3c2, .slice d3A3 ((bareP n p).rules.length) d3c3, .int .i64 ((bareP n p).change.kind), .int .i64 ((bareP n p).change.n), .int .i64 ((bareP n p).change.no), .string ((bareP n p).change.name), .slice d3A8 ((bareP n p).change.l.length) d3c8, .int .i64 ((bareP n p).mode)] 28), (g1, Ob [.string p.name, .slice d0A1 p.kinds.length d0c1, .slice d0A2 p.offices.length d0c2, .slice d0A3 p.rules.length d0c3, .int .i64 p.change.kind, .int .i64 p.change.n, .int .i64 p.change.no, .string p.change.name, .slice d0A8 p.change.l.length d0c8, .int .i64 p.mode] 28)]) rfl ⟨_, Le.refl _, H.pick [0, 1, 2, 3, 4] (by decide)⟩ ?_ ?_
        · refine ⟨kn_op rfl rfl ((wantB_some (j := 12) rfl rfl (d := 62) rfl rfl (u := true) rfl).trans rfl) fun _ hF2 => ?_, ?_⟩
          · obtain ⟨_, hle2, H2⟩ := hF2
            refine  (ow_eql rfl rfl ?_)
            exact ⟨rfl, rfl⟩
          refine ⟨kn_op rfl rfl ((wantB_some (j := 12) rfl rfl (d := 62) rfl rfl (u := true) rfl).trans rfl) fun _ hF2 => ?_, ?_⟩
          · obtain ⟨_, hle2, H2⟩ := hF2
            refine  (ow_beq Tryd.underlying4 rfl rfl ?_)
            exact ⟨rfl, rfl⟩
          refine ⟨kn_op rfl rfl (wantB_none rfl) fun _ hF2 => ?_, ?_⟩
          · obtain ⟨_, hle2, H2⟩ := hF2
            refine  (ow_pick (v := .bool (decide ((decide ((checkE (bareP n p)) = 0)) = (sameP (bareP n p) (resolveP p))))) rfl rfl ?_)
            exact ⟨rfl, rfl⟩
          refine ⟨kn_op rfl rfl (wantB_none rfl) fun _ hF2 => ?_, ?_⟩
          · obtain ⟨_, hle2, H2⟩ := hF2
            refine  (ow_assign (v := .bool (decide ((decide ((checkE (bareP n p)) = 0)) = (sameP (bareP n p) (resolveP p))))) rfl ?_)
            exact ⟨rfl, rfl⟩
          exact trivial
        refine cw_nil ?_
        exact st_live [4] (again _ _ ⟨_, rfl, H⟩)
      rintro _ _ ⟨r11, rfl, H⟩
      refine st_ret hb (hR _ _ (.bool (decide ((decide ((checkE (bareP n p)) = 0)) = (sameP (bareP n p) (resolveP p))))) (res_run (vs := [.bool (decide ((decide ((checkE (bareP n p)) = 0)) = (sameP (bareP n p) (resolveP p))))]) Tryd.results6 ⟨_, _, rfl, rfl, rfl⟩) ?_)
      exact ⟨_, rfl, congrArg Value.bool (decide_eq_true (check_other n hok)), (Hp.back (H.drop 5) (((hI3.trans hI5).trans hI7).trans hI9))⟩
  · have d0 := hp
    obtain ⟨d0v1, d0v2, d0v3, d0v8, rfl, d0_0, d0_1, d0_2, d0_3, d0_4, d0_5, d0_6, d0_7, d0_8, d0_9⟩ := po_iff.1 hp
    obtain ⟨d0A1, d0c1, rfl, d0m1, d0M1, d0_1⟩ := RepS.open_ d0_1
    obtain ⟨d0A2, d0c2, rfl, d0m2, d0M2, d0_2⟩ := RepS.open_ d0_2
    obtain ⟨d0A3, d0c3, rfl, d0m3, d0M3, d0_3⟩ := RepS.open_ d0_3
    obtain ⟨d0A8, d0c8, rfl, d0m8, d0M8, d0_8⟩ := RepS.open_ d0_8
    refine calls_st (n := 71) Tryd.func6 rfl rfl rfl ?_
    intro G bF cs hb hfn hR hP
    simp only [ini]
    refine st_seq ?_
    refine st_region ?_
    refine sr_op rfl rfl (ow_box H (v := .agg #[.string p.name, .slice d0A1 p.kinds.length d0c1, .slice d0A2 p.offices.length d0c2, .slice d0A3 p.rules.length d0c3, .int .i64 p.change.kind, .int .i64 p.change.n, .int .i64 p.change.no, .string p.change.name, .slice d0A8 p.change.l.length d0c8, .int .i64 p.mode]) rfl [.string p.name, .slice d0A1 p.kinds.length d0c1, .slice d0A2 p.offices.length d0c2, .slice d0A3 p.rules.length d0c3, .int .i64 p.change.kind, .int .i64 p.change.n, .int .i64 p.change.no, .string p.change.name, .slice d0A8 p.change.l.length d0c8, .int .i64 p.mode] rfl (fun g1 _ H => ?_))
    refine sr_op rfl rfl (ow_assign (v := .bool false) rfl ?_)
    refine sr_nil ?_
    refine st_seq ?_
    refine st_seq ?_
    refine st_region ?_
    refine sr_op rfl rfl (ow_call en17 rfl (sane_c H hkd) ?_)
    rintro _ _ ⟨rfl, H⟩
    refine sr_op rfl rfl (ow_not rfl ?_)
    refine sr_nil ?_
    refine st_no rfl ?_
    refine st_skip ?_
    refine st_seq ?_
    refine st_seq ?_
    refine st_region ?_
    refine sr_op rfl rfl (ow_load (v := .agg #[.string p.name, .slice d0A1 p.kinds.length d0c1, .slice d0A2 p.offices.length d0c2, .slice d0A3 p.rules.length d0c3, .int .i64 p.change.kind, .int .i64 p.change.n, .int .i64 p.change.no, .string p.change.name, .slice d0A8 p.change.l.length d0c8, .int .i64 p.mode]) ty28 H rfl 0 rfl rfl rfl rfl ?_)
    refine sr_op rfl rfl (ow_call en18 rfl (Few_c H d0) ?_)
    rintro _ _ ⟨rfl, H⟩
    refine sr_op rfl rfl (ow_not rfl ?_)
    refine sr_nil ?_
    refine st_cond (!(fewB p)) rfl (fun hc2 => ?_) (fun hc2 => ?_)
    · refine st_seq ?_
      refine st_region ?_
      refine sr_op rfl rfl (ow_assign (v := .bool true) rfl ?_)
      refine sr_nil ?_
      refine st_ret hb (hR _ _ (.bool true) (res_run (vs := [.bool true]) Tryd.results6 ⟨_, _, rfl, rfl, rfl⟩) ?_)
      exact ⟨_, rfl, rfl, (H.drop 1)⟩
    · have hfw := bnf hc2
      refine st_skip ?_
      refine st_seq ?_
      refine st_region ?_
      refine sr_op rfl rfl (ow_load (v := .agg #[.string p.name, .slice d0A1 p.kinds.length d0c1, .slice d0A2 p.offices.length d0c2, .slice d0A3 p.rules.length d0c3, .int .i64 p.change.kind, .int .i64 p.change.n, .int .i64 p.change.no, .string p.change.name, .slice d0A8 p.change.l.length d0c8, .int .i64 p.mode]) ty28 H rfl 0 rfl rfl rfl rfl ?_)
      refine sr_op rfl rfl (ow_move (v := .int .i64 n) rfl ?_)
      refine sr_op rfl rfl (ow_call en30 rfl (bare_c H d0 hfw n hn) ?_)
      rintro _ _ ⟨I3, us3, hI3, H, rfl, hr3⟩
      have d3 := hr3
      obtain ⟨d3v1, d3v2, d3v3, d3v8, rfl, d3_0, d3_1, d3_2, d3_3, d3_4, d3_5, d3_6, d3_7, d3_8, d3_9⟩ := po_iff.1 hr3
      obtain ⟨d3A1, d3c1, rfl, d3m1, d3M1, d3_1⟩ := RepS.open_ d3_1
      obtain ⟨d3A2, d3c2, rfl, d3m2, d3M2, d3_2⟩ := RepS.open_ d3_2
      obtain ⟨d3A3, d3c3, rfl, d3m3, d3M3, d3_3⟩ := RepS.open_ d3_3
      obtain ⟨d3A8, d3c8, rfl, d3m8, d3M8, d3_8⟩ := RepS.open_ d3_8
      refine sr_op rfl rfl (ow_alloc ty28 H [.string ⟨#[]⟩, .slice none 0 0, .slice none 0 0, .slice none 0 0, .int .i64 0, .int .i64 0, .int .i64 0, .string ⟨#[]⟩, .slice none 0 0, .int .i64 0] rfl (fun g4 _ H => ?_))
      refine sr_op rfl rfl (ow_store ty28 H rfl (v := .agg #[.string ((bareP n p).name), .slice d3A1 ((bareP n p).kinds.length) d3c1, .slice d3A2 ((bareP n p).offices.length) d3c2, .slice d3A3 ((bareP n p).rules.length) d3c3, .int .i64 ((bareP n p).change.kind), .int .i64 ((bareP n p).change.n), .int .i64 ((bareP n p).change.no), .string ((bareP n p).change.name), .slice d3A8 ((bareP n p).change.l.length) d3c8, .int .i64 ((bareP n p).mode)]) rfl [.string ((bareP n p).name), .slice d3A1 ((bareP n p).kinds.length) d3c1, .slice d3A2 ((bareP n p).offices.length) d3c2, .slice d3A3 ((bareP n p).rules.length) d3c3, .int .i64 ((bareP n p).change.kind), .int .i64 ((bareP n p).change.n), .int .i64 ((bareP n p).change.no), .string ((bareP n p).change.name), .slice d3A8 ((bareP n p).change.l.length) d3c8, .int .i64 ((bareP n p).mode)] rfl rfl rfl 0 rfl rfl (fun _ H => ?_))
      refine sr_nil ?_
      refine st_seq ?_
      refine st_region ?_
      refine sr_op rfl rfl (ow_load (v := .agg #[.string p.name, .slice d0A1 p.kinds.length d0c1, .slice d0A2 p.offices.length d0c2, .slice d0A3 p.rules.length d0c3, .int .i64 p.change.kind, .int .i64 p.change.n, .int .i64 p.change.no, .string p.change.name, .slice d0A8 p.change.l.length d0c8, .int .i64 p.mode]) ty28 H rfl 1 rfl rfl rfl rfl ?_)
      have d0 := (d0.mono hI3)
      have hkd := (hkd.mono hI3)
      refine sr_op rfl rfl (ow_call en19 rfl (Resolve_bad H d0 hkd hok rfl) ?_)
      rintro _ _ ⟨I5, us5, hI5, H, rfl, hr5⟩
      have d5 := hr5
      obtain ⟨d5v1, d5v2, d5v3, d5v8, rfl, d5_0, d5_1, d5_2, d5_3, d5_4, d5_5, d5_6, d5_7, d5_8, d5_9⟩ := po_iff.1 hr5
      obtain ⟨d5A1, d5c1, rfl, d5m1, d5M1, d5_1⟩ := RepS.open_ d5_1
      obtain ⟨d5A2, d5c2, rfl, d5m2, d5M2, d5_2⟩ := RepS.open_ d5_2
      obtain ⟨d5A3, d5c3, rfl, d5m3, d5M3, d5_3⟩ := RepS.open_ d5_3
      obtain ⟨d5A8, d5c8, rfl, d5m8, d5M8, d5_8⟩ := RepS.open_ d5_8
      refine sr_op rfl rfl (ow_move (v := .tuple #[.agg #[.string zeroPo.name, .slice d5A1 zeroPo.kinds.length d5c1, .slice d5A2 zeroPo.offices.length d5c2, .slice d5A3 zeroPo.rules.length d5c3, .int .i64 zeroPo.change.kind, .int .i64 zeroPo.change.n, .int .i64 zeroPo.change.no, .string zeroPo.change.name, .slice d5A8 zeroPo.change.l.length d5c8, .int .i64 zeroPo.mode], .int .i64 (errOf p)]) rfl ?_)
      refine sr_op rfl rfl (ow_extract (v := .agg #[.string zeroPo.name, .slice d5A1 zeroPo.kinds.length d5c1, .slice d5A2 zeroPo.offices.length d5c2, .slice d5A3 zeroPo.rules.length d5c3, .int .i64 zeroPo.change.kind, .int .i64 zeroPo.change.n, .int .i64 zeroPo.change.no, .string zeroPo.change.name, .slice d5A8 zeroPo.change.l.length d5c8, .int .i64 zeroPo.mode]) rfl rfl ?_)
      refine sr_op rfl rfl (ow_extract (v := .int .i64 (errOf p)) rfl rfl ?_)
      refine sr_op rfl rfl (ow_alloc ty28 H [.string ⟨#[]⟩, .slice none 0 0, .slice none 0 0, .slice none 0 0, .int .i64 0, .int .i64 0, .int .i64 0, .string ⟨#[]⟩, .slice none 0 0, .int .i64 0] rfl (fun g6 _ H => ?_))
      refine sr_op rfl rfl (ow_store ty28 H rfl (v := .agg #[.string zeroPo.name, .slice d5A1 zeroPo.kinds.length d5c1, .slice d5A2 zeroPo.offices.length d5c2, .slice d5A3 zeroPo.rules.length d5c3, .int .i64 zeroPo.change.kind, .int .i64 zeroPo.change.n, .int .i64 zeroPo.change.no, .string zeroPo.change.name, .slice d5A8 zeroPo.change.l.length d5c8, .int .i64 zeroPo.mode]) rfl [.string zeroPo.name, .slice d5A1 zeroPo.kinds.length d5c1, .slice d5A2 zeroPo.offices.length d5c2, .slice d5A3 zeroPo.rules.length d5c3, .int .i64 zeroPo.change.kind, .int .i64 zeroPo.change.n, .int .i64 zeroPo.change.no, .string zeroPo.change.name, .slice d5A8 zeroPo.change.l.length d5c8, .int .i64 zeroPo.mode] rfl rfl rfl 0 rfl rfl (fun _ H => ?_))
      refine sr_op rfl rfl (ow_assign (v := .int .i64 (errOf p)) rfl ?_)
      refine sr_nil ?_
      refine st_seq ?_
      refine st_region ?_
      refine sr_op rfl rfl (ow_load (v := .agg #[.string ((bareP n p).name), .slice d3A1 ((bareP n p).kinds.length) d3c1, .slice d3A2 ((bareP n p).offices.length) d3c2, .slice d3A3 ((bareP n p).rules.length) d3c3, .int .i64 ((bareP n p).change.kind), .int .i64 ((bareP n p).change.n), .int .i64 ((bareP n p).change.no), .string ((bareP n p).change.name), .slice d3A8 ((bareP n p).change.l.length) d3c8, .int .i64 ((bareP n p).mode)]) ty28 H rfl 1 rfl rfl rfl rfl ?_)
      have d3 := (d3.mono hI5)
      have hkd := (hkd.mono hI5)
      refine sr_op rfl rfl (ow_call en19 rfl (Resolve_bad H d3 hkd (by rw [bare_err]; exact hok) (bare_err n p)) ?_)
      rintro _ _ ⟨I7, us7, hI7, H, rfl, hr7⟩
      have d7 := hr7
      obtain ⟨d7v1, d7v2, d7v3, d7v8, rfl, d7_0, d7_1, d7_2, d7_3, d7_4, d7_5, d7_6, d7_7, d7_8, d7_9⟩ := po_iff.1 hr7
      obtain ⟨d7A1, d7c1, rfl, d7m1, d7M1, d7_1⟩ := RepS.open_ d7_1
      obtain ⟨d7A2, d7c2, rfl, d7m2, d7M2, d7_2⟩ := RepS.open_ d7_2
      obtain ⟨d7A3, d7c3, rfl, d7m3, d7M3, d7_3⟩ := RepS.open_ d7_3
      obtain ⟨d7A8, d7c8, rfl, d7m8, d7M8, d7_8⟩ := RepS.open_ d7_8
      refine sr_op rfl rfl (ow_move (v := .tuple #[.agg #[.string zeroPo.name, .slice d7A1 zeroPo.kinds.length d7c1, .slice d7A2 zeroPo.offices.length d7c2, .slice d7A3 zeroPo.rules.length d7c3, .int .i64 zeroPo.change.kind, .int .i64 zeroPo.change.n, .int .i64 zeroPo.change.no, .string zeroPo.change.name, .slice d7A8 zeroPo.change.l.length d7c8, .int .i64 zeroPo.mode], .int .i64 (errOf p)]) rfl ?_)
      refine sr_op rfl rfl (ow_extract (v := .agg #[.string zeroPo.name, .slice d7A1 zeroPo.kinds.length d7c1, .slice d7A2 zeroPo.offices.length d7c2, .slice d7A3 zeroPo.rules.length d7c3, .int .i64 zeroPo.change.kind, .int .i64 zeroPo.change.n, .int .i64 zeroPo.change.no, .string zeroPo.change.name, .slice d7A8 zeroPo.change.l.length d7c8, .int .i64 zeroPo.mode]) rfl rfl ?_)
      refine sr_op rfl rfl (ow_extract (v := .int .i64 (errOf p)) rfl rfl ?_)
      refine sr_op rfl rfl (ow_alloc ty28 H [.string ⟨#[]⟩, .slice none 0 0, .slice none 0 0, .slice none 0 0, .int .i64 0, .int .i64 0, .int .i64 0, .string ⟨#[]⟩, .slice none 0 0, .int .i64 0] rfl (fun g8 _ H => ?_))
      refine sr_op rfl rfl (ow_store ty28 H rfl (v := .agg #[.string zeroPo.name, .slice d7A1 zeroPo.kinds.length d7c1, .slice d7A2 zeroPo.offices.length d7c2, .slice d7A3 zeroPo.rules.length d7c3, .int .i64 zeroPo.change.kind, .int .i64 zeroPo.change.n, .int .i64 zeroPo.change.no, .string zeroPo.change.name, .slice d7A8 zeroPo.change.l.length d7c8, .int .i64 zeroPo.mode]) rfl [.string zeroPo.name, .slice d7A1 zeroPo.kinds.length d7c1, .slice d7A2 zeroPo.offices.length d7c2, .slice d7A3 zeroPo.rules.length d7c3, .int .i64 zeroPo.change.kind, .int .i64 zeroPo.change.n, .int .i64 zeroPo.change.no, .string zeroPo.change.name, .slice d7A8 zeroPo.change.l.length d7c8, .int .i64 zeroPo.mode] rfl rfl rfl 0 rfl rfl (fun _ H => ?_))
      refine sr_op rfl rfl (ow_assign (v := .int .i64 (errOf p)) rfl ?_)
      refine sr_nil ?_
      refine st_seq ?_
      refine st_seq ?_
      refine st_region ?_
      refine sr_op rfl rfl (ow_move (v := .int .i64 (errOf p)) rfl ?_)
      refine sr_op rfl rfl (ow_move (v := .int .i64 (errOf p)) rfl ?_)
      refine sr_op rfl rfl (ow_neq rfl rfl ?_)
      refine sr_op rfl rfl (ow_move (v := .bool (!decide (errOf p = (errOf p)))) rfl ?_)
      refine sr_want rfl (j := 3) (d := 33) rfl rfl rfl (v := false) (congrArg Value.bool (by rw [(decide_eq_true rfl)] <;> rfl)) rfl (ow_load (v := .agg #[.string zeroPo.name, .slice d5A1 zeroPo.kinds.length d5c1, .slice d5A2 zeroPo.offices.length d5c2, .slice d5A3 zeroPo.rules.length d5c3, .int .i64 zeroPo.change.kind, .int .i64 zeroPo.change.n, .int .i64 zeroPo.change.no, .string zeroPo.change.name, .slice d5A8 zeroPo.change.l.length d5c8, .int .i64 zeroPo.mode]) ty28 H rfl 1 rfl rfl rfl rfl ?_)
      refine sr_want rfl (j := 3) (d := 33) rfl rfl rfl (v := false) (congrArg Value.bool (by rw [(decide_eq_true rfl)] <;> rfl)) rfl (ow_load (v := .agg #[.string zeroPo.name, .slice d7A1 zeroPo.kinds.length d7c1, .slice d7A2 zeroPo.offices.length d7c2, .slice d7A3 zeroPo.rules.length d7c3, .int .i64 zeroPo.change.kind, .int .i64 zeroPo.change.n, .int .i64 zeroPo.change.no, .string zeroPo.change.name, .slice d7A8 zeroPo.change.l.length d7c8, .int .i64 zeroPo.mode]) ty28 H rfl 0 rfl rfl rfl rfl ?_)
      have d5 := (d5.mono hI7)
      refine sr_want rfl (j := 3) (d := 33) rfl rfl rfl (v := false) (congrArg Value.bool (by rw [(decide_eq_true rfl)] <;> rfl)) rfl (ow_call en21 rfl (Same_eq H d5 d7 rfl) ?_)
      rintro _ _ ⟨rfl, H⟩
      refine sr_want rfl (j := 3) (d := 33) rfl rfl rfl (v := false) (congrArg Value.bool (by rw [(decide_eq_true rfl)] <;> rfl)) rfl (ow_not rfl ?_)
      refine sr_op rfl rfl (ow_pick (a := false) (v := .bool !true) (congrArg Value.bool (by rw [(decide_eq_true rfl)] <;> rfl)) rfl ?_)
      refine sr_nil ?_
      refine st_no rfl ?_
      refine st_skip ?_
      refine st_seq ?_
      refine st_seq ?_
      refine st_region ?_
      refine sr_op rfl rfl (ow_move (v := .int .i64 (errOf p)) rfl ?_)
      refine sr_op rfl rfl (ow_neq rfl rfl ?_)
      refine sr_nil ?_
      refine st_yes (congrArg Value.bool (by rw [(decide_eq_false hok)] <;> rfl)) ?_
      refine st_seq ?_
      refine st_region ?_
      refine sr_op rfl rfl (ow_load (v := .agg #[.string p.name, .slice d0A1 p.kinds.length d0c1, .slice d0A2 p.offices.length d0c2, .slice d0A3 p.rules.length d0c3, .int .i64 p.change.kind, .int .i64 p.change.n, .int .i64 p.change.no, .string p.change.name, .slice d0A8 p.change.l.length d0c8, .int .i64 p.mode]) ty28 H rfl 3 rfl rfl rfl rfl ?_)
      have d0 := ((d0.mono hI5).mono hI7)
      have hkd := (hkd.mono hI7)
      refine sr_op rfl rfl (ow_call en22 rfl (Check_as H d0 hkd (check_err hok)) ?_)
      rintro _ _ ⟨rfl, H⟩
      refine sr_op rfl rfl (ow_move (v := .int .i64 (errOf p)) rfl ?_)
      refine sr_op rfl rfl (ow_eql rfl rfl ?_)
      refine sr_op rfl rfl (ow_assign (v := .bool (decide (errOf p = (errOf p)))) rfl ?_)
      refine sr_nil ?_
      refine st_ret hb (hR _ _ (.bool (decide (errOf p = (errOf p)))) (res_run (vs := [.bool (decide (errOf p = (errOf p)))]) Tryd.results6 ⟨_, _, rfl, rfl, rfl⟩) ?_)
      exact ⟨_, rfl, congrArg Value.bool (decide_eq_true rfl), (Hp.back (H.drop 4) ((hI3.trans hI5).trans hI7))⟩
end Go.Proofs.YtbbflenaeihmeaaDoor
