/-
  The statement SyntaxBack of the law package of syntax, as the given card has it, is proved: for every input that the row lets in, the law returns true and each argument reads behind the call as it read before; the listed variables (tables and errors of the library) begin as the program's text lays them. No further condition.
-/
import Derived.Test.YtghmjnbpkobooaaGreatDoorMH
import Derived.Test.YtghmjnbpkobooaaGreatDoorZ2
import Derived.Test.YtghmjnbpkobooaaGreatDoorMR
set_option linter.unusedVariables false
set_option linter.unusedSimpArgs false
set_option maxRecDepth 10000
set_option maxHeartbeats 4000000
namespace Go.Proofs.YtghmjnbpkobooaaGreatDoor
open Go Go.RowKit

theorem Print_n {B I L w} (H : Hp B I w L) {p : Po} {us : List Value} (hp : RepL I (encPo p) us) (hT : (policyP p).length ≤ 100000) (hlib : LibAt I) : Calls Tryz.prog 16 #[.agg us.toArray] w (Rt fun r w' => ∃ s k, printE p = (s, k) ∧ r = .tuple #[.string s, .int .i64 k] ∧ Hp B I w' L) := by
  refine Calls.mono (Print_c H hp hT hlib) fun e w' he => ?_
  obtain ⟨_, rfl, rfl, H'⟩ := he
  exact ⟨_, rfl, _, _, rfl, rfl, H'⟩
theorem SyntaxBack_c {B I L w} (H : Hp B I w L) (src : ByteArray) (hS : src.size ≤ 140737488355328) {p : Po} {us : List Value} (hp : RepL I (encPo p) us) (hlib : LibAt I) : Calls Tryz.prog 5 #[.string src, .agg us.toArray] w (Rt fun r w' => r = .bool true ∧ Hp B I w' L) := by
  have d0 := hp
  obtain ⟨d0v1, d0v2, d0v3, d0v8, rfl, d0_0, d0_1, d0_2, d0_3, d0_4, d0_5, d0_6, d0_7, d0_8, d0_9⟩ := po_iff.1 hp
  obtain ⟨d0A1, d0c1, rfl, d0m1, d0M1, d0_1⟩ := RepS.open_ d0_1
  obtain ⟨d0A2, d0c2, rfl, d0m2, d0M2, d0_2⟩ := RepS.open_ d0_2
  obtain ⟨d0A3, d0c3, rfl, d0m3, d0M3, d0_3⟩ := RepS.open_ d0_3
  obtain ⟨d0A8, d0c8, rfl, d0m8, d0M8, d0_8⟩ := RepS.open_ d0_8
  refine calls_st (n := 89) Tryz.func5 rfl rfl rfl ?_
  intro G bF cs hb hfn hR hP
  simp only [ini]
  refine st_seq ?_
  refine st_region ?_
  refine sr_op rfl rfl (ow_box H (v := .agg #[.string p.name, .slice d0A1 p.kinds.length d0c1, .slice d0A2 p.offices.length d0c2, .slice d0A3 p.rules.length d0c3, .int .i64 p.change.kind, .int .i64 p.change.n, .int .i64 p.change.no, .string p.change.name, .slice d0A8 p.change.l.length d0c8, .int .i64 p.mode]) rfl [.string p.name, .slice d0A1 p.kinds.length d0c1, .slice d0A2 p.offices.length d0c2, .slice d0A3 p.rules.length d0c3, .int .i64 p.change.kind, .int .i64 p.change.n, .int .i64 p.change.no, .string p.change.name, .slice d0A8 p.change.l.length d0c8, .int .i64 p.mode] rfl (fun g1 _ H => ?_))
  refine sr_op rfl rfl (ow_assign (v := .bool false) rfl ?_)
  refine sr_nil ?_
  refine st_seq ?_
  refine st_seq ?_
  refine st_region ?_
  refine sr_op rfl rfl (ow_call en31 rfl (sane19_c H hlib) ?_)
  rintro _ _ ⟨rfl, H⟩
  refine sr_op rfl rfl (ow_not rfl ?_)
  refine sr_nil ?_
  refine st_no rfl ?_
  refine st_skip ?_
  refine st_seq ?_
  refine st_seq ?_
  refine st_region ?_
  refine sr_op rfl rfl (ow_move (v := .string src) rfl ?_)
  refine sr_op rfl rfl (ow_lenT un9 rfl rfl ?_)
  refine sr_op rfl rfl (ow_leq rfl rfl ?_)
  refine sr_nil ?_
  refine st_cond (decide ((src.size : Int) ≤ 2000)) rfl (fun hc2 => ?_) (fun hc2 => ?_)
  · have hc2 := of_decide_eq_true hc2
    refine st_seq ?_
    refine st_region ?_
    refine sr_op rfl rfl (ow_move (v := .string src) rfl ?_)
    refine sr_op rfl rfl (ow_call en18 rfl (Parse_c H src (by unfold S63; omega) hlib) ?_)
    rintro _ _ ⟨I1, us1, x1, a1, k1, hI1, H, rfl, hk1, hx1⟩
    have d1 := hx1
    obtain ⟨d1v1, d1v2, d1v3, d1v8, rfl, d1_0, d1_1, d1_2, d1_3, d1_4, d1_5, d1_6, d1_7, d1_8, d1_9⟩ := po_iff.1 hx1
    obtain ⟨d1A1, d1c1, rfl, d1m1, d1M1, d1_1⟩ := RepS.open_ d1_1
    obtain ⟨d1A2, d1c2, rfl, d1m2, d1M2, d1_2⟩ := RepS.open_ d1_2
    obtain ⟨d1A3, d1c3, rfl, d1m3, d1M3, d1_3⟩ := RepS.open_ d1_3
    obtain ⟨d1A8, d1c8, rfl, d1m8, d1M8, d1_8⟩ := RepS.open_ d1_8
    obtain ⟨hT1, hb1⟩ := parsed_small hk1
    refine sr_op rfl rfl (ow_move (v := .tuple #[.agg #[.string x1.name, .slice d1A1 x1.kinds.length d1c1, .slice d1A2 x1.offices.length d1c2, .slice d1A3 x1.rules.length d1c3, .int .i64 x1.change.kind, .int .i64 x1.change.n, .int .i64 x1.change.no, .string x1.change.name, .slice d1A8 x1.change.l.length d1c8, .int .i64 x1.mode], .int .i64 a1, .int .i64 k1]) rfl ?_)
    refine sr_op rfl rfl (ow_extract (v := .agg #[.string x1.name, .slice d1A1 x1.kinds.length d1c1, .slice d1A2 x1.offices.length d1c2, .slice d1A3 x1.rules.length d1c3, .int .i64 x1.change.kind, .int .i64 x1.change.n, .int .i64 x1.change.no, .string x1.change.name, .slice d1A8 x1.change.l.length d1c8, .int .i64 x1.mode]) rfl rfl ?_)
    refine sr_op rfl rfl (ow_extract (v := .int .i64 a1) rfl rfl ?_)
    refine sr_op rfl rfl (ow_extract (v := .int .i64 k1) rfl rfl ?_)
    refine sr_op rfl rfl (ow_alloc ty28 H [.string ⟨#[]⟩, .slice none 0 0, .slice none 0 0, .slice none 0 0, .int .i64 0, .int .i64 0, .int .i64 0, .string ⟨#[]⟩, .slice none 0 0, .int .i64 0] rfl (fun g3 _ H => ?_))
    refine sr_op rfl rfl (ow_store ty28 H rfl (v := .agg #[.string x1.name, .slice d1A1 x1.kinds.length d1c1, .slice d1A2 x1.offices.length d1c2, .slice d1A3 x1.rules.length d1c3, .int .i64 x1.change.kind, .int .i64 x1.change.n, .int .i64 x1.change.no, .string x1.change.name, .slice d1A8 x1.change.l.length d1c8, .int .i64 x1.mode]) rfl [.string x1.name, .slice d1A1 x1.kinds.length d1c1, .slice d1A2 x1.offices.length d1c2, .slice d1A3 x1.rules.length d1c3, .int .i64 x1.change.kind, .int .i64 x1.change.n, .int .i64 x1.change.no, .string x1.change.name, .slice d1A8 x1.change.l.length d1c8, .int .i64 x1.mode] rfl rfl rfl 0 rfl rfl (fun _ H => ?_))
    refine sr_op rfl rfl (ow_assign (v := .int .i64 a1) rfl ?_)
    refine sr_op rfl rfl (ow_assign (v := .int .i64 k1) rfl ?_)
    refine sr_nil ?_
    refine st_seq ?_
    refine st_region ?_
    refine sr_op rfl rfl (ow_load (v := .agg #[.string x1.name, .slice d1A1 x1.kinds.length d1c1, .slice d1A2 x1.offices.length d1c2, .slice d1A3 x1.rules.length d1c3, .int .i64 x1.change.kind, .int .i64 x1.change.n, .int .i64 x1.change.no, .string x1.change.name, .slice d1A8 x1.change.l.length d1c8, .int .i64 x1.mode]) ty28 H rfl 0 rfl rfl rfl rfl ?_)
    have hlib := (hlib.mono hI1)
    refine sr_op rfl rfl (ow_call en16 rfl (Print_n H d1 hT1 hlib) ?_)
    rintro _ _ ⟨s2, k2, hpr2, rfl, H⟩
    refine sr_op rfl rfl (ow_move (v := .tuple #[.string s2, .int .i64 k2]) rfl ?_)
    refine sr_op rfl rfl (ow_extract (v := .string s2) rfl rfl ?_)
    refine sr_op rfl rfl (ow_extract (v := .int .i64 k2) rfl rfl ?_)
    refine sr_op rfl rfl (ow_assign (v := .string s2) rfl ?_)
    refine sr_op rfl rfl (ow_assign (v := .int .i64 k2) rfl ?_)
    refine sr_nil ?_
    refine st_seq ?_
    refine st_region ?_
    refine sr_op rfl rfl (ow_move (v := .int .i64 k1) rfl ?_)
    refine sr_op rfl rfl (ow_eql rfl rfl ?_)
    refine sr_op rfl rfl (ow_move (v := .bool (decide (k1 = 0))) rfl ?_)
    refine sr_cut 3 (fun m_ w_ => ∃ (r_ : Sl) (v_ : Bool), m_ = (38, .bool v_) :: (3, .pointer (some ⟨g1, 0, none⟩)) :: (4, .bool false) :: r_ ∧ Hp B I1 w_ ((g3, Ob [.string x1.name, .slice d1A1 x1.kinds.length d1c1, .slice d1A2 x1.offices.length d1c2, .slice d1A3 x1.rules.length d1c3, .int .i64 x1.change.kind, .int .i64 x1.change.n, .int .i64 x1.change.no, .string x1.change.name, .slice d1A8 x1.change.l.length d1c8, .int .i64 x1.mode] 28) :: (g1, Ob [.string p.name, .slice d0A1 p.kinds.length d0c1, .slice d0A2 p.offices.length d0c2, .slice d0A3 p.rules.length d0c3, .int .i64 p.change.kind, .int .i64 p.change.n, .int .i64 p.change.no, .string p.change.name, .slice d0A8 p.change.l.length d0c8, .int .i64 p.mode] 28) :: L) ∧ v_ = ((decide (k1 = 0)) && (!decide (k2 = 0)))) (fun again => ?_) ?_
    · rcases hg : decide (k1 = 0) with _ | _
      · refine sr_pass rfl (j := 2) (d := 35) rfl rfl rfl (u := false) (v := true) rfl rfl ?_
        refine sr_pass rfl (j := 2) (d := 35) rfl rfl rfl (u := false) (v := true) rfl rfl ?_
        refine sr_op rfl rfl (ow_pick (v := .bool false) rfl rfl ?_)
        exact sr_live [38, 3, 4] (again _ _ ⟨_, _, rfl, H, by rw [hg] <;> rfl⟩)
      · refine sr_want rfl (j := 2) (d := 35) rfl rfl rfl (v := true) rfl rfl (ow_move (v := .int .i64 k2) rfl ?_)
        refine sr_want rfl (j := 2) (d := 35) rfl rfl rfl (v := true) rfl rfl (ow_neq rfl rfl ?_)
        refine sr_op rfl rfl (ow_pick (v := .bool (!decide (k2 = 0))) rfl rfl ?_)
        exact sr_live [38, 3, 4] (again _ _ ⟨_, _, rfl, H, by rw [hg] <;> rfl⟩)
    rintro _ _ ⟨r, _, rfl, H, rfl⟩
    refine sr_nil ?_
    refine st_cond ((decide (k1 = 0)) && (!decide (k2 = 0))) rfl (fun hc4 => ?_) (fun hc4 => ?_)
    · simp only [Bool.and_eq_true] at hc4
      exact absurd (by have h_ := hb1 (of_decide_eq_true hc4.1); rw [hpr2] at h_; exact h_) (of_decide_eq_false (bnt hc4.2))
    · refine st_skip ?_
      refine st_seq ?_
      refine st_seq ?_
      refine st_region ?_
      refine sr_op rfl rfl (ow_load (v := .agg #[.string p.name, .slice d0A1 p.kinds.length d0c1, .slice d0A2 p.offices.length d0c2, .slice d0A3 p.rules.length d0c3, .int .i64 p.change.kind, .int .i64 p.change.n, .int .i64 p.change.no, .string p.change.name, .slice d0A8 p.change.l.length d0c8, .int .i64 p.mode]) ty28 H rfl 1 rfl rfl rfl rfl ?_)
      have d0 := (d0.mono hI1)
      refine sr_op rfl rfl (ow_call en32 rfl (rFew_c H d0) ?_)
      rintro _ _ ⟨rfl, H⟩
      refine sr_op rfl rfl (ow_not rfl ?_)
      refine sr_nil ?_
      refine st_cond (!(rfewB p)) rfl (fun hc5 => ?_) (fun hc5 => ?_)
      · skip
        refine st_seq ?_
        refine st_region ?_
        refine sr_op rfl rfl (ow_assign (v := .bool true) rfl ?_)
        refine sr_nil ?_
        refine st_ret hb (hR _ _ (.bool true) (res_run (vs := [.bool true]) Tryz.results5 ⟨_, _, rfl, rfl, rfl⟩) ?_)
        exact ⟨_, rfl, rfl, (Hp.back (H.drop 2) hI1)⟩
      · have hfew := few_toks (rfew_ok (bnf hc5))
        have hTp : (policyP p).length ≤ 100000 := by omega
        refine st_skip ?_
        refine st_seq ?_
        refine st_region ?_
        refine sr_op rfl rfl (ow_load (v := .agg #[.string p.name, .slice d0A1 p.kinds.length d0c1, .slice d0A2 p.offices.length d0c2, .slice d0A3 p.rules.length d0c3, .int .i64 p.change.kind, .int .i64 p.change.n, .int .i64 p.change.no, .string p.change.name, .slice d0A8 p.change.l.length d0c8, .int .i64 p.mode]) ty28 H rfl 1 rfl rfl rfl rfl ?_)
        refine sr_op rfl rfl (ow_call en16 rfl (Print_n H d0 hTp hlib) ?_)
        rintro _ _ ⟨s3, k3, hpr3, rfl, H⟩
        refine sr_op rfl rfl (ow_move (v := .tuple #[.string s3, .int .i64 k3]) rfl ?_)
        refine sr_op rfl rfl (ow_extract (v := .string s3) rfl rfl ?_)
        refine sr_op rfl rfl (ow_extract (v := .int .i64 k3) rfl rfl ?_)
        refine sr_op rfl rfl (ow_assign (v := .string s3) rfl ?_)
        refine sr_op rfl rfl (ow_assign (v := .int .i64 k3) rfl ?_)
        refine sr_nil ?_
        refine st_seq ?_
        refine st_seq ?_
        refine st_region ?_
        refine sr_op rfl rfl (ow_move (v := .int .i64 k3) rfl ?_)
        refine sr_op rfl rfl (ow_neq rfl rfl ?_)
        refine sr_nil ?_
        refine st_cond (!decide (k3 = 0)) rfl (fun hc6 => ?_) (fun hc6 => ?_)
        · obtain ⟨rfl, rfl⟩ := print_bad hpr3 (of_decide_eq_false (bnt hc6))
          refine st_seq ?_
          refine st_region ?_
          refine sr_op rfl rfl (ow_move (v := .int .i64 190) rfl ?_)
          refine sr_op rfl rfl (ow_eql rfl rfl ?_)
          refine sr_op rfl rfl (ow_move (v := .bool true) rfl ?_)
          refine sr_want rfl (j := 2) (d := 51) rfl rfl rfl (v := true) rfl rfl (ow_move (v := .string ⟨#[]⟩) rfl ?_)
          refine sr_want rfl (j := 2) (d := 51) rfl rfl rfl (v := true) rfl rfl (ow_seq rfl rfl ?_)
          refine sr_op rfl rfl (ow_pick (v := .bool true) rfl rfl ?_)
          refine sr_op rfl rfl (ow_assign (v := .bool true) rfl ?_)
          refine sr_nil ?_
          refine st_ret hb (hR _ _ (.bool true) (res_run (vs := [.bool true]) Tryz.results5 ⟨_, _, rfl, rfl, rfl⟩) ?_)
          exact ⟨_, rfl, rfl, (Hp.back (H.drop 2) hI1)⟩
        · have hk3 := of_decide_eq_true (bnf hc6)
          refine st_skip ?_
          refine st_seq ?_
          refine st_seq ?_
          refine st_region ?_
          refine sr_op rfl rfl (ow_move (v := .string s3) rfl ?_)
          refine sr_op rfl rfl (ow_lenT un9 rfl rfl ?_)
          refine sr_op rfl rfl (ow_gtr rfl rfl ?_)
          refine sr_nil ?_
          refine st_cond (decide (65536 < (s3.size : Int))) rfl (fun hc7 => ?_) (fun hc7 => ?_)
          · skip
            refine st_seq ?_
            refine st_region ?_
            refine sr_op rfl rfl (ow_assign (v := .bool true) rfl ?_)
            refine sr_nil ?_
            refine st_ret hb (hR _ _ (.bool true) (res_run (vs := [.bool true]) Tryz.results5 ⟨_, _, rfl, rfl, rfl⟩) ?_)
            exact ⟨_, rfl, rfl, (Hp.back (H.drop 2) hI1)⟩
          · have hz3 := of_decide_eq_false hc7
            refine st_skip ?_
            refine st_seq ?_
            refine st_region ?_
            refine sr_op rfl rfl (ow_move (v := .string s3) rfl ?_)
            refine sr_op rfl rfl (ow_call en18 rfl (Parse_as H (src := s3) (by unfold S63; omega) hlib (back_good (by omega) hpr3 hk3 hz3)) ?_)
            rintro _ _ ⟨I4, us4, hI4, H, rfl, hx4⟩
            have d4 := hx4
            obtain ⟨d4v1, d4v2, d4v3, d4v8, rfl, d4_0, d4_1, d4_2, d4_3, d4_4, d4_5, d4_6, d4_7, d4_8, d4_9⟩ := po_iff.1 hx4
            obtain ⟨d4A1, d4c1, rfl, d4m1, d4M1, d4_1⟩ := RepS.open_ d4_1
            obtain ⟨d4A2, d4c2, rfl, d4m2, d4M2, d4_2⟩ := RepS.open_ d4_2
            obtain ⟨d4A3, d4c3, rfl, d4m3, d4M3, d4_3⟩ := RepS.open_ d4_3
            obtain ⟨d4A8, d4c8, rfl, d4m8, d4M8, d4_8⟩ := RepS.open_ d4_8
            refine sr_op rfl rfl (ow_move (v := .tuple #[.agg #[.string p.name, .slice d4A1 p.kinds.length d4c1, .slice d4A2 p.offices.length d4c2, .slice d4A3 p.rules.length d4c3, .int .i64 p.change.kind, .int .i64 p.change.n, .int .i64 p.change.no, .string p.change.name, .slice d4A8 p.change.l.length d4c8, .int .i64 p.mode], .int .i64 0, .int .i64 0]) rfl ?_)
            refine sr_op rfl rfl (ow_extract (v := .agg #[.string p.name, .slice d4A1 p.kinds.length d4c1, .slice d4A2 p.offices.length d4c2, .slice d4A3 p.rules.length d4c3, .int .i64 p.change.kind, .int .i64 p.change.n, .int .i64 p.change.no, .string p.change.name, .slice d4A8 p.change.l.length d4c8, .int .i64 p.mode]) rfl rfl ?_)
            refine sr_op rfl rfl (ow_extract (v := .int .i64 0) rfl rfl ?_)
            refine sr_op rfl rfl (ow_extract (v := .int .i64 0) rfl rfl ?_)
            refine sr_op rfl rfl (ow_alloc ty28 H [.string ⟨#[]⟩, .slice none 0 0, .slice none 0 0, .slice none 0 0, .int .i64 0, .int .i64 0, .int .i64 0, .string ⟨#[]⟩, .slice none 0 0, .int .i64 0] rfl (fun g8 _ H => ?_))
            refine sr_op rfl rfl (ow_store ty28 H rfl (v := .agg #[.string p.name, .slice d4A1 p.kinds.length d4c1, .slice d4A2 p.offices.length d4c2, .slice d4A3 p.rules.length d4c3, .int .i64 p.change.kind, .int .i64 p.change.n, .int .i64 p.change.no, .string p.change.name, .slice d4A8 p.change.l.length d4c8, .int .i64 p.mode]) rfl [.string p.name, .slice d4A1 p.kinds.length d4c1, .slice d4A2 p.offices.length d4c2, .slice d4A3 p.rules.length d4c3, .int .i64 p.change.kind, .int .i64 p.change.n, .int .i64 p.change.no, .string p.change.name, .slice d4A8 p.change.l.length d4c8, .int .i64 p.mode] rfl rfl rfl 0 rfl rfl (fun _ H => ?_))
            refine sr_op rfl rfl (ow_assign (v := .int .i64 0) rfl ?_)
            refine sr_op rfl rfl (ow_assign (v := .int .i64 0) rfl ?_)
            refine sr_nil ?_
            refine st_seq ?_
            refine st_region ?_
            refine sr_op rfl rfl (ow_load (v := .agg #[.string p.name, .slice d4A1 p.kinds.length d4c1, .slice d4A2 p.offices.length d4c2, .slice d4A3 p.rules.length d4c3, .int .i64 p.change.kind, .int .i64 p.change.n, .int .i64 p.change.no, .string p.change.name, .slice d4A8 p.change.l.length d4c8, .int .i64 p.mode]) ty28 H rfl 0 rfl rfl rfl rfl ?_)
            have hlib := (hlib.mono hI4)
            refine sr_op rfl rfl (ow_call en16 rfl (Print_as H d4 hTp hlib hpr3) ?_)
            rintro _ _ ⟨rfl, H⟩
            refine sr_op rfl rfl (ow_move (v := .tuple #[.string s3, .int .i64 k3]) rfl ?_)
            refine sr_op rfl rfl (ow_extract (v := .string s3) rfl rfl ?_)
            refine sr_op rfl rfl (ow_extract (v := .int .i64 k3) rfl rfl ?_)
            refine sr_op rfl rfl (ow_assign (v := .string s3) rfl ?_)
            refine sr_op rfl rfl (ow_assign (v := .int .i64 k3) rfl ?_)
            refine sr_nil ?_
            refine st_seq ?_
            refine st_region ?_
            refine sr_op rfl rfl (ow_move (v := .int .i64 0) rfl ?_)
            refine sr_op rfl rfl (ow_eql rfl rfl ?_)
            refine sr_op rfl rfl (ow_move (v := .bool true) rfl ?_)
            refine sr_want rfl (j := 2) (d := 71) rfl rfl rfl (v := true) rfl rfl (ow_move (v := .int .i64 0) rfl ?_)
            refine sr_want rfl (j := 2) (d := 71) rfl rfl rfl (v := true) rfl rfl (ow_eql rfl rfl ?_)
            refine sr_op rfl rfl (ow_pick (v := .bool true) rfl rfl ?_)
            refine sr_op rfl rfl (ow_move (v := .bool true) rfl ?_)
            refine sr_want rfl (j := 6) (d := 75) rfl rfl rfl (v := true) rfl rfl (ow_load (v := .agg #[.string p.name, .slice d4A1 p.kinds.length d4c1, .slice d4A2 p.offices.length d4c2, .slice d4A3 p.rules.length d4c3, .int .i64 p.change.kind, .int .i64 p.change.n, .int .i64 p.change.no, .string p.change.name, .slice d4A8 p.change.l.length d4c8, .int .i64 p.mode]) ty28 H rfl 0 rfl rfl rfl rfl ?_)
            refine sr_want rfl (j := 6) (d := 75) rfl rfl rfl (v := true) rfl rfl (ow_load (v := .agg #[.string p.name, .slice d0A1 p.kinds.length d0c1, .slice d0A2 p.offices.length d0c2, .slice d0A3 p.rules.length d0c3, .int .i64 p.change.kind, .int .i64 p.change.n, .int .i64 p.change.no, .string p.change.name, .slice d0A8 p.change.l.length d0c8, .int .i64 p.mode]) ty28 H rfl 2 rfl rfl rfl rfl ?_)
            have d0 := (d0.mono hI4)
            refine sr_want rfl (j := 6) (d := 75) rfl rfl rfl (v := true) rfl rfl (ow_call en34 rfl (rSame_as H d4 d0 (b := true) ((sameP_iff _ _).2 rfl)) ?_)
            rintro _ _ ⟨rfl, H⟩
            refine sr_op rfl rfl (ow_pick (v := .bool true) rfl rfl ?_)
            refine sr_op rfl rfl (ow_move (v := .bool true) rfl ?_)
            refine sr_want rfl (j := 11) (d := 80) rfl rfl rfl (v := true) rfl rfl (ow_move (v := .int .i64 k3) rfl ?_)
            refine sr_want rfl (j := 11) (d := 80) rfl rfl rfl (v := true) rfl rfl (ow_eql rfl rfl ?_)
            refine sr_op rfl rfl (ow_pick (v := .bool (decide (k3 = 0))) rfl rfl ?_)
            refine sr_op rfl rfl (ow_move (v := .bool (decide (k3 = 0))) rfl ?_)
            refine sr_want rfl (j := 15) (d := 84) rfl rfl rfl (v := true) (congrArg Value.bool (decide_eq_true hk3)) rfl (ow_move (v := .string s3) rfl ?_)
            refine sr_want rfl (j := 15) (d := 84) rfl rfl rfl (v := true) (congrArg Value.bool (decide_eq_true hk3)) rfl (ow_move (v := .string s3) rfl ?_)
            refine sr_want rfl (j := 15) (d := 84) rfl rfl rfl (v := true) (congrArg Value.bool (decide_eq_true hk3)) rfl (ow_seq rfl rfl ?_)
            refine sr_op rfl rfl (ow_pick (a := true) (v := .bool (decide (s3 = s3))) (congrArg Value.bool (decide_eq_true hk3)) rfl ?_)
            refine sr_op rfl rfl (ow_assign (v := .bool (decide (s3 = s3))) rfl ?_)
            refine sr_nil ?_
            refine st_ret hb (hR _ _ (.bool (decide (s3 = s3))) (res_run (vs := [.bool (decide (s3 = s3))]) Tryz.results5 ⟨_, _, rfl, rfl, rfl⟩) ?_)
            exact ⟨_, rfl, congrArg Value.bool (decide_eq_true rfl), (Hp.back (H.drop 3) (hI1.trans hI4))⟩
  · have hc2 := of_decide_eq_false hc2
    refine st_skip ?_
    refine st_seq ?_
    refine st_seq ?_
    refine st_region ?_
    refine sr_op rfl rfl (ow_load (v := .agg #[.string p.name, .slice d0A1 p.kinds.length d0c1, .slice d0A2 p.offices.length d0c2, .slice d0A3 p.rules.length d0c3, .int .i64 p.change.kind, .int .i64 p.change.n, .int .i64 p.change.no, .string p.change.name, .slice d0A8 p.change.l.length d0c8, .int .i64 p.mode]) ty28 H rfl 0 rfl rfl rfl rfl ?_)
    refine sr_op rfl rfl (ow_call en32 rfl (rFew_c H d0) ?_)
    rintro _ _ ⟨rfl, H⟩
    refine sr_op rfl rfl (ow_not rfl ?_)
    refine sr_nil ?_
    refine st_cond (!(rfewB p)) rfl (fun hc9 => ?_) (fun hc9 => ?_)
    · skip
      refine st_seq ?_
      refine st_region ?_
      refine sr_op rfl rfl (ow_assign (v := .bool true) rfl ?_)
      refine sr_nil ?_
      refine st_ret hb (hR _ _ (.bool true) (res_run (vs := [.bool true]) Tryz.results5 ⟨_, _, rfl, rfl, rfl⟩) ?_)
      exact ⟨_, rfl, rfl, (H.drop 1)⟩
    · have hfew := few_toks (rfew_ok (bnf hc9))
      have hTp : (policyP p).length ≤ 100000 := by omega
      refine st_skip ?_
      refine st_seq ?_
      refine st_region ?_
      refine sr_op rfl rfl (ow_load (v := .agg #[.string p.name, .slice d0A1 p.kinds.length d0c1, .slice d0A2 p.offices.length d0c2, .slice d0A3 p.rules.length d0c3, .int .i64 p.change.kind, .int .i64 p.change.n, .int .i64 p.change.no, .string p.change.name, .slice d0A8 p.change.l.length d0c8, .int .i64 p.mode]) ty28 H rfl 0 rfl rfl rfl rfl ?_)
      refine sr_op rfl rfl (ow_call en16 rfl (Print_n H d0 hTp hlib) ?_)
      rintro _ _ ⟨s3, k3, hpr3, rfl, H⟩
      refine sr_op rfl rfl (ow_move (v := .tuple #[.string s3, .int .i64 k3]) rfl ?_)
      refine sr_op rfl rfl (ow_extract (v := .string s3) rfl rfl ?_)
      refine sr_op rfl rfl (ow_extract (v := .int .i64 k3) rfl rfl ?_)
      refine sr_op rfl rfl (ow_assign (v := .string s3) rfl ?_)
      refine sr_op rfl rfl (ow_assign (v := .int .i64 k3) rfl ?_)
      refine sr_nil ?_
      refine st_seq ?_
      refine st_seq ?_
      refine st_region ?_
      refine sr_op rfl rfl (ow_move (v := .int .i64 k3) rfl ?_)
      refine sr_op rfl rfl (ow_neq rfl rfl ?_)
      refine sr_nil ?_
      refine st_cond (!decide (k3 = 0)) rfl (fun hc10 => ?_) (fun hc10 => ?_)
      · obtain ⟨rfl, rfl⟩ := print_bad hpr3 (of_decide_eq_false (bnt hc10))
        refine st_seq ?_
        refine st_region ?_
        refine sr_op rfl rfl (ow_move (v := .int .i64 190) rfl ?_)
        refine sr_op rfl rfl (ow_eql rfl rfl ?_)
        refine sr_op rfl rfl (ow_move (v := .bool true) rfl ?_)
        refine sr_want rfl (j := 2) (d := 51) rfl rfl rfl (v := true) rfl rfl (ow_move (v := .string ⟨#[]⟩) rfl ?_)
        refine sr_want rfl (j := 2) (d := 51) rfl rfl rfl (v := true) rfl rfl (ow_seq rfl rfl ?_)
        refine sr_op rfl rfl (ow_pick (v := .bool true) rfl rfl ?_)
        refine sr_op rfl rfl (ow_assign (v := .bool true) rfl ?_)
        refine sr_nil ?_
        refine st_ret hb (hR _ _ (.bool true) (res_run (vs := [.bool true]) Tryz.results5 ⟨_, _, rfl, rfl, rfl⟩) ?_)
        exact ⟨_, rfl, rfl, (H.drop 1)⟩
      · have hk3 := of_decide_eq_true (bnf hc10)
        refine st_skip ?_
        refine st_seq ?_
        refine st_seq ?_
        refine st_region ?_
        refine sr_op rfl rfl (ow_move (v := .string s3) rfl ?_)
        refine sr_op rfl rfl (ow_lenT un9 rfl rfl ?_)
        refine sr_op rfl rfl (ow_gtr rfl rfl ?_)
        refine sr_nil ?_
        refine st_cond (decide (65536 < (s3.size : Int))) rfl (fun hc11 => ?_) (fun hc11 => ?_)
        · skip
          refine st_seq ?_
          refine st_region ?_
          refine sr_op rfl rfl (ow_assign (v := .bool true) rfl ?_)
          refine sr_nil ?_
          refine st_ret hb (hR _ _ (.bool true) (res_run (vs := [.bool true]) Tryz.results5 ⟨_, _, rfl, rfl, rfl⟩) ?_)
          exact ⟨_, rfl, rfl, (H.drop 1)⟩
        · have hz3 := of_decide_eq_false hc11
          refine st_skip ?_
          refine st_seq ?_
          refine st_region ?_
          refine sr_op rfl rfl (ow_move (v := .string s3) rfl ?_)
          refine sr_op rfl rfl (ow_call en18 rfl (Parse_as H (src := s3) (by unfold S63; omega) hlib (back_good (by omega) hpr3 hk3 hz3)) ?_)
          rintro _ _ ⟨I4, us4, hI4, H, rfl, hx4⟩
          have d4 := hx4
          obtain ⟨d4v1, d4v2, d4v3, d4v8, rfl, d4_0, d4_1, d4_2, d4_3, d4_4, d4_5, d4_6, d4_7, d4_8, d4_9⟩ := po_iff.1 hx4
          obtain ⟨d4A1, d4c1, rfl, d4m1, d4M1, d4_1⟩ := RepS.open_ d4_1
          obtain ⟨d4A2, d4c2, rfl, d4m2, d4M2, d4_2⟩ := RepS.open_ d4_2
          obtain ⟨d4A3, d4c3, rfl, d4m3, d4M3, d4_3⟩ := RepS.open_ d4_3
          obtain ⟨d4A8, d4c8, rfl, d4m8, d4M8, d4_8⟩ := RepS.open_ d4_8
          refine sr_op rfl rfl (ow_move (v := .tuple #[.agg #[.string p.name, .slice d4A1 p.kinds.length d4c1, .slice d4A2 p.offices.length d4c2, .slice d4A3 p.rules.length d4c3, .int .i64 p.change.kind, .int .i64 p.change.n, .int .i64 p.change.no, .string p.change.name, .slice d4A8 p.change.l.length d4c8, .int .i64 p.mode], .int .i64 0, .int .i64 0]) rfl ?_)
          refine sr_op rfl rfl (ow_extract (v := .agg #[.string p.name, .slice d4A1 p.kinds.length d4c1, .slice d4A2 p.offices.length d4c2, .slice d4A3 p.rules.length d4c3, .int .i64 p.change.kind, .int .i64 p.change.n, .int .i64 p.change.no, .string p.change.name, .slice d4A8 p.change.l.length d4c8, .int .i64 p.mode]) rfl rfl ?_)
          refine sr_op rfl rfl (ow_extract (v := .int .i64 0) rfl rfl ?_)
          refine sr_op rfl rfl (ow_extract (v := .int .i64 0) rfl rfl ?_)
          refine sr_op rfl rfl (ow_alloc ty28 H [.string ⟨#[]⟩, .slice none 0 0, .slice none 0 0, .slice none 0 0, .int .i64 0, .int .i64 0, .int .i64 0, .string ⟨#[]⟩, .slice none 0 0, .int .i64 0] rfl (fun g12 _ H => ?_))
          refine sr_op rfl rfl (ow_store ty28 H rfl (v := .agg #[.string p.name, .slice d4A1 p.kinds.length d4c1, .slice d4A2 p.offices.length d4c2, .slice d4A3 p.rules.length d4c3, .int .i64 p.change.kind, .int .i64 p.change.n, .int .i64 p.change.no, .string p.change.name, .slice d4A8 p.change.l.length d4c8, .int .i64 p.mode]) rfl [.string p.name, .slice d4A1 p.kinds.length d4c1, .slice d4A2 p.offices.length d4c2, .slice d4A3 p.rules.length d4c3, .int .i64 p.change.kind, .int .i64 p.change.n, .int .i64 p.change.no, .string p.change.name, .slice d4A8 p.change.l.length d4c8, .int .i64 p.mode] rfl rfl rfl 0 rfl rfl (fun _ H => ?_))
          refine sr_op rfl rfl (ow_assign (v := .int .i64 0) rfl ?_)
          refine sr_op rfl rfl (ow_assign (v := .int .i64 0) rfl ?_)
          refine sr_nil ?_
          refine st_seq ?_
          refine st_region ?_
          refine sr_op rfl rfl (ow_load (v := .agg #[.string p.name, .slice d4A1 p.kinds.length d4c1, .slice d4A2 p.offices.length d4c2, .slice d4A3 p.rules.length d4c3, .int .i64 p.change.kind, .int .i64 p.change.n, .int .i64 p.change.no, .string p.change.name, .slice d4A8 p.change.l.length d4c8, .int .i64 p.mode]) ty28 H rfl 0 rfl rfl rfl rfl ?_)
          have hlib := (hlib.mono hI4)
          refine sr_op rfl rfl (ow_call en16 rfl (Print_as H d4 hTp hlib hpr3) ?_)
          rintro _ _ ⟨rfl, H⟩
          refine sr_op rfl rfl (ow_move (v := .tuple #[.string s3, .int .i64 k3]) rfl ?_)
          refine sr_op rfl rfl (ow_extract (v := .string s3) rfl rfl ?_)
          refine sr_op rfl rfl (ow_extract (v := .int .i64 k3) rfl rfl ?_)
          refine sr_op rfl rfl (ow_assign (v := .string s3) rfl ?_)
          refine sr_op rfl rfl (ow_assign (v := .int .i64 k3) rfl ?_)
          refine sr_nil ?_
          refine st_seq ?_
          refine st_region ?_
          refine sr_op rfl rfl (ow_move (v := .int .i64 0) rfl ?_)
          refine sr_op rfl rfl (ow_eql rfl rfl ?_)
          refine sr_op rfl rfl (ow_move (v := .bool true) rfl ?_)
          refine sr_want rfl (j := 2) (d := 71) rfl rfl rfl (v := true) rfl rfl (ow_move (v := .int .i64 0) rfl ?_)
          refine sr_want rfl (j := 2) (d := 71) rfl rfl rfl (v := true) rfl rfl (ow_eql rfl rfl ?_)
          refine sr_op rfl rfl (ow_pick (v := .bool true) rfl rfl ?_)
          refine sr_op rfl rfl (ow_move (v := .bool true) rfl ?_)
          refine sr_want rfl (j := 6) (d := 75) rfl rfl rfl (v := true) rfl rfl (ow_load (v := .agg #[.string p.name, .slice d4A1 p.kinds.length d4c1, .slice d4A2 p.offices.length d4c2, .slice d4A3 p.rules.length d4c3, .int .i64 p.change.kind, .int .i64 p.change.n, .int .i64 p.change.no, .string p.change.name, .slice d4A8 p.change.l.length d4c8, .int .i64 p.mode]) ty28 H rfl 0 rfl rfl rfl rfl ?_)
          refine sr_want rfl (j := 6) (d := 75) rfl rfl rfl (v := true) rfl rfl (ow_load (v := .agg #[.string p.name, .slice d0A1 p.kinds.length d0c1, .slice d0A2 p.offices.length d0c2, .slice d0A3 p.rules.length d0c3, .int .i64 p.change.kind, .int .i64 p.change.n, .int .i64 p.change.no, .string p.change.name, .slice d0A8 p.change.l.length d0c8, .int .i64 p.mode]) ty28 H rfl 1 rfl rfl rfl rfl ?_)
          have d0 := (d0.mono hI4)
          refine sr_want rfl (j := 6) (d := 75) rfl rfl rfl (v := true) rfl rfl (ow_call en34 rfl (rSame_as H d4 d0 (b := true) ((sameP_iff _ _).2 rfl)) ?_)
          rintro _ _ ⟨rfl, H⟩
          refine sr_op rfl rfl (ow_pick (v := .bool true) rfl rfl ?_)
          refine sr_op rfl rfl (ow_move (v := .bool true) rfl ?_)
          refine sr_want rfl (j := 11) (d := 80) rfl rfl rfl (v := true) rfl rfl (ow_move (v := .int .i64 k3) rfl ?_)
          refine sr_want rfl (j := 11) (d := 80) rfl rfl rfl (v := true) rfl rfl (ow_eql rfl rfl ?_)
          refine sr_op rfl rfl (ow_pick (v := .bool (decide (k3 = 0))) rfl rfl ?_)
          refine sr_op rfl rfl (ow_move (v := .bool (decide (k3 = 0))) rfl ?_)
          refine sr_want rfl (j := 15) (d := 84) rfl rfl rfl (v := true) (congrArg Value.bool (decide_eq_true hk3)) rfl (ow_move (v := .string s3) rfl ?_)
          refine sr_want rfl (j := 15) (d := 84) rfl rfl rfl (v := true) (congrArg Value.bool (decide_eq_true hk3)) rfl (ow_move (v := .string s3) rfl ?_)
          refine sr_want rfl (j := 15) (d := 84) rfl rfl rfl (v := true) (congrArg Value.bool (decide_eq_true hk3)) rfl (ow_seq rfl rfl ?_)
          refine sr_op rfl rfl (ow_pick (a := true) (v := .bool (decide (s3 = s3))) (congrArg Value.bool (decide_eq_true hk3)) rfl ?_)
          refine sr_op rfl rfl (ow_assign (v := .bool (decide (s3 = s3))) rfl ?_)
          refine sr_nil ?_
          refine st_ret hb (hR _ _ (.bool (decide (s3 = s3))) (res_run (vs := [.bool (decide (s3 = s3))]) Tryz.results5 ⟨_, _, rfl, rfl, rfl⟩) ?_)
          exact ⟨_, rfl, congrArg Value.bool (decide_eq_true rfl), (Hp.back (H.drop 2) hI4)⟩
end Go.Proofs.YtghmjnbpkobooaaGreatDoor

set_option linter.unusedVariables false
set_option linter.unusedSimpArgs false
set_option maxRecDepth 10000
set_option maxHeartbeats 4000000
namespace Go.Proofs.YtghmjnbpkobooaaGreatDoor
open Go Go.RowKit

open Go.ChangeShapes Go.WideShapes Go.ChangeAt
open Go.ChangeMaps (open_string shut_string)
set_option maxRecDepth 100000 in
theorem syntaxBack_lifted (os : Os) (started : os.Started) (H : Type) (enc : TypeId × Value → H) :
    ReturnsInHanded {} Tryz.checked os 5 .any (fun w args => (Rows.syntaxBackSpec.pre enc Tryz.prog Tryz.f5 [] false w args ∧ laidMetH Tryz.prog laidL w) ∧ sizedMet enc Tryz.prog Tryz.f5 (OpenSpec.ofChange Rows.syntaxBackSpec) false w args)
      (Rows.syntaxBackSpec.post enc Tryz.prog Tryz.f5 false true false false) := by
  refine returnsInHanded_of_change_and (C := Tryz.checked) (X := fun w _ => laidMetH Tryz.prog laidL w) (fun _ _ _ hh h => h.of_heap hh) own_ started (by kernel_rfl) Tryz.func5
    (ChangeSpec.witness_shaped (enc := enc) (C := Tryz.checked) (os := os) (X := fun w _ => laidMetH Tryz.prog laidL w) false (World.doorLaid Tryz.prog 67 os) #[.string ⟨#[]⟩, .agg #[.string ⟨#[]⟩, .slice none 0 0, .slice none 0 0, .slice none 0 0, .int .i64 0, .int .i64 0, .int .i64 0, .string ⟨#[]⟩, .slice none 0 0, .int .i64 0]] 8 rfl (World.shaped_of_RefB (by kernel_rfl) (by kernel_rfl)) (by kernel_rfl) (by kernel_rfl) (by kernel_rfl) (laidL_met os _)) ?_
  intro W base args ds gs before hval0 hW _ hsz0 hL _
  have hsz : (DataW.weightsEach Tryz.prog (Tryz.f5.params.toList ++ Rows.syntaxBackSpec.plain.varTypes Tryz.prog) (ds ++ gs)).all (· ≤ reachBytes) = true := hsz0
  have hval : ∀ (j : Nat) t v, Tryz.f5.params[j]? = some t → args[j]? = some v → Value.okWide Tryz.prog W .any base t v := hval0
  have hW' := hW
  obtain ⟨p, q, hA0, hV, rfl, hfz, hnd⟩ := hW
  have hA : DataW.TrodAll enc Tryz.prog W 0 (fun _ => true) true Tryz.f5.params.toList args.toList ds p := hA0
  rw [Tryz.params5] at hA hval hsz
  obtain ⟨v0, vs0, d0, ds0, p0, q0, hargs, rfl, rfl, h0, r0⟩ := trodAll_cons hA
  obtain ⟨v1, vs1, d1, ds1, p1, q1, rfl, rfl, rfl, h1, r1⟩ := trodAll_cons r0
  obtain ⟨rfl, rfl, rfl⟩ := trodAll_nil r1
  obtain rfl : args = #[v0, v1] := by cases args; simp_all
  obtain ⟨rfl, rfl⟩ := trodVars_none hV
  obtain ⟨src, rfl, rfl, rfl, y0⟩ := open_string Tryz.underlying9 (hval 0 9 v0 rfl rfl) h0
  have w0 : src.size ≤ 140737488351232 := by
    have z := sized_string hsz (j := 0) (t := 9) rfl rfl
    rw [Array.length_toList] at z
    exact z
  have k1 := h1
  have lt1 : ∀ x ∈ p1, x.block < W.heap.size := by obtain ⟨m, hm⟩ := k1; exact DataW.trod_lt m _ _ _ hm
  obtain ⟨fu1, hf1⟩ := h1
  obtain ⟨us1, rfl⟩ : ∃ us : List Value, v1 = .agg us.toArray := by obtain ⟨c_, hc_, _⟩ := okWide_agg_ Tryz.underlying28 (hval 1 28 v1 rfl rfl); exact ⟨c_.toList, by simpa using hc_⟩
  obtain ⟨p, hr1⟩ := rd_Po _ _ _ hf1
  have hlib := lib_at hL
  refine Calls.mono (SyntaxBack_c (hp_start W) src (by omega) hr1 hlib) fun e W' he => ?_
  obtain ⟨_, rfl, rfl, hb_⟩ := he
  obtain ⟨W2, bel, hal⟩ := below_of hb_
  exact ⟨_, rfl, ChangeSpec.post_alike ⟨_, _, _, [], _, [], hW', trodAll_mk1 (shut_bool Tryz.underlying4 _), (trodAll_cons_mk (shut_string Tryz.underlying9 y0) (trodAll_cons_mk (Below.trod laidOut_ (by kernel_rfl) (of_decide_eq_true (by kernel_rfl)) k1 bel lt1) trodAll_mk0)), rfl, bel.frame _, fun h => by cases h⟩ hal⟩
theorem syntaxBack_r1 : Tryz.pinned.checked.prog.funcNamed Rows.syntaxBackRow.func = some 5 := by kernel_rfl
theorem syntaxBack_r2 : joinedFacts Tryz.pinned.checked.prog 5 Tryz.f5 Rows.syntaxBackSpec Rows.syntaxBackRow = true := by kernel_rfl
theorem syntaxBack_r3 : Tryz.f5.isInstance Tryz.pinned.checked.prog Rows.syntaxBackRow.origin Rows.syntaxBackRow.targs := of_decide_eq_true (by kernel_rfl)
theorem syntaxBack_r4 : Tryz.f5.isWrapper Tryz.pinned.checked.prog Rows.syntaxBackRow.wrapper Rows.syntaxBackRow.mainSum := by unfold Func.isWrapper; first | (rw [if_pos (by decide +kernel)]; kernel_rfl) | (rw [if_neg (by decide +kernel)]; exact ⟨rfl, rfl⟩)
theorem syntaxBack_row : Rows.SyntaxBackSaid :=
  OpenClaim.holds_of_wide 5 Tryz.f5 rfl rfl rfl rfl rfl rfl rfl ⟨rfl, rfl, rfl, rfl, rfl⟩ rfl rfl rfl rfl rfl syntaxBack_r1 Tryz.func5 syntaxBack_r2 syntaxBack_r3 syntaxBack_r4
    (fun os started H enc _ => syntaxBack_lifted os started H enc)
theorem syntaxBack_h1 : Rows.syntaxBackRow.wfByText (OpenSpec.ofChange Rows.syntaxBackSpec) = true := by kernel_rfl
theorem syntaxBack_h2 : Tryz.pinned.checked.prog.mainIs = some (((true, "6dfbc9ab955ebfe709820a3f39b9f3e8b45f2ec5d23a756b48fd12bbbea2d69f") : Bool × String).1, ((true, "6dfbc9ab955ebfe709820a3f39b9f3e8b45f2ec5d23a756b48fd12bbbea2d69f") : Bool × String).2.toList) := by kernel_rfl
theorem syntaxBack_h3 : true = Tryz.pinned.checked.prog.looks [] := by kernel_rfl
theorem syntaxBack_h4 : ([9, 28].all fun u => !Tryz.prog.wantsStandIn u) = true := by kernel_rfl
theorem syntaxBack_h5 : false = Rows.syntaxBackRow.goesBy Tryz.pinned.checked.prog := by kernel_rfl
theorem syntaxBack_holds : Rows.SyntaxBackCardSaid :=
  Claim7.holds_tied_plain_at .later [] [.data, .data, .data, .sentinel, .sentinel] true (true, "6dfbc9ab955ebfe709820a3f39b9f3e8b45f2ec5d23a756b48fd12bbbea2d69f") true
    syntaxBack_row (fun _ h => by cases h) syntaxBack_h1 (fun _ h => by cases h) syntaxBack_row_tie rfl ⟨rfl, rfl⟩ syntaxBack_h2 rfl
    (fun f fn hf hfn => by
      obtain rfl : f = 5 := Option.some.inj (syntaxBack_r1.symm.trans hf) |>.symm
      obtain rfl : fn = Tryz.f5 := (Option.some.inj (Tryz.func5.symm.trans hfn)).symm
      exact ⟨syntaxBack_h3, fun j t ht => by
        rw [Tryz.params5] at ht
        have hm : t ∈ [9, 28] := by simpa using Array.mem_of_getElem? ht
        exact (show Tryz.prog.wantsStandIn t = false by simpa using List.all_eq_true.1 syntaxBack_h4 t hm)⟩)
    syntaxBack_h5
#print axioms syntaxBack_holds
end Go.Proofs.YtghmjnbpkobooaaGreatDoor
