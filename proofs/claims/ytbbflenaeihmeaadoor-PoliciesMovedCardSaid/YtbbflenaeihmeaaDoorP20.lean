/-
  Walks: the examples with which the statements begin, part 2: changed, sane.
-/
import Derived.Test.YtbbflenaeihmeaaDoorP19
set_option linter.unusedVariables false
set_option linter.unusedSimpArgs false
set_option maxRecDepth 10000
set_option maxHeartbeats 4000000
namespace Go.Proofs.YtbbflenaeihmeaaDoor
open Go Go.RowKit

theorem ve_iff2 {I : Im} {us : List Value} {x : Ve} : RepL I (encVe x) us ↔ ∃ v1 v2 v3 v4, us = [.int .i64 x.no, .int .i64 x.at_, .int .i64 x.known, .string x.policy.name, v1, v2, v3, .int .i64 x.policy.change.kind, .int .i64 x.policy.change.n, .int .i64 x.policy.change.no, .string x.policy.change.name, v4, .int .i64 x.policy.mode] ∧
    I64 x.no ∧ I64 x.at_ ∧ I64 x.known ∧ S63 x.policy.name ∧ RepS encS I 1 x.policy.kinds v1 ∧ RepS encS I 1 x.policy.offices v2 ∧ RepS encRu I 8 x.policy.rules v3 ∧ I64 x.policy.change.kind ∧ I64 x.policy.change.n ∧ I64 x.policy.change.no ∧ S63 x.policy.change.name ∧ RepS encEx I 5 x.policy.change.l v4 ∧ I64 x.policy.mode := by
  rw [ve_iff]
  constructor
  · rintro ⟨vs, rfl, h1, h2, h3, h⟩
    obtain ⟨v1, v2, v3, v4, rfl, k⟩ := po_iff.1 h
    exact ⟨v1, v2, v3, v4, rfl, h1, h2, h3, k⟩
  · rintro ⟨v1, v2, v3, v4, rfl, h1, h2, h3, k⟩
    exact ⟨_, rfl, h1, h2, h3, po_iff.2 ⟨v1, v2, v3, v4, rfl, k⟩⟩
theorem rows_rep {I : Im} {s : ByteArray} (hs : S63 s) : ∀ n : Nat, Rows I 1 ((List.replicate n s).map encS) (List.replicate n (.string s))
  | 0 => rfl
  | n + 1 => by
    simp only [List.replicate_succ, List.map_cons, Rows, List.take_succ_cons, List.take_zero, List.drop_succ_cons, List.drop_zero]
    exact ⟨s_iff.2 ⟨rfl, hs⟩, rfl, rows_rep hs n⟩
theorem rt_conv {P : Program} {f : FuncId} {a : Array Value} {w : World} {R R' : Value → World → Prop} (h : Calls P f a w (Rt R)) (hr : ∀ v w', R v w' → R' v w') : Calls P f a w (Rt R') :=
  Calls.mono h fun e w' ⟨v, he, hv⟩ => ⟨v, he, hr v w' hv⟩
theorem same_err {q : Po} (h : (!decide (errOf q = 0) && !sameP (resP q) zeroPo) = true) : False := by
  simp only [Bool.and_eq_true] at h
  have h1 := of_decide_eq_false (bnt h.1)
  rw [show resP q = zeroPo from if_neg h1, (sameP_iff _ _).2 rfl] at h
  simp at h
/-- What a change makes of the small policy's cells, behind a pointer. -/
def Turns (k : FuncId) (q : Po) : Prop := ∀ {B : World} {I : Im} {w : World} {L : List (Nat × Obj)} {g : Nat} {us : List Value}, Hp B I w ((g, Ob us 28) :: L) → RepL I (encPo smallP) us →
  Calls Tryd.prog k #[.pointer (some ⟨g, 0, none⟩)] w (Rt fun _ w' => ∃ I' us', Le I I' ∧ Hp B I' w' ((g, Ob us' 28) :: L) ∧ RepL I' (encPo q) us')
theorem changed_c {k : FuncId} (hE : Ent Tryd.prog k) {q : Po} (hf : Turns k q) {B I L w} (H : Hp B I w L) (hkd : At I 0 0 kindsV) : Calls Tryd.prog 47 #[.func (.func k) #[] #[]] w (Rt fun r w' => r = .int .i64 (errOf q) ∧ Hp B I w' L) := by
  refine calls_st (n := 23) Tryd.func47 rfl rfl rfl ?_
  intro G bF cs hb hfn hR hP
  simp only [ini]
  refine st_seq ?_
  refine st_region ?_
  refine sr_op rfl rfl (ow_assign (v := .int .i64 0) rfl ?_)
  refine sr_nil ?_
  refine st_seq ?_
  refine st_region ?_
  refine sr_op rfl rfl (ow_call en46 rfl (small_c H) ?_)
  rintro _ _ ⟨I1, us1, hI1, H, rfl, hr1⟩
  have d1 := hr1
  obtain ⟨d1v1, d1v2, d1v3, d1v8, rfl, d1_0, d1_1, d1_2, d1_3, d1_4, d1_5, d1_6, d1_7, d1_8, d1_9⟩ := po_iff.1 hr1
  obtain ⟨d1A1, d1c1, rfl, d1m1, d1M1, d1_1⟩ := RepS.open_ d1_1
  obtain ⟨d1A2, d1c2, rfl, d1m2, d1M2, d1_2⟩ := RepS.open_ d1_2
  obtain ⟨d1A3, d1c3, rfl, d1m3, d1M3, d1_3⟩ := RepS.open_ d1_3
  obtain ⟨d1A8, d1c8, rfl, d1m8, d1M8, d1_8⟩ := RepS.open_ d1_8
  refine sr_op rfl rfl (ow_alloc ty28 H [.string ⟨#[]⟩, .slice none 0 0, .slice none 0 0, .slice none 0 0, .int .i64 0, .int .i64 0, .int .i64 0, .string ⟨#[]⟩, .slice none 0 0, .int .i64 0] rfl (fun g2 _ H => ?_))
  refine sr_op rfl rfl (ow_store ty28 H rfl (v := .agg #[.string smallP.name, .slice d1A1 smallP.kinds.length d1c1, .slice d1A2 smallP.offices.length d1c2, .slice d1A3 smallP.rules.length d1c3, .int .i64 smallP.change.kind, .int .i64 smallP.change.n, .int .i64 smallP.change.no, .string smallP.change.name, .slice d1A8 smallP.change.l.length d1c8, .int .i64 smallP.mode]) rfl [.string smallP.name, .slice d1A1 smallP.kinds.length d1c1, .slice d1A2 smallP.offices.length d1c2, .slice d1A3 smallP.rules.length d1c3, .int .i64 smallP.change.kind, .int .i64 smallP.change.n, .int .i64 smallP.change.no, .string smallP.change.name, .slice d1A8 smallP.change.l.length d1c8, .int .i64 smallP.mode] rfl rfl rfl 0 rfl rfl (fun _ H => ?_))
  refine sr_nil ?_
  refine st_seq ?_
  refine st_region ?_
  refine sr_op rfl rfl (ow_move (v := .func (.func k) #[] #[]) rfl ?_)
  refine sr_op rfl rfl (ow_enter (run_callV hE (first := []) (cap := []) rfl rfl) (hf H d1) ?_ (fun _ _ ⟨_, e_, _⟩ => by cases e_) (fun _ ⟨_, e_, _⟩ => by cases e_))
  rintro vf _ ⟨_, e_, If, usf, hIf, H, hrf⟩
  cases e_
  have df := hrf
  obtain ⟨dfv1, dfv2, dfv3, dfv8, rfl, df_0, df_1, df_2, df_3, df_4, df_5, df_6, df_7, df_8, df_9⟩ := po_iff.1 hrf
  obtain ⟨dfA1, dfc1, rfl, dfm1, dfM1, df_1⟩ := RepS.open_ df_1
  obtain ⟨dfA2, dfc2, rfl, dfm2, dfM2, df_2⟩ := RepS.open_ df_2
  obtain ⟨dfA3, dfc3, rfl, dfm3, dfM3, df_3⟩ := RepS.open_ df_3
  obtain ⟨dfA8, dfc8, rfl, dfm8, dfM8, df_8⟩ := RepS.open_ df_8
  refine sr_nil ?_
  refine st_seq ?_
  refine st_region ?_
  refine sr_op rfl rfl (ow_load (v := .agg #[.string q.name, .slice dfA1 q.kinds.length dfc1, .slice dfA2 q.offices.length dfc2, .slice dfA3 q.rules.length dfc3, .int .i64 q.change.kind, .int .i64 q.change.n, .int .i64 q.change.no, .string q.change.name, .slice dfA8 q.change.l.length dfc8, .int .i64 q.mode]) ty28 H rfl 0 rfl rfl rfl rfl ?_)
  have hkd := ((hkd.mono hI1).mono hIf)
  refine sr_op rfl rfl (ow_call en19 rfl (Resolve_c H df hkd) ?_)
  rintro _ _ ⟨I3, us3, hI3, H, rfl, hr3⟩
  have d3 := hr3
  obtain ⟨d3v1, d3v2, d3v3, d3v8, rfl, d3_0, d3_1, d3_2, d3_3, d3_4, d3_5, d3_6, d3_7, d3_8, d3_9⟩ := po_iff.1 hr3
  obtain ⟨d3A1, d3c1, rfl, d3m1, d3M1, d3_1⟩ := RepS.open_ d3_1
  obtain ⟨d3A2, d3c2, rfl, d3m2, d3M2, d3_2⟩ := RepS.open_ d3_2
  obtain ⟨d3A3, d3c3, rfl, d3m3, d3M3, d3_3⟩ := RepS.open_ d3_3
  obtain ⟨d3A8, d3c8, rfl, d3m8, d3M8, d3_8⟩ := RepS.open_ d3_8
  refine sr_op rfl rfl (ow_move (v := .tuple #[.agg #[.string ((resP q).name), .slice d3A1 ((resP q).kinds.length) d3c1, .slice d3A2 ((resP q).offices.length) d3c2, .slice d3A3 ((resP q).rules.length) d3c3, .int .i64 ((resP q).change.kind), .int .i64 ((resP q).change.n), .int .i64 ((resP q).change.no), .string ((resP q).change.name), .slice d3A8 ((resP q).change.l.length) d3c8, .int .i64 ((resP q).mode)], .int .i64 (errOf q)]) rfl ?_)
  refine sr_op rfl rfl (ow_extract (v := .agg #[.string ((resP q).name), .slice d3A1 ((resP q).kinds.length) d3c1, .slice d3A2 ((resP q).offices.length) d3c2, .slice d3A3 ((resP q).rules.length) d3c3, .int .i64 ((resP q).change.kind), .int .i64 ((resP q).change.n), .int .i64 ((resP q).change.no), .string ((resP q).change.name), .slice d3A8 ((resP q).change.l.length) d3c8, .int .i64 ((resP q).mode)]) rfl rfl ?_)
  refine sr_op rfl rfl (ow_extract (v := .int .i64 (errOf q)) rfl rfl ?_)
  refine sr_op rfl rfl (ow_alloc ty28 H [.string ⟨#[]⟩, .slice none 0 0, .slice none 0 0, .slice none 0 0, .int .i64 0, .int .i64 0, .int .i64 0, .string ⟨#[]⟩, .slice none 0 0, .int .i64 0] rfl (fun g4 _ H => ?_))
  refine sr_op rfl rfl (ow_store ty28 H rfl (v := .agg #[.string ((resP q).name), .slice d3A1 ((resP q).kinds.length) d3c1, .slice d3A2 ((resP q).offices.length) d3c2, .slice d3A3 ((resP q).rules.length) d3c3, .int .i64 ((resP q).change.kind), .int .i64 ((resP q).change.n), .int .i64 ((resP q).change.no), .string ((resP q).change.name), .slice d3A8 ((resP q).change.l.length) d3c8, .int .i64 ((resP q).mode)]) rfl [.string ((resP q).name), .slice d3A1 ((resP q).kinds.length) d3c1, .slice d3A2 ((resP q).offices.length) d3c2, .slice d3A3 ((resP q).rules.length) d3c3, .int .i64 ((resP q).change.kind), .int .i64 ((resP q).change.n), .int .i64 ((resP q).change.no), .string ((resP q).change.name), .slice d3A8 ((resP q).change.l.length) d3c8, .int .i64 ((resP q).mode)] rfl rfl rfl 0 rfl rfl (fun _ H => ?_))
  refine sr_op rfl rfl (ow_assign (v := .int .i64 (errOf q)) rfl ?_)
  refine sr_nil ?_
  refine st_seq ?_
  refine st_seq ?_
  refine st_region ?_
  refine sr_op rfl rfl (ow_move (v := .int .i64 (errOf q)) rfl ?_)
  refine sr_op rfl rfl (ow_neq rfl rfl ?_)
  refine sr_op rfl rfl (ow_move (v := .bool (!decide (errOf q = 0))) rfl ?_)
  refine sr_cut 5 (fun m_ w_ => ∃ (r_ : Sl) (v_ : Bool), m_ = (21, .bool v_) :: (2, .int .i64 0) :: (5, .int .i64 (errOf q)) :: r_ ∧ Hp B I3 w_ ((g4, Ob [.string ((resP q).name), .slice d3A1 ((resP q).kinds.length) d3c1, .slice d3A2 ((resP q).offices.length) d3c2, .slice d3A3 ((resP q).rules.length) d3c3, .int .i64 ((resP q).change.kind), .int .i64 ((resP q).change.n), .int .i64 ((resP q).change.no), .string ((resP q).change.name), .slice d3A8 ((resP q).change.l.length) d3c8, .int .i64 ((resP q).mode)] 28) :: (g2, Ob [.string q.name, .slice dfA1 q.kinds.length dfc1, .slice dfA2 q.offices.length dfc2, .slice dfA3 q.rules.length dfc3, .int .i64 q.change.kind, .int .i64 q.change.n, .int .i64 q.change.no, .string q.change.name, .slice dfA8 q.change.l.length dfc8, .int .i64 q.mode] 28) :: L) ∧ v_ = ((!decide (errOf q = 0)) && (!(sameP (resP q) zeroPo)))) (fun again => ?_) ?_
  · rcases hg : !decide (errOf q = 0) with _ | _
    · refine sr_pass rfl (j := 2) (d := 16) rfl rfl rfl (u := false) (v := true) rfl rfl ?_
      refine sr_pass rfl (j := 2) (d := 16) rfl rfl rfl (u := false) (v := true) rfl rfl ?_
      refine sr_pass rfl (j := 2) (d := 16) rfl rfl rfl (u := false) (v := true) rfl rfl ?_
      refine sr_pass rfl (j := 2) (d := 16) rfl rfl rfl (u := false) (v := true) rfl rfl ?_
      refine sr_op rfl rfl (ow_pick (v := .bool false) rfl rfl ?_)
      exact sr_live [21, 2, 5] (again _ _ ⟨_, _, rfl, H, by rw [hg] <;> rfl⟩)
    · refine sr_want rfl (j := 2) (d := 16) rfl rfl rfl (v := true) rfl rfl (ow_load (v := .agg #[.string ((resP q).name), .slice d3A1 ((resP q).kinds.length) d3c1, .slice d3A2 ((resP q).offices.length) d3c2, .slice d3A3 ((resP q).rules.length) d3c3, .int .i64 ((resP q).change.kind), .int .i64 ((resP q).change.n), .int .i64 ((resP q).change.no), .string ((resP q).change.name), .slice d3A8 ((resP q).change.l.length) d3c8, .int .i64 ((resP q).mode)]) ty28 H rfl 0 rfl rfl rfl rfl ?_)
      refine sr_want rfl (j := 2) (d := 16) rfl rfl rfl (v := true) rfl rfl (ow_build (ps := []) (v := .agg #[.string ⟨#[]⟩, .slice none 0 0, .slice none 0 0, .slice none 0 0, .int .i64 0, .int .i64 0, .int .i64 0, .string ⟨#[]⟩, .slice none 0 0, .int .i64 0]) rfl (fun _ => by kernel_rfl) ?_)
      refine sr_want rfl (j := 2) (d := 16) rfl rfl rfl (v := true) rfl rfl (ow_call en21 rfl (Same_c H d3 (zero_rep _)) ?_)
      rintro _ _ ⟨rfl, H⟩
      refine sr_want rfl (j := 2) (d := 16) rfl rfl rfl (v := true) rfl rfl (ow_not rfl ?_)
      refine sr_op rfl rfl (ow_pick (v := .bool (!(sameP (resP q) zeroPo))) rfl rfl ?_)
      exact sr_live [21, 2, 5] (again _ _ ⟨_, _, rfl, H, by rw [hg] <;> rfl⟩)
  rintro _ _ ⟨r, _, rfl, H, rfl⟩
  refine sr_nil ?_
  refine st_cond ((!decide (errOf q = 0)) && (!(sameP (resP q) zeroPo))) rfl (fun hc5 => ?_) (fun hc5 => ?_)
  · exact absurd hc5 (fun h_ => same_err h_)
  · refine st_skip ?_
    refine st_seq ?_
    refine st_region ?_
    refine sr_op rfl rfl (ow_move (v := .int .i64 (errOf q)) rfl ?_)
    refine sr_op rfl rfl (ow_assign (v := .int .i64 (errOf q)) rfl ?_)
    refine sr_nil ?_
    refine st_ret hb (hR _ _ (.int .i64 (errOf q)) (res_run (vs := [.int .i64 (errOf q)]) Tryd.results47 ⟨_, _, rfl, rfl, rfl⟩) ?_)
    exact ⟨_, rfl, rfl, (Hp.back (H.drop 2) ((hI1.trans hIf).trans hI3))⟩
def chg1 : Po := zeroPo
theorem turns1 : Turns 48 chg1 := by
  intro B I w L g us H hus
  have d0 := hus
  obtain ⟨d0v1, d0v2, d0v3, d0v8, rfl, d0_0, d0_1, d0_2, d0_3, d0_4, d0_5, d0_6, d0_7, d0_8, d0_9⟩ := po_iff.1 hus
  obtain ⟨d0A1, d0c1, rfl, d0m1, d0M1, d0_1⟩ := RepS.open_ d0_1
  obtain ⟨d0A2, d0c2, rfl, d0m2, d0M2, d0_2⟩ := RepS.open_ d0_2
  obtain ⟨d0A3, d0c3, rfl, d0m3, d0M3, d0_3⟩ := RepS.open_ d0_3
  obtain ⟨d0A8, d0c8, rfl, d0m8, d0M8, d0_8⟩ := RepS.open_ d0_8
  refine calls_st (n := 5) Tryd.func48 rfl rfl rfl ?_
  intro G bF cs hb hfn hR hP
  simp only [ini]
  refine st_region ?_
  refine sr_op rfl rfl (ow_move (v := .pointer (some ⟨g, 0, none⟩)) rfl ?_)
  refine sr_op rfl rfl (ow_build (ps := []) (v := .agg #[.string ⟨#[]⟩, .slice none 0 0, .slice none 0 0, .slice none 0 0, .int .i64 0, .int .i64 0, .int .i64 0, .string ⟨#[]⟩, .slice none 0 0, .int .i64 0]) rfl (fun _ => by kernel_rfl) ?_)
  refine sr_op rfl rfl (ow_nilCheck rfl ?_)
  refine sr_op rfl rfl (ow_store ty28 H rfl (v := .agg #[.string ⟨#[]⟩, .slice none 0 0, .slice none 0 0, .slice none 0 0, .int .i64 0, .int .i64 0, .int .i64 0, .string ⟨#[]⟩, .slice none 0 0, .int .i64 0]) rfl [.string ⟨#[]⟩, .slice none 0 0, .slice none 0 0, .slice none 0 0, .int .i64 0, .int .i64 0, .int .i64 0, .string ⟨#[]⟩, .slice none 0 0, .int .i64 0] rfl rfl rfl 0 rfl rfl (fun _ H => ?_))
  refine sr_nil ?_
  refine st_end hb (hR _ _ (.tuple #[]) (res_run (vs := []) Tryd.results48 rfl) ?_)
  exact ⟨_, rfl, I, _, (Le.refl _), H, zero_rep _⟩
def chg2 : Po := ⟨houseS, [letterS], [headS, headS, boardS], [⟨letterS, 0, 7, uptoE⟩], ofE, 3⟩
theorem turns2 : Turns 49 chg2 := by
  intro B I w L g us H hus
  have d0 := hus
  obtain ⟨d0v1, d0v2, d0v3, d0v8, rfl, d0_0, d0_1, d0_2, d0_3, d0_4, d0_5, d0_6, d0_7, d0_8, d0_9⟩ := po_iff.1 hus
  obtain ⟨d0A1, d0c1, rfl, d0m1, d0M1, d0_1⟩ := RepS.open_ d0_1
  obtain ⟨d0A2, d0c2, rfl, d0m2, d0M2, d0_2⟩ := RepS.open_ d0_2
  obtain ⟨d0A3, d0c3, rfl, d0m3, d0M3, d0_3⟩ := RepS.open_ d0_3
  obtain ⟨d0A8, d0c8, rfl, d0m8, d0M8, d0_8⟩ := RepS.open_ d0_8
  refine calls_st (n := 6) Tryd.func49 rfl rfl rfl ?_
  intro G bF cs hb hfn hR hP
  simp only [ini]
  refine st_region ?_
  refine sr_op rfl rfl (ow_move (v := .pointer (some ⟨g, 0, none⟩)) rfl ?_)
  refine sr_op rfl rfl (ow_buildSlice H (e := 9) (ps := [(0, .string ⟨#[104, 101, 97, 100]⟩), (1, .string ⟨#[104, 101, 97, 100]⟩), (2, .string ⟨#[98, 111, 97, 114, 100]⟩)]) rfl [.string ⟨#[104, 101, 97, 100]⟩, .string ⟨#[104, 101, 97, 100]⟩, .string ⟨#[98, 111, 97, 114, 100]⟩] (fun _ => by kernel_rfl) (fun g1 _ H => ?_))
  obtain ⟨I_a, hI_a, H, hl_a⟩ := lit_done (enc := encS) (sz := 1) (n := 3) [headS, headS, boardS] rfl (by omega) H ⟨s_iff.2 ⟨rfl, by unfold S63 headS; decide⟩, rfl, s_iff.2 ⟨rfl, by unfold S63 headS; decide⟩, rfl, s_iff.2 ⟨rfl, by unfold S63 boardS; decide⟩, rfl, rfl⟩
  refine sr_op rfl rfl (ow_nilCheck rfl ?_)
  refine sr_op rfl rfl (ow_fieldAddr fd28_2 ty22 rfl rfl (r := 2) rfl ?_)
  refine sr_op rfl rfl (ow_store ty22 H rfl (v := .slice (some ⟨g1, 0, none⟩) 3 3) rfl [.slice (some ⟨g1, 0, none⟩) 3 3] rfl rfl rfl 0 rfl rfl (fun _ H => ?_))
  refine sr_nil ?_
  refine st_end hb (hR _ _ (.tuple #[]) (res_run (vs := []) Tryd.results49 rfl) ?_)
  have d0_1 := (d0_1.mono hI_a)
  have d0_3 := (d0_3.mono hI_a)
  have d0_8 := (d0_8.mono hI_a)
  exact ⟨_, rfl, I_a, _, hI_a, H, po_iff.2 ⟨_, _, _, _, rfl, d0_0, d0_1, hl_a, d0_3, (by constructor <;> decide), (by constructor <;> decide), (by constructor <;> decide), (by unfold S63; decide), d0_8, d0_9⟩⟩
def chg3 : Po := ⟨houseS, [], [headS, boardS], [], ofE, 3⟩
theorem turns3 : Turns 50 chg3 := by
  intro B I w L g us H hus
  have d0 := hus
  obtain ⟨d0v1, d0v2, d0v3, d0v8, rfl, d0_0, d0_1, d0_2, d0_3, d0_4, d0_5, d0_6, d0_7, d0_8, d0_9⟩ := po_iff.1 hus
  obtain ⟨d0A1, d0c1, rfl, d0m1, d0M1, d0_1⟩ := RepS.open_ d0_1
  obtain ⟨d0A2, d0c2, rfl, d0m2, d0M2, d0_2⟩ := RepS.open_ d0_2
  obtain ⟨d0A3, d0c3, rfl, d0m3, d0M3, d0_3⟩ := RepS.open_ d0_3
  obtain ⟨d0A8, d0c8, rfl, d0m8, d0M8, d0_8⟩ := RepS.open_ d0_8
  refine calls_st (n := 8) Tryd.func50 rfl rfl rfl ?_
  intro G bF cs hb hfn hR hP
  simp only [ini]
  refine st_region ?_
  refine sr_op rfl rfl (ow_move (v := .pointer (some ⟨g, 0, none⟩)) rfl ?_)
  refine sr_op rfl rfl (ow_move (v := .pointer (some ⟨g, 0, none⟩)) rfl ?_)
  refine sr_op rfl rfl (ow_nilCheck rfl ?_)
  refine sr_op rfl rfl (ow_fieldAddr fd28_1 ty22 rfl rfl (r := 1) rfl ?_)
  refine sr_op rfl rfl (ow_store ty22 H rfl (v := .slice none 0 0) rfl [.slice none 0 0] rfl rfl rfl 0 rfl rfl (fun _ H => ?_))
  refine sr_op rfl rfl (ow_nilCheck rfl ?_)
  refine sr_op rfl rfl (ow_fieldAddr fd28_3 ty23 rfl rfl (r := 3) rfl ?_)
  refine sr_op rfl rfl (ow_store ty23 H rfl (v := .slice none 0 0) rfl [.slice none 0 0] rfl rfl rfl 0 rfl rfl (fun _ H => ?_))
  refine sr_nil ?_
  refine st_end hb (hR _ _ (.tuple #[]) (res_run (vs := []) Tryd.results50 rfl) ?_)
  exact ⟨_, rfl, I, _, (Le.refl _), H, po_iff.2 ⟨_, _, _, _, rfl, d0_0, (RepS.nil _ _ _), d0_2, (RepS.nil _ _ _), (by constructor <;> decide), (by constructor <;> decide), (by constructor <;> decide), (by unfold S63; decide), d0_8, d0_9⟩⟩
def chg4 : Po := ⟨houseS, [letterS], [headS, boardS], [⟨letterS, 0, 7, uptoE⟩], uptoE, 3⟩
theorem turns4 : Turns 51 chg4 := by
  intro B I w L g us H hus
  have d0 := hus
  obtain ⟨d0v1, d0v2, d0v3, d0v8, rfl, d0_0, d0_1, d0_2, d0_3, d0_4, d0_5, d0_6, d0_7, d0_8, d0_9⟩ := po_iff.1 hus
  obtain ⟨d0A1, d0c1, rfl, d0m1, d0M1, d0_1⟩ := RepS.open_ d0_1
  obtain ⟨d0A2, d0c2, rfl, d0m2, d0M2, d0_2⟩ := RepS.open_ d0_2
  obtain ⟨d0A3, d0c3, rfl, d0m3, d0M3, d0_3⟩ := RepS.open_ d0_3
  obtain ⟨d0A8, d0c8, rfl, d0m8, d0M8, d0_8⟩ := RepS.open_ d0_8
  refine calls_st (n := 12) Tryd.func51 rfl rfl rfl ?_
  intro G bF cs hb hfn hR hP
  simp only [ini]
  refine st_region ?_
  refine sr_op rfl rfl (ow_move (v := .pointer (some ⟨g, 0, none⟩)) rfl ?_)
  refine sr_op rfl rfl (ow_move (v := .pointer (some ⟨g, 0, none⟩)) rfl ?_)
  refine sr_op rfl rfl (ow_nilCheck rfl ?_)
  refine sr_op rfl rfl (ow_fieldAddr fd28_3 ty23 rfl rfl (r := 3) rfl ?_)
  refine sr_op rfl rfl (ow_load (v := .slice d0A3 1 d0c3) ty23 H rfl 0 rfl rfl rfl rfl ?_)
  have he1 : smallP.rules[0]? = some (⟨letterS, 0, 7, uptoE⟩ : Ru) := rfl
  obtain ⟨b1, o1, us1, hA1, hat1, hul1, hr1⟩ := RepS.get d0_3 he1
  have d1 := hr1
  obtain ⟨d1v7, rfl, d1_0, d1_1, d1_2, d1_3, d1_4, d1_5, d1_6, d1_7⟩ := ru_iff.1 hr1
  obtain ⟨d1A7, d1c7, rfl, d1m7, d1M7, d1_7⟩ := RepS.open_ d1_7
  refine sr_op rfl rfl (ow_indexAddrA sl23 ty43 hA1 rfl rfl (by decide) (by decide) (r := o1 + 0 * 8) rfl ?_)
  refine sr_op rfl rfl (ow_fieldAddr fd43_3 ty26 rfl rfl (r := o1 + 0 * 8 + 3) rfl ?_)
  refine sr_op rfl rfl (ow_loadI (v := .agg #[.int .i64 ((⟨letterS, 0, 7, uptoE⟩ : Ru).expr.kind), .int .i64 ((⟨letterS, 0, 7, uptoE⟩ : Ru).expr.n), .int .i64 ((⟨letterS, 0, 7, uptoE⟩ : Ru).expr.no), .string ((⟨letterS, 0, 7, uptoE⟩ : Ru).expr.name), .slice d1A7 ((⟨letterS, 0, 7, uptoE⟩ : Ru).expr.l.length) d1c7]) ty26 H rfl (At.sub (vs := [.int .i64 ((⟨letterS, 0, 7, uptoE⟩ : Ru).expr.kind), .int .i64 ((⟨letterS, 0, 7, uptoE⟩ : Ru).expr.n), .int .i64 ((⟨letterS, 0, 7, uptoE⟩ : Ru).expr.no), .string ((⟨letterS, 0, 7, uptoE⟩ : Ru).expr.name), .slice d1A7 ((⟨letterS, 0, 7, uptoE⟩ : Ru).expr.l.length) d1c7]) hat1 3 rfl) rfl rfl rfl ?_)
  refine sr_op rfl rfl (ow_nilCheck rfl ?_)
  refine sr_op rfl rfl (ow_fieldAddr fd28_4 ty26 rfl rfl (r := 4) rfl ?_)
  refine sr_op rfl rfl (ow_store ty26 H rfl (v := .agg #[.int .i64 ((⟨letterS, 0, 7, uptoE⟩ : Ru).expr.kind), .int .i64 ((⟨letterS, 0, 7, uptoE⟩ : Ru).expr.n), .int .i64 ((⟨letterS, 0, 7, uptoE⟩ : Ru).expr.no), .string ((⟨letterS, 0, 7, uptoE⟩ : Ru).expr.name), .slice d1A7 ((⟨letterS, 0, 7, uptoE⟩ : Ru).expr.l.length) d1c7]) rfl [.int .i64 ((⟨letterS, 0, 7, uptoE⟩ : Ru).expr.kind), .int .i64 ((⟨letterS, 0, 7, uptoE⟩ : Ru).expr.n), .int .i64 ((⟨letterS, 0, 7, uptoE⟩ : Ru).expr.no), .string ((⟨letterS, 0, 7, uptoE⟩ : Ru).expr.name), .slice d1A7 ((⟨letterS, 0, 7, uptoE⟩ : Ru).expr.l.length) d1c7] rfl rfl rfl 0 rfl rfl (fun _ H => ?_))
  refine sr_nil ?_
  refine st_end hb (hR _ _ (.tuple #[]) (res_run (vs := []) Tryd.results51 rfl) ?_)
  exact ⟨_, rfl, I, _, (Le.refl _), H, po_iff.2 ⟨_, _, _, _, rfl, d0_0, d0_1, d0_2, d0_3, (by constructor <;> decide), (by constructor <;> decide), (by constructor <;> decide), (by unfold S63; decide), d1_7, d0_9⟩⟩
def chg5 : Po := ⟨houseS, [letterS], [headS, boardS], [⟨letterS, 0, 7, uptoE⟩], ⟨3, 3, 0, ⟨#[]⟩, [someE, weightE]⟩, 3⟩
theorem turns5 : Turns 52 chg5 := by
  intro B I w L g us H hus
  have d0 := hus
  obtain ⟨d0v1, d0v2, d0v3, d0v8, rfl, d0_0, d0_1, d0_2, d0_3, d0_4, d0_5, d0_6, d0_7, d0_8, d0_9⟩ := po_iff.1 hus
  obtain ⟨d0A1, d0c1, rfl, d0m1, d0M1, d0_1⟩ := RepS.open_ d0_1
  obtain ⟨d0A2, d0c2, rfl, d0m2, d0M2, d0_2⟩ := RepS.open_ d0_2
  obtain ⟨d0A3, d0c3, rfl, d0m3, d0M3, d0_3⟩ := RepS.open_ d0_3
  obtain ⟨d0A8, d0c8, rfl, d0m8, d0M8, d0_8⟩ := RepS.open_ d0_8
  refine calls_st (n := 6) Tryd.func52 rfl rfl rfl ?_
  intro G bF cs hb hfn hR hP
  simp only [ini]
  refine st_region ?_
  refine sr_op rfl rfl (ow_move (v := .pointer (some ⟨g, 0, none⟩)) rfl ?_)
  refine sr_op rfl rfl (ow_nilCheck rfl ?_)
  refine sr_op rfl rfl (ow_fieldAddr fd28_4 ty26 rfl rfl (r := 4) rfl ?_)
  refine sr_op rfl rfl (ow_fieldAddr fd26_1 ty3 rfl rfl (r := 5) rfl ?_)
  refine sr_op rfl rfl (ow_store ty3 H rfl (v := .int .i64 3) rfl [.int .i64 3] rfl rfl rfl 0 rfl rfl (fun _ H => ?_))
  refine sr_nil ?_
  refine st_end hb (hR _ _ (.tuple #[]) (res_run (vs := []) Tryd.results52 rfl) ?_)
  exact ⟨_, rfl, I, _, (Le.refl _), H, po_iff.2 ⟨_, _, _, _, rfl, d0_0, d0_1, d0_2, d0_3, (by constructor <;> decide), (by constructor <;> decide), (by constructor <;> decide), (by unfold S63; decide), d0_8, d0_9⟩⟩
def chg6 : Po := ⟨houseS, [letterS], List.replicate 33 ⟨#[]⟩, [⟨letterS, 0, 7, uptoE⟩], ofE, 3⟩
theorem turns6 : Turns 53 chg6 := by
  intro B I w L g us H hus
  have d0 := hus
  obtain ⟨d0v1, d0v2, d0v3, d0v8, rfl, d0_0, d0_1, d0_2, d0_3, d0_4, d0_5, d0_6, d0_7, d0_8, d0_9⟩ := po_iff.1 hus
  obtain ⟨d0A1, d0c1, rfl, d0m1, d0M1, d0_1⟩ := RepS.open_ d0_1
  obtain ⟨d0A2, d0c2, rfl, d0m2, d0M2, d0_2⟩ := RepS.open_ d0_2
  obtain ⟨d0A3, d0c3, rfl, d0m3, d0M3, d0_3⟩ := RepS.open_ d0_3
  obtain ⟨d0A8, d0c8, rfl, d0m8, d0M8, d0_8⟩ := RepS.open_ d0_8
  refine calls_st (n := 6) Tryd.func53 rfl rfl rfl ?_
  intro G bF cs hb hfn hR hP
  simp only [ini]
  refine st_region ?_
  refine sr_op rfl rfl (ow_move (v := .pointer (some ⟨g, 0, none⟩)) rfl ?_)
  refine sr_op rfl rfl (ow_makeSlice sl22 ty9 H (l := 33) (c := 33) rfl rfl (by omega) (by omega) (by omega) (by omega) [.string ⟨#[]⟩, .string ⟨#[]⟩, .string ⟨#[]⟩, .string ⟨#[]⟩, .string ⟨#[]⟩, .string ⟨#[]⟩, .string ⟨#[]⟩, .string ⟨#[]⟩, .string ⟨#[]⟩, .string ⟨#[]⟩, .string ⟨#[]⟩, .string ⟨#[]⟩, .string ⟨#[]⟩, .string ⟨#[]⟩, .string ⟨#[]⟩, .string ⟨#[]⟩, .string ⟨#[]⟩, .string ⟨#[]⟩, .string ⟨#[]⟩, .string ⟨#[]⟩, .string ⟨#[]⟩, .string ⟨#[]⟩, .string ⟨#[]⟩, .string ⟨#[]⟩, .string ⟨#[]⟩, .string ⟨#[]⟩, .string ⟨#[]⟩, .string ⟨#[]⟩, .string ⟨#[]⟩, .string ⟨#[]⟩, .string ⟨#[]⟩, .string ⟨#[]⟩, .string ⟨#[]⟩] (by kernel_rfl) (fun g1 _ H => ?_))
  obtain ⟨I_a, hI_a, H, hl_a⟩ := lit_done (enc := encS) (sz := 1) (n := 33) (List.replicate 33 ⟨#[]⟩) rfl (by omega) H (rows_rep (by unfold S63; decide) 33)
  refine sr_op rfl rfl (ow_nilCheck rfl ?_)
  refine sr_op rfl rfl (ow_fieldAddr fd28_2 ty22 rfl rfl (r := 2) rfl ?_)
  refine sr_op rfl rfl (ow_store ty22 H rfl (v := .slice (some ⟨g1, 0, none⟩) 33 33) rfl [.slice (some ⟨g1, 0, none⟩) 33 33] rfl rfl rfl 0 rfl rfl (fun _ H => ?_))
  refine sr_nil ?_
  refine st_end hb (hR _ _ (.tuple #[]) (res_run (vs := []) Tryd.results53 rfl) ?_)
  have d0_1 := (d0_1.mono hI_a)
  have d0_3 := (d0_3.mono hI_a)
  have d0_8 := (d0_8.mono hI_a)
  exact ⟨_, rfl, I_a, _, hI_a, H, po_iff.2 ⟨_, _, _, _, rfl, d0_0, d0_1, hl_a, d0_3, (by constructor <;> decide), (by constructor <;> decide), (by constructor <;> decide), (by unfold S63; decide), d0_8, d0_9⟩⟩
end Go.Proofs.YtbbflenaeihmeaaDoor
