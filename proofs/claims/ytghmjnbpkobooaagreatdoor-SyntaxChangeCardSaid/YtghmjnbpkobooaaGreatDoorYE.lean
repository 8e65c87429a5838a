/-
  Walks: Print.
-/
import Derived.Test.YtghmjnbpkobooaaGreatDoorYD
import Derived.Test.YtghmjnbpkobooaaGreatDoorYA
set_option linter.unusedVariables false
set_option linter.unusedSimpArgs false
set_option maxRecDepth 10000
set_option maxHeartbeats 4000000
namespace Go.Proofs.YtghmjnbpkobooaaGreatDoor
open Go Go.RowKit

theorem rep_toks {I : Im} {l : List Tk} {v : Value} (hl : RepS encTk I 4 l v) : ∀ t ∈ l, S63 t.text ∧ I64 t.n := by
  intro t ht
  obtain ⟨A, c, rfl, _, _, hl⟩ := RepS.open_ hl
  obtain ⟨i, hi, rfl⟩ := List.getElem_of_mem ht
  obtain ⟨_, _, us, _, _, _, hr⟩ := RepS.get hl (List.getElem?_eq_getElem hi)
  obtain ⟨_, _, h1, h2, _⟩ := tk_iff.1 hr
  exact ⟨h1, h2⟩
theorem join_bound {l : List Tk} (hn : l.length ≤ 200000) (hv : l.all validB = true) : (joinS (l.map spellS) ⟨#[32]⟩).size ≤ 140737488355328 := by
  have h1 := join_size l
  have h2 := cost_valid hv
  omega
theorem text_yes {l : List Tk} (h : l.all validB = true) : textE l = (joinS (l.map spellS) ⟨#[32]⟩, 0) := by rw [textE, if_pos h]
theorem text_no {l : List Tk} (h : ¬ (textE l).2 = 0) : l.all validB = false := by
  cases hv : l.all validB with
  | false => rfl
  | true => rw [text_yes hv] at h; exact absurd rfl h
theorem text_is {l : List Tk} (h : (textE l).2 = 0) : l.all validB = true := by
  cases hv : l.all validB with
  | true => rfl
  | false =>
    rw [textE, hv] at h
    cases h
theorem parses_read {p x : Po} {a k : Int} (h : readE (policyP p) 0 = (x, a, k)) : parsesB p = (decide (k = 0) && sameP x p) := by
  unfold readE at h
  unfold parsesB
  cases hp : policyT fuelN (policyP p) with
  | ok y r =>
    rw [hp] at h
    injection h with h1 h2
    injection h2 with h2 h3
    rw [← h1, ← h3]
    rfl
  | bad r =>
    rw [hp] at h
    injection h with h1 h2
    injection h2 with h2 h3
    rw [← h3]
    rfl
theorem mode_no {m : Int} (h : (decide (m < 1) || decide (4 < m)) = true) : okMode m = false := by
  simp only [Bool.or_eq_true, decide_eq_true_eq] at h
  simp only [okMode, Bool.and_eq_false_iff, decide_eq_false_iff_not]
  omega
theorem mode_yes {m : Int} (h : (decide (m < 1) || decide (4 < m)) = false) : okMode m = true := by
  simp only [Bool.or_eq_false_iff, decide_eq_false_iff_not] at h
  simp only [okMode, Bool.and_eq_true, decide_eq_true_eq]
  omega
theorem same_no' {k : Int} {b : Bool} (h : (!decide (k = 0) || !b) = true) : (decide (k = 0) && b) = false := by
  cases hk : decide (k = 0) <;> cases b <;> simp_all
theorem same_yes' {k : Int} {b : Bool} (h : (!decide (k = 0) || !b) = false) : (decide (k = 0) && b) = true := by
  cases hk : decide (k = 0) <;> cases b <;> simp_all
theorem print_no {p : Po} (h : (okMode p.mode && ((policyP p).all validB && parsesB p)) = false) : printE p = (⟨#[]⟩, 190) := by
  rw [printE, h]
  rfl
theorem print_yes {p : Po} (h : (okMode p.mode && ((policyP p).all validB && parsesB p)) = true) : printE p = (textP p, 0) := by rw [printE, if_pos h]
theorem Print_c {B I L w} {p : Po} {us : List Value} (H : Hp B I w L) (hp : RepL I (encPo p) us) (hT : (policyP p).length ≤ 100000) (hlib : LibAt I) : Calls Tryz.prog 16 #[.agg us.toArray] w (Rt fun r w' => r = .tuple #[.string (printE p).1, .int .i64 (printE p).2] ∧ Hp B I w' L) := by
  have d0 := hp
  obtain ⟨d0v1, d0v2, d0v3, d0v8, rfl, d0_0, d0_1, d0_2, d0_3, d0_4, d0_5, d0_6, d0_7, d0_8, d0_9⟩ := po_iff.1 hp
  obtain ⟨d0A1, d0c1, rfl, d0m1, d0M1, d0_1⟩ := RepS.open_ d0_1
  obtain ⟨d0A2, d0c2, rfl, d0m2, d0M2, d0_2⟩ := RepS.open_ d0_2
  obtain ⟨d0A3, d0c3, rfl, d0m3, d0M3, d0_3⟩ := RepS.open_ d0_3
  obtain ⟨d0A8, d0c8, rfl, d0m8, d0M8, d0_8⟩ := RepS.open_ d0_8
  refine calls_st (n := 49) Tryz.func16 rfl rfl rfl ?_
  intro G bF cs hb hfn hR hP
  simp only [ini]
  refine st_seq ?_
  refine st_region ?_
  refine sr_op rfl rfl (ow_box H (v := .agg #[.string p.name, .slice d0A1 p.kinds.length d0c1, .slice d0A2 p.offices.length d0c2, .slice d0A3 p.rules.length d0c3, .int .i64 p.change.kind, .int .i64 p.change.n, .int .i64 p.change.no, .string p.change.name, .slice d0A8 p.change.l.length d0c8, .int .i64 p.mode]) rfl [.string p.name, .slice d0A1 p.kinds.length d0c1, .slice d0A2 p.offices.length d0c2, .slice d0A3 p.rules.length d0c3, .int .i64 p.change.kind, .int .i64 p.change.n, .int .i64 p.change.no, .string p.change.name, .slice d0A8 p.change.l.length d0c8, .int .i64 p.mode] rfl (fun g1 _ H => ?_))
  obtain ⟨I2, hI2, H, hat2⟩ := freeze_at (L' := L) 0 rfl H rfl
  refine sr_op rfl rfl (ow_assign (v := .string ⟨#[]⟩) rfl ?_)
  refine sr_op rfl rfl (ow_assign (v := .int .i64 0) rfl ?_)
  refine sr_nil ?_
  refine st_seq ?_
  refine st_seq ?_
  refine st_region ?_
  refine sr_op rfl rfl (ow_fieldAddr fd28_5 ty3 rfl rfl (r := 0 + 9) rfl ?_)
  refine sr_op rfl rfl (ow_loadI (v := .int .i64 p.mode) ty3 H rfl (At.sub (vs := [.int .i64 p.mode]) hat2 9 rfl) rfl rfl rfl ?_)
  refine sr_op rfl rfl (ow_lss rfl rfl ?_)
  refine sr_op rfl rfl (ow_move (v := .bool (decide (p.mode < 1))) rfl ?_)
  refine sr_cut 4 (fun m_ w_ => ∃ (r_ : Sl) (v_ : Bool), m_ = (15, .bool v_) :: (1, .pointer (some ⟨g1, 0, none⟩)) :: (2, .string ⟨#[]⟩) :: (3, .int .i64 0) :: r_ ∧ Hp B I2 w_ (L) ∧ v_ = ((decide (p.mode < 1)) || (decide (4 < p.mode)))) (fun again => ?_) ?_
  · rcases hg : decide (p.mode < 1) with _ | _
    · refine sr_want rfl (j := 3) (d := 11) rfl rfl rfl (v := false) rfl rfl (ow_fieldAddr fd28_5 ty3 rfl rfl (r := 0 + 9) rfl ?_)
      refine sr_want rfl (j := 3) (d := 11) rfl rfl rfl (v := false) rfl rfl (ow_loadI (v := .int .i64 p.mode) ty3 H rfl (At.sub (vs := [.int .i64 p.mode]) hat2 9 rfl) rfl rfl rfl ?_)
      refine sr_want rfl (j := 3) (d := 11) rfl rfl rfl (v := false) rfl rfl (ow_gtr rfl rfl ?_)
      refine sr_op rfl rfl (ow_pick (v := .bool (decide (4 < p.mode))) rfl rfl ?_)
      exact sr_live [15, 1, 2, 3] (again _ _ ⟨_, _, rfl, H, by rw [hg] <;> rfl⟩)
    · refine sr_pass rfl (j := 3) (d := 11) rfl rfl rfl (u := true) (v := false) rfl rfl ?_
      refine sr_pass rfl (j := 3) (d := 11) rfl rfl rfl (u := true) (v := false) rfl rfl ?_
      refine sr_pass rfl (j := 3) (d := 11) rfl rfl rfl (u := true) (v := false) rfl rfl ?_
      refine sr_op rfl rfl (ow_pick (v := .bool true) rfl rfl ?_)
      exact sr_live [15, 1, 2, 3] (again _ _ ⟨_, _, rfl, H, by rw [hg] <;> rfl⟩)
  rintro _ _ ⟨r, _, rfl, H, rfl⟩
  refine sr_nil ?_
  refine st_cond ((decide (p.mode < 1)) || (decide (4 < p.mode))) rfl (fun hc3 => ?_) (fun hc3 => ?_)
  · have hno : (okMode p.mode && ((policyP p).all validB && parsesB p)) = false := by rw [mode_no hc3, Bool.false_and]
    refine st_seq ?_
    refine st_region ?_
    refine sr_op rfl rfl (ow_assign (v := .string ⟨#[]⟩) rfl ?_)
    refine sr_op rfl rfl (ow_assign (v := .int .i64 190) rfl ?_)
    refine sr_nil ?_
    refine st_ret hb (hR _ _ (.tuple #[.string ⟨#[]⟩, .int .i64 190]) (res_run (vs := [.string ⟨#[]⟩, .int .i64 190]) Tryz.results16 ⟨_, _, rfl, rfl, ⟨_, _, rfl, rfl, rfl⟩⟩) ?_)
    exact ⟨_, rfl, by rw [print_no hno], (Hp.back H hI2)⟩
  · have hmo := mode_yes hc3
    refine st_skip ?_
    refine st_seq ?_
    refine st_region ?_
    refine sr_op rfl rfl (ow_build (ps := []) (v := .agg #[.slice none 0 0]) rfl (fun _ => by kernel_rfl) ?_)
    refine sr_op rfl rfl (ow_box H (v := .agg #[.slice none 0 0]) rfl [.slice none 0 0] rfl (fun gW _ H => ?_))
    refine sr_op rfl rfl (ow_assign (v := .pointer (some ⟨gW, 0, none⟩)) rfl ?_)
    refine sr_nil ?_
    refine st_seq ?_
    refine st_region ?_
    refine sr_op rfl rfl (ow_move (v := .pointer (some ⟨gW, 0, none⟩)) rfl ?_)
    refine sr_op rfl rfl (ow_loadI (v := .agg #[.string p.name, .slice d0A1 p.kinds.length d0c1, .slice d0A2 p.offices.length d0c2, .slice d0A3 p.rules.length d0c3, .int .i64 p.change.kind, .int .i64 p.change.n, .int .i64 p.change.no, .string p.change.name, .slice d0A8 p.change.l.length d0c8, .int .i64 p.mode]) ty28 H rfl hat2 rfl rfl rfl ?_)
    have d0 := (d0.mono hI2)
    refine sr_op rfl rfl (ow_call en47 rfl (policy_c H d0 hmo hT) ?_)
    rintro _ _ ⟨Ip1, A1, n1, c1, cs1, hIp1, H, ha_⟩
    obtain ⟨Ip2, hIp2, H, hr_⟩ := Acc.done ha_ (H.perm (rowL_back [wrB gW (.slice A1 n1 c1)] (.slice A1 n1 c1) cs1 71).symm)
    have H : Hp B Ip2 _ (wrB gW (.slice A1 n1 c1) :: L) := H
    have hr_ : RepS encTk Ip2 4 (policyP p) (.slice A1 n1 c1) := hr_
    have hz_ := rep_toks hr_
    refine sr_nil ?_
    refine st_seq ?_
    refine st_seq ?_
    refine st_region ?_
    refine sr_op rfl rfl (ow_move (v := .pointer (some ⟨gW, 0, none⟩)) rfl ?_)
    refine sr_op rfl rfl (ow_nilCheck rfl ?_)
    refine sr_op rfl rfl (ow_fieldAddr fd92_0 ty67 rfl rfl (r := 0) rfl ?_)
    refine sr_op rfl rfl (ow_load (v := .slice A1 n1 c1) ty67 H rfl 0 rfl rfl rfl rfl ?_)
    have hlib := (((hlib.mono hI2).mono hIp1).mono hIp2)
    refine sr_op rfl rfl (ow_call en36 rfl (Text_c H hr_ (by omega) (fun h_ => join_bound (by omega) h_) hlib hz_) ?_)
    rintro _ _ ⟨rfl, H⟩
    refine sr_op rfl rfl (ow_move (v := .tuple #[.string ((textE (policyP p)).1), .int .i64 ((textE (policyP p)).2)]) rfl ?_)
    refine sr_op rfl rfl (ow_extract (v := .string ((textE (policyP p)).1)) rfl rfl ?_)
    refine sr_op rfl rfl (ow_extract (v := .int .i64 ((textE (policyP p)).2)) rfl rfl ?_)
    refine sr_op rfl rfl (ow_assign (v := .string ((textE (policyP p)).1)) rfl ?_)
    refine sr_op rfl rfl (ow_assign (v := .int .i64 ((textE (policyP p)).2)) rfl ?_)
    refine sr_nil ?_
    refine st_seq ?_
    refine st_region ?_
    refine sr_op rfl rfl (ow_move (v := .int .i64 ((textE (policyP p)).2)) rfl ?_)
    refine sr_op rfl rfl (ow_neq rfl rfl ?_)
    refine sr_nil ?_
    refine st_cond (!decide (((textE (policyP p)).2) = 0)) rfl (fun hc4 => ?_) (fun hc4 => ?_)
    · have hno : (okMode p.mode && ((policyP p).all validB && parsesB p)) = false := by rw [text_no (of_decide_eq_false (bnt hc4)), Bool.false_and, Bool.and_false]
      refine st_seq ?_
      refine st_region ?_
      refine sr_op rfl rfl (ow_assign (v := .string ⟨#[]⟩) rfl ?_)
      refine sr_op rfl rfl (ow_assign (v := .int .i64 190) rfl ?_)
      refine sr_nil ?_
      refine st_ret hb (hR _ _ (.tuple #[.string ⟨#[]⟩, .int .i64 190]) (res_run (vs := [.string ⟨#[]⟩, .int .i64 190]) Tryz.results16 ⟨_, _, rfl, rfl, ⟨_, _, rfl, rfl, rfl⟩⟩) ?_)
      exact ⟨_, rfl, by rw [print_no hno], (Hp.back (H.drop 1) ((hI2.trans hIp1).trans hIp2))⟩
    · have hval := text_is (of_decide_eq_true (bnf hc4))
      refine st_skip ?_
      refine st_seq ?_
      refine st_seq ?_
      refine st_region ?_
      refine sr_op rfl rfl (ow_move (v := .pointer (some ⟨gW, 0, none⟩)) rfl ?_)
      refine sr_op rfl rfl (ow_nilCheck rfl ?_)
      refine sr_op rfl rfl (ow_fieldAddr fd92_0 ty67 rfl rfl (r := 0) rfl ?_)
      refine sr_op rfl rfl (ow_load (v := .slice A1 n1 c1) ty67 H rfl 0 rfl rfl rfl rfl ?_)
      refine sr_op rfl rfl (ow_call en48 rfl (read_c H hr_ (by omega)) ?_)
      rintro _ _ ⟨Ir, usr, xr, ar, kr, hIr, H, rfl, hkr, hxr⟩
      have dr := hxr
      obtain ⟨drv1, drv2, drv3, drv8, rfl, dr_0, dr_1, dr_2, dr_3, dr_4, dr_5, dr_6, dr_7, dr_8, dr_9⟩ := po_iff.1 hxr
      obtain ⟨drA1, drc1, rfl, drm1, drM1, dr_1⟩ := RepS.open_ dr_1
      obtain ⟨drA2, drc2, rfl, drm2, drM2, dr_2⟩ := RepS.open_ dr_2
      obtain ⟨drA3, drc3, rfl, drm3, drM3, dr_3⟩ := RepS.open_ dr_3
      obtain ⟨drA8, drc8, rfl, drm8, drM8, dr_8⟩ := RepS.open_ dr_8
      refine sr_op rfl rfl (ow_move (v := .tuple #[.agg #[.string xr.name, .slice drA1 xr.kinds.length drc1, .slice drA2 xr.offices.length drc2, .slice drA3 xr.rules.length drc3, .int .i64 xr.change.kind, .int .i64 xr.change.n, .int .i64 xr.change.no, .string xr.change.name, .slice drA8 xr.change.l.length drc8, .int .i64 xr.mode], .int .i64 ar, .int .i64 kr]) rfl ?_)
      refine sr_op rfl rfl (ow_extract (v := .agg #[.string xr.name, .slice drA1 xr.kinds.length drc1, .slice drA2 xr.offices.length drc2, .slice drA3 xr.rules.length drc3, .int .i64 xr.change.kind, .int .i64 xr.change.n, .int .i64 xr.change.no, .string xr.change.name, .slice drA8 xr.change.l.length drc8, .int .i64 xr.mode]) rfl rfl ?_)
      refine sr_op rfl rfl (ow_extract (v := .int .i64 ar) rfl rfl ?_)
      refine sr_op rfl rfl (ow_extract (v := .int .i64 kr) rfl rfl ?_)
      refine sr_op rfl rfl (ow_alloc ty28 H [.string ⟨#[]⟩, .slice none 0 0, .slice none 0 0, .slice none 0 0, .int .i64 0, .int .i64 0, .int .i64 0, .string ⟨#[]⟩, .slice none 0 0, .int .i64 0] rfl (fun g5 _ H => ?_))
      refine sr_op rfl rfl (ow_store ty28 H rfl (v := .agg #[.string xr.name, .slice drA1 xr.kinds.length drc1, .slice drA2 xr.offices.length drc2, .slice drA3 xr.rules.length drc3, .int .i64 xr.change.kind, .int .i64 xr.change.n, .int .i64 xr.change.no, .string xr.change.name, .slice drA8 xr.change.l.length drc8, .int .i64 xr.mode]) rfl [.string xr.name, .slice drA1 xr.kinds.length drc1, .slice drA2 xr.offices.length drc2, .slice drA3 xr.rules.length drc3, .int .i64 xr.change.kind, .int .i64 xr.change.n, .int .i64 xr.change.no, .string xr.change.name, .slice drA8 xr.change.l.length drc8, .int .i64 xr.mode] rfl rfl rfl 0 rfl rfl (fun _ H => ?_))
      refine sr_op rfl rfl (ow_assign (v := .int .i64 ar) rfl ?_)
      refine sr_op rfl rfl (ow_assign (v := .int .i64 kr) rfl ?_)
      refine sr_nil ?_
      refine st_seq ?_
      refine st_region ?_
      refine sr_op rfl rfl (ow_move (v := .int .i64 kr) rfl ?_)
      refine sr_op rfl rfl (ow_neq rfl rfl ?_)
      refine sr_op rfl rfl (ow_move (v := .bool (!decide (kr = 0))) rfl ?_)
      refine sr_cut 5 (fun m_ w_ => ∃ (r_ : Sl) (v_ : Bool), m_ = (47, .bool v_) :: (2, .string ((textE (policyP p)).1)) :: (3, .int .i64 ((textE (policyP p)).2)) :: r_ ∧ Hp B Ir w_ ((g5, Ob [.string xr.name, .slice drA1 xr.kinds.length drc1, .slice drA2 xr.offices.length drc2, .slice drA3 xr.rules.length drc3, .int .i64 xr.change.kind, .int .i64 xr.change.n, .int .i64 xr.change.no, .string xr.change.name, .slice drA8 xr.change.l.length drc8, .int .i64 xr.mode] 28) :: wrB gW (.slice A1 n1 c1) :: L) ∧ v_ = ((!decide (kr = 0)) || (!(sameP xr p)))) (fun again => ?_) ?_
      · rcases hg : !decide (kr = 0) with _ | _
        · refine sr_want rfl (j := 2) (d := 42) rfl rfl rfl (v := false) rfl rfl (ow_load (v := .agg #[.string xr.name, .slice drA1 xr.kinds.length drc1, .slice drA2 xr.offices.length drc2, .slice drA3 xr.rules.length drc3, .int .i64 xr.change.kind, .int .i64 xr.change.n, .int .i64 xr.change.no, .string xr.change.name, .slice drA8 xr.change.l.length drc8, .int .i64 xr.mode]) ty28 H rfl 0 rfl rfl rfl rfl ?_)
          have hat2 := (((hat2.mono hIp1).mono hIp2).mono hIr)
          refine sr_want rfl (j := 2) (d := 42) rfl rfl rfl (v := false) rfl rfl (ow_loadI (v := .agg #[.string p.name, .slice d0A1 p.kinds.length d0c1, .slice d0A2 p.offices.length d0c2, .slice d0A3 p.rules.length d0c3, .int .i64 p.change.kind, .int .i64 p.change.n, .int .i64 p.change.no, .string p.change.name, .slice d0A8 p.change.l.length d0c8, .int .i64 p.mode]) ty28 H rfl hat2 rfl rfl rfl ?_)
          have d0 := (((d0.mono hIp1).mono hIp2).mono hIr)
          refine sr_want rfl (j := 2) (d := 42) rfl rfl rfl (v := false) rfl rfl (ow_call en49 rfl (same_c H dr d0) ?_)
          rintro _ _ ⟨rfl, H⟩
          refine sr_want rfl (j := 2) (d := 42) rfl rfl rfl (v := false) rfl rfl (ow_not rfl ?_)
          refine sr_op rfl rfl (ow_pick (v := .bool (!(sameP xr p))) rfl rfl ?_)
          exact sr_live [47, 2, 3] (again _ _ ⟨_, _, rfl, H, by rw [hg] <;> rfl⟩)
        · refine sr_pass rfl (j := 2) (d := 42) rfl rfl rfl (u := true) (v := false) rfl rfl ?_
          refine sr_pass rfl (j := 2) (d := 42) rfl rfl rfl (u := true) (v := false) rfl rfl ?_
          refine sr_pass rfl (j := 2) (d := 42) rfl rfl rfl (u := true) (v := false) rfl rfl ?_
          refine sr_pass rfl (j := 2) (d := 42) rfl rfl rfl (u := true) (v := false) rfl rfl ?_
          refine sr_op rfl rfl (ow_pick (v := .bool true) rfl rfl ?_)
          exact sr_live [47, 2, 3] (again _ _ ⟨_, _, rfl, H, by rw [hg] <;> rfl⟩)
      rintro _ _ ⟨r, _, rfl, H, rfl⟩
      refine sr_nil ?_
      refine st_cond ((!decide (kr = 0)) || (!(sameP xr p))) rfl (fun hc6 => ?_) (fun hc6 => ?_)
      · have hno : (okMode p.mode && ((policyP p).all validB && parsesB p)) = false := by rw [parses_read hkr, same_no' hc6, Bool.and_false, Bool.and_false]
        refine st_seq ?_
        refine st_region ?_
        refine sr_op rfl rfl (ow_assign (v := .string ⟨#[]⟩) rfl ?_)
        refine sr_op rfl rfl (ow_assign (v := .int .i64 190) rfl ?_)
        refine sr_nil ?_
        refine st_ret hb (hR _ _ (.tuple #[.string ⟨#[]⟩, .int .i64 190]) (res_run (vs := [.string ⟨#[]⟩, .int .i64 190]) Tryz.results16 ⟨_, _, rfl, rfl, ⟨_, _, rfl, rfl, rfl⟩⟩) ?_)
        exact ⟨_, rfl, by rw [print_no hno], (Hp.back (H.drop 2) (((hI2.trans hIp1).trans hIp2).trans hIr))⟩
      · have hyes : (okMode p.mode && ((policyP p).all validB && parsesB p)) = true := by rw [parses_read hkr, same_yes' hc6, hval, hmo]; rfl
        refine st_skip ?_
        refine st_seq ?_
        refine st_region ?_
        refine sr_op rfl rfl (ow_move (v := .string ((textE (policyP p)).1)) rfl ?_)
        refine sr_op rfl rfl (ow_assign (v := .string ((textE (policyP p)).1)) rfl ?_)
        refine sr_op rfl rfl (ow_assign (v := .int .i64 0) rfl ?_)
        refine sr_nil ?_
        refine st_ret hb (hR _ _ (.tuple #[.string ((textE (policyP p)).1), .int .i64 0]) (res_run (vs := [.string ((textE (policyP p)).1), .int .i64 0]) Tryz.results16 ⟨_, _, rfl, rfl, ⟨_, _, rfl, rfl, rfl⟩⟩) ?_)
        exact ⟨_, rfl, by rw [print_yes hyes, text_yes hval]; rfl, (Hp.back (H.drop 2) (((hI2.trans hIp1).trans hIp2).trans hIr))⟩
end Go.Proofs.YtghmjnbpkobooaaGreatDoor
