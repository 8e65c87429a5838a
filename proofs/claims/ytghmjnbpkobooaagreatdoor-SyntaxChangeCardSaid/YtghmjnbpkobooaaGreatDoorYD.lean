/-
  Walks: the writer: policies.
-/
import Derived.Test.YtghmjnbpkobooaaGreatDoorYC
set_option linter.unusedVariables false
set_option linter.unusedSimpArgs false
set_option maxRecDepth 10000
set_option maxHeartbeats 4000000
namespace Go.Proofs.YtghmjnbpkobooaaGreatDoor
open Go Go.RowKit

theorem policy_c {B I L w} {gW : Nat} {p : Po} {us : List Value} (H : Hp B I w (wrB gW (.slice none 0 0) :: L)) (hp : RepL I (encPo p) us) (hm : okMode p.mode = true) (hB : (policyP p).length ≤ 100000) : Calls Tryz.prog 47 #[.pointer (some ⟨gW, 0, none⟩), .agg us.toArray] w (Rt fun r w' => ∃ I' A' n' c' cs', Le I I' ∧ Hp B I' w' (wrB gW (.slice A' n' c') :: (rowL (.slice A' n' c') cs' 71 ++ L)) ∧ Acc I' 4 (.slice A' n' c') cs' ((policyP p).map encTk)) := by
  have d0 := hp
  obtain ⟨d0v1, d0v2, d0v3, d0v8, rfl, d0_0, d0_1, d0_2, d0_3, d0_4, d0_5, d0_6, d0_7, d0_8, d0_9⟩ := po_iff.1 hp
  obtain ⟨d0A1, d0c1, rfl, d0m1, d0M1, d0_1⟩ := RepS.open_ d0_1
  obtain ⟨d0A2, d0c2, rfl, d0m2, d0M2, d0_2⟩ := RepS.open_ d0_2
  obtain ⟨d0A3, d0c3, rfl, d0m3, d0M3, d0_3⟩ := RepS.open_ d0_3
  obtain ⟨d0A8, d0c8, rfl, d0m8, d0M8, d0_8⟩ := RepS.open_ d0_8
  have hoff := flat_len (f := declP wOffice) (c := 3) (l := p.offices) fun a _ => Nat.le_refl 3
  have hknd := flat_len (f := declP wKind) (c := 3) (l := p.kinds) fun a _ => Nat.le_refl 3
  have hrul := flat_len (f := ruleP) (c := 1) (l := p.rules) fun a _ => by simp [ruleP]
  have hB2 := hB
  simp only [policyP, declsP, rulesP, List.length_append] at hB2
  have H : Hp B I w (wrB gW (.slice none 0 0) :: (rowL (.slice none 0 0) [] 71 ++ L)) := H
  have ha_ : Acc I 4 (.slice none 0 0) [] (([] : List Tk).map encTk) := Acc.none_ _ _ _
  have hmr := (mode_at hm).2
  have hm5 : modesW.length = 5 := rfl
  refine calls_st (n := 89) Tryz.func47 rfl rfl rfl ?_
  intro G bF cs hb hfn hR hP
  simp only [ini]
  refine st_seq ?_
  refine st_region ?_
  refine sr_op rfl rfl (ow_box H (v := .agg #[.string p.name, .slice d0A1 p.kinds.length d0c1, .slice d0A2 p.offices.length d0c2, .slice d0A3 p.rules.length d0c3, .int .i64 p.change.kind, .int .i64 p.change.n, .int .i64 p.change.no, .string p.change.name, .slice d0A8 p.change.l.length d0c8, .int .i64 p.mode]) rfl [.string p.name, .slice d0A1 p.kinds.length d0c1, .slice d0A2 p.offices.length d0c2, .slice d0A3 p.rules.length d0c3, .int .i64 p.change.kind, .int .i64 p.change.n, .int .i64 p.change.no, .string p.change.name, .slice d0A8 p.change.l.length d0c8, .int .i64 p.mode] rfl (fun g1 _ H => ?_))
  obtain ⟨I2, hI2, H, hat2⟩ := freeze_at (L' := wrB gW (.slice none 0 0) :: (rowL (.slice none 0 0) [] 71 ++ L)) 0 rfl H rfl
  refine sr_nil ?_
  refine st_seq ?_
  refine st_draw (F := (fun w_ => ∃ Iq_, Le I2 Iq_ ∧ Hp B Iq_ w_ [wrB gW (.slice none 0 0)])) (p0 := [0, 1, 2, 3, 4, 5, 6, 8, 9, 13]) (plan := [(7, [10, 11, 12], [0, 1, 2, 3, 4, 5, 6, 8, 9, 13]), (14, [], [0]), (15, [], [])]) [] [] [(23, .iface 9 (.string ⟨#[59]⟩)), (19, .int .i64 p.mode), (18, .pointer (some ⟨g1, 0 + 9, none⟩)), (16, .iface 9 (.string ⟨#[109, 111, 100, 101]⟩)), (15, .iface 9 (.string ⟨#[59]⟩)), (14, .iface 175 (.string p.name)), (13, .string p.name), (12, .pointer (some ⟨g1, 0 + 0, none⟩)), (11, .iface 9 (.string ⟨#[112, 111, 108, 105, 99, 121]⟩)), (10, .pointer (some ⟨gW, 0, none⟩))] (by kernel_rfl) rfl ?_ ⟨_, Le.refl _, H.drew.pick [0] (by decide)⟩ ?_
  · refine ⟨kn_op rfl rfl (wantB_none rfl) fun _ hF2 => ?_, ?_⟩
    · obtain ⟨_, hle2, H2⟩ := hF2
      refine  (ow_move (v := .pointer (some ⟨gW, 0, none⟩)) rfl ?_)
      exact ⟨rfl, rfl⟩
    refine ⟨kn_op rfl rfl (wantB_none rfl) fun _ hF2 => ?_, ?_⟩
    · obtain ⟨_, hle2, H2⟩ := hF2
      refine  (ow_iface (v := .string ⟨#[112, 111, 108, 105, 99, 121]⟩) Tryz.underlying9 rfl rfl ?_)
      exact ⟨rfl, rfl⟩
    refine ⟨kn_op rfl rfl (wantB_none rfl) fun _ hF2 => ?_, ?_⟩
    · obtain ⟨_, hle2, H2⟩ := hF2
      refine  (ow_fieldAddr fd28_0 ty9 rfl rfl (r := 0 + 0) rfl ?_)
      exact ⟨rfl, rfl⟩
    refine ⟨kn_op rfl rfl (wantB_none rfl) fun _ hF2 => ?_, ?_⟩
    · obtain ⟨_, hle2, H2⟩ := hF2
      refine  (ow_loadI (v := .string p.name) ty9 H2 rfl (At.mono hle2 (At.sub (vs := [.string p.name]) hat2 0 rfl)) rfl rfl rfl ?_)
      exact ⟨rfl, rfl⟩
    refine ⟨kn_op rfl rfl (wantB_none rfl) fun _ hF2 => ?_, ?_⟩
    · obtain ⟨_, hle2, H2⟩ := hF2
      refine  (ow_iface (v := .string p.name) Tryz.underlying175 rfl rfl ?_)
      exact ⟨rfl, rfl⟩
    refine ⟨kn_op rfl rfl (wantB_none rfl) fun _ hF2 => ?_, ?_⟩
    · obtain ⟨_, hle2, H2⟩ := hF2
      refine  (ow_iface (v := .string ⟨#[59]⟩) Tryz.underlying9 rfl rfl ?_)
      exact ⟨rfl, rfl⟩
    refine ⟨kn_op rfl rfl (wantB_none rfl) fun _ hF2 => ?_, ?_⟩
    · obtain ⟨_, hle2, H2⟩ := hF2
      refine  (ow_iface (v := .string ⟨#[109, 111, 100, 101]⟩) Tryz.underlying9 rfl rfl ?_)
      exact ⟨rfl, rfl⟩
    refine ⟨kn_op rfl rfl (wantB_none rfl) fun _ hF2 => ?_, ?_⟩
    · obtain ⟨_, hle2, H2⟩ := hF2
      refine  (ow_fieldAddr fd28_5 ty3 rfl rfl (r := 0 + 9) rfl ?_)
      exact ⟨rfl, rfl⟩
    refine ⟨kn_op rfl rfl (wantB_none rfl) fun _ hF2 => ?_, ?_⟩
    · obtain ⟨_, hle2, H2⟩ := hF2
      refine  (ow_loadI (v := .int .i64 p.mode) ty3 H2 rfl (At.mono hle2 (At.sub (vs := [.int .i64 p.mode]) hat2 9 rfl)) rfl rfl rfl ?_)
      exact ⟨rfl, rfl⟩
    refine ⟨kn_op rfl rfl (wantB_none rfl) fun _ hF2 => ?_, ?_⟩
    · obtain ⟨_, hle2, H2⟩ := hF2
      refine  (ow_iface (v := .string ⟨#[59]⟩) Tryz.underlying9 rfl rfl ?_)
      exact ⟨rfl, rfl⟩
    exact trivial
  have H := H.drew
  refine cw_op rfl (wantB_none rfl) (ow_call en128 rfl (modes_c H) ?_)
  rintro _ _ ⟨Imo, vm, hImo, H, rfl, hmo⟩
  obtain ⟨m0A, m0c, rfl, m0m, m0M, m0⟩ := RepS.open_ hmo
  have hat2 := (hat2.mono hImo)
  have he3 := (mode_at hm).1
  obtain ⟨b3, o3, us3, hA3, hat3, hul3, hr3⟩ := RepS.get m0 he3
  have d3 := hr3
  obtain ⟨rfl, d3_0⟩ := s_iff.1 hr3
  refine af_some [(22, .iface 175 (.string (modeW p.mode))), (21, .string (modeW p.mode)), (20, .pointer (some ⟨b3, o3 + p.mode.toNat * 1, none⟩))] (fun w_ => ∃ Iq_, Le Imo Iq_ ∧ Hp B Iq_ w_ [wrB gW (.slice none 0 0)]) rfl ⟨_, Le.refl _, H.pick [0] (by decide)⟩ ?_ ?_
  · refine ⟨kn_op rfl rfl (wantB_none rfl) fun _ hF2 => ?_, ?_⟩
    · obtain ⟨_, hle2, H2⟩ := hF2
      refine  (ow_move (v := .pointer (some ⟨gW, 0, none⟩)) rfl ?_)
      exact ⟨rfl, rfl⟩
    refine ⟨kn_op rfl rfl (wantB_none rfl) fun _ hF2 => ?_, ?_⟩
    · obtain ⟨_, hle2, H2⟩ := hF2
      refine  (ow_iface (v := .string ⟨#[112, 111, 108, 105, 99, 121]⟩) Tryz.underlying9 rfl rfl ?_)
      exact ⟨rfl, rfl⟩
    refine ⟨kn_op rfl rfl (wantB_none rfl) fun _ hF2 => ?_, ?_⟩
    · obtain ⟨_, hle2, H2⟩ := hF2
      refine  (ow_fieldAddr fd28_0 ty9 rfl rfl (r := 0 + 0) rfl ?_)
      exact ⟨rfl, rfl⟩
    refine ⟨kn_op rfl rfl (wantB_none rfl) fun _ hF2 => ?_, ?_⟩
    · obtain ⟨_, hle2, H2⟩ := hF2
      refine  (ow_loadI (v := .string p.name) ty9 H2 rfl (At.mono hle2 (At.sub (vs := [.string p.name]) hat2 0 rfl)) rfl rfl rfl ?_)
      exact ⟨rfl, rfl⟩
    refine ⟨kn_op rfl rfl (wantB_none rfl) fun _ hF2 => ?_, ?_⟩
    · obtain ⟨_, hle2, H2⟩ := hF2
      refine  (ow_iface (v := .string p.name) Tryz.underlying175 rfl rfl ?_)
      exact ⟨rfl, rfl⟩
    refine ⟨kn_op rfl rfl (wantB_none rfl) fun _ hF2 => ?_, ?_⟩
    · obtain ⟨_, hle2, H2⟩ := hF2
      refine  (ow_iface (v := .string ⟨#[59]⟩) Tryz.underlying9 rfl rfl ?_)
      exact ⟨rfl, rfl⟩
    refine ⟨kn_op rfl rfl (wantB_none rfl) fun _ hF2 => ?_, ?_⟩
    · obtain ⟨_, hle2, H2⟩ := hF2
      refine  (ow_iface (v := .string ⟨#[109, 111, 100, 101]⟩) Tryz.underlying9 rfl rfl ?_)
      exact ⟨rfl, rfl⟩
    refine ⟨kn_op rfl rfl (wantB_none rfl) fun _ hF2 => ?_, ?_⟩
    · obtain ⟨_, hle2, H2⟩ := hF2
      refine  (ow_fieldAddr fd28_5 ty3 rfl rfl (r := 0 + 9) rfl ?_)
      exact ⟨rfl, rfl⟩
    refine ⟨kn_op rfl rfl (wantB_none rfl) fun _ hF2 => ?_, ?_⟩
    · obtain ⟨_, hle2, H2⟩ := hF2
      refine  (ow_loadI (v := .int .i64 p.mode) ty3 H2 rfl (At.mono hle2 (At.sub (vs := [.int .i64 p.mode]) hat2 9 rfl)) rfl rfl rfl ?_)
      exact ⟨rfl, rfl⟩
    refine ⟨kn_op rfl rfl (wantB_none rfl) fun _ hF2 => ?_, ?_⟩
    · obtain ⟨_, hle2, H2⟩ := hF2
      refine  (ow_iface (v := .string ⟨#[59]⟩) Tryz.underlying9 rfl rfl ?_)
      exact ⟨rfl, rfl⟩
    refine ⟨kn_op rfl rfl (wantB_none rfl) fun _ hF2 => ?_, ?_⟩
    · obtain ⟨_, hle2, H2⟩ := hF2
      refine  (ow_indexAddrA sl22 ty9 hA3 rfl rfl (by omega) (by omega) (r := o3 + p.mode.toNat * 1) rfl ?_)
      exact ⟨rfl, rfl⟩
    refine ⟨kn_op rfl rfl (wantB_none rfl) fun _ hF2 => ?_, ?_⟩
    · obtain ⟨_, hle2, H2⟩ := hF2
      refine  (ow_loadI (v := .string (modeW p.mode)) ty9 H2 rfl (At.mono hle2 hat3) rfl rfl rfl ?_)
      exact ⟨rfl, rfl⟩
    refine ⟨kn_op rfl rfl (wantB_none rfl) fun _ hF2 => ?_, ?_⟩
    · obtain ⟨_, hle2, H2⟩ := hF2
      refine  (ow_iface (v := .string (modeW p.mode)) Tryz.underlying175 rfl rfl ?_)
      exact ⟨rfl, rfl⟩
    exact trivial
  refine cw_op rfl (wantB_none rfl) (ow_buildSlice H (e := 20) (ps := [(0, .iface 9 (.string ⟨#[112, 111, 108, 105, 99, 121]⟩)), (1, .iface 175 (.string p.name)), (2, .iface 9 (.string ⟨#[59]⟩)), (3, .iface 9 (.string ⟨#[109, 111, 100, 101]⟩)), (4, .iface 175 (.string (modeW p.mode))), (5, .iface 9 (.string ⟨#[59]⟩))]) rfl [.iface 9 (.string ⟨#[112, 111, 108, 105, 99, 121]⟩), .iface 175 (.string p.name), .iface 9 (.string ⟨#[59]⟩), .iface 9 (.string ⟨#[109, 111, 100, 101]⟩), .iface 175 (.string (modeW p.mode)), .iface 9 (.string ⟨#[59]⟩)] (fun _ => by kernel_rfl) (fun g4 _ H => ?_))
  refine af_some [] (fun w_ => ∃ Iq_, Le Imo Iq_ ∧ Hp B Iq_ w_ [(g4, Ob [.iface 9 (.string ⟨#[112, 111, 108, 105, 99, 121]⟩), .iface 175 (.string p.name), .iface 9 (.string ⟨#[59]⟩), .iface 9 (.string ⟨#[109, 111, 100, 101]⟩), .iface 175 (.string (modeW p.mode)), .iface 9 (.string ⟨#[59]⟩)] 20), wrB gW (.slice none 0 0)]) rfl ⟨_, Le.refl _, H.pick [0, 1] (by decide)⟩ ?_ ?_
  · refine ⟨kn_op rfl rfl (wantB_none rfl) fun _ hF2 => ?_, ?_⟩
    · obtain ⟨_, hle2, H2⟩ := hF2
      refine  (ow_move (v := .pointer (some ⟨gW, 0, none⟩)) rfl ?_)
      exact ⟨rfl, rfl⟩
    exact trivial
  obtain ⟨I5, hI5, H, hat5⟩ := freeze_at (L' := wrB gW (.slice none 0 0) :: (rowL (.slice none 0 0) [] 71 ++ L)) 0 rfl H rfl
  have ha_ := (((ha_.mono hI2).mono hImo).mono hI5)
  have hp6 : putsP [.str wPolicy, .nam p.name, .str sSemi, .str wMode, .nam (modeW p.mode), .str sSemi] = [wrd wPolicy, wrd p.name, sgn sSemi, wrd wMode, wrd (modeW p.mode), sgn sSemi] := by simp [putsP, putP, r_wPolicy, r_sSemi, r_wMode]
  refine cw_op rfl (wantB_none rfl) (ow_call en127 rfl (put_c (items := [.str wPolicy, .nam p.name, .str sSemi, .str wMode, .nam (modeW p.mode), .str sSemi]) (write_c 0) H ha_ hat5 ⟨⟨rfl, by unfold S63; decide +kernel⟩, ⟨rfl, d0_0⟩, ⟨rfl, by unfold S63; decide +kernel⟩, ⟨rfl, by unfold S63; decide +kernel⟩, ⟨rfl, d3_0⟩, ⟨rfl, by unfold S63; decide +kernel⟩, trivial⟩ (by rw [hp6]; have hB_ := hB; simp only [policyP, headP, tailP, List.length_append, List.length_cons, List.length_nil] at hB_ ⊢; omega) (by intro p_ hp_; simp only [List.mem_cons, List.not_mem_nil, or_false] at hp_; rcases hp_ with rfl | rfl | rfl | rfl | rfl | rfl <;> first | exact Nat.zero_le _ | exact Nat.le_refl _) (by simp)) ?_)
  rintro _ _ ⟨I6, A6, n6, c6, cs6, hI6, H, ha_⟩
  rw [hp6] at ha_
  refine af_none ?_
  refine cw_nil ?_
  refine st_seq ?_
  refine st_seq ?_
  refine st_region ?_
  refine sr_op rfl rfl (ow_fieldAddr fd28_2 ty22 rfl rfl (r := 0 + 2) rfl ?_)
  have hat2 := ((hat2.mono hI5).mono hI6)
  refine sr_op rfl rfl (ow_loadI (v := .slice d0A2 p.offices.length d0c2) ty22 H rfl (At.sub (vs := [.slice d0A2 p.offices.length d0c2]) hat2 2 rfl) rfl rfl rfl ?_)
  refine sr_op rfl rfl (ow_lenS sl22 rfl rfl ?_)
  refine sr_op rfl rfl (ow_move (v := .int .i64 0) rfl ?_)
  refine sr_nil ?_
  refine st_block ?_
  refine st_loop ?_
  refine st_live [0, 3, 27, 28, 29] ?_
  refine st_ind (fun d_ m_ w_ => ∃ (i : Nat) (J7 : Im) (Aa_ : Option Addr) (na_ ca_ : Nat) (cs_ : List Value) (r_ : Sl), d_ = p.offices.length - i ∧ m_ = (0, .pointer (some ⟨gW, 0, none⟩)) :: (3, .pointer (some ⟨g1, 0, none⟩)) :: (27, .slice d0A2 p.offices.length d0c2) :: (28, .int .i64 (p.offices.length : Int)) :: (29, .int .i64 (i : Int)) :: r_ ∧ Hp B J7 w_ (wrB gW (.slice Aa_ na_ ca_) :: (rowL (.slice Aa_ na_ ca_) cs_ 71 ++ L)) ∧ Le I6 J7 ∧ Acc J7 4 (.slice Aa_ na_ ca_) cs_ ((headP p ++ declsP wOffice (p.offices.take i)).map encTk) ∧ i ≤ p.offices.length) _ ⟨0, I6, A6, n6, c6, cs6, _, rfl, rfl, H, Le.refl _, (by simpa [headP, declsP] using ha_), Nat.zero_le _⟩ ?_
  rintro _ _ _ ⟨i, J7, Aa_, na_, ca_, cs_, r8, rfl, rfl, H, hJ7, ha_, hi⟩ ih9
  have hbq : (declsP wOffice (p.offices.take i)).length ≤ (declsP wOffice p.offices).length := flat_take _ _ _
  refine st_seq ?_
  refine st_region ?_
  refine sr_op rfl rfl (ow_lss rfl rfl ?_)
  refine sr_nil ?_
  refine st_seq ?_
  refine st_cond (decide ((i : Int) < (p.offices.length : Int))) rfl (fun hc10 => ?_) (fun hc10 => ?_)
  · have hc10 := of_decide_eq_true hc10
    refine st_skip ?_
    refine st_seq ?_
    refine st_block ?_
    refine st_seq ?_
    refine st_region ?_
    have d0_2 := (((((d0_2.mono hI2).mono hImo).mono hI5).mono hI6).mono hJ7)
    obtain ⟨e11, he11⟩ : ∃ q_, p.offices[i]? = some q_ := ⟨_, List.getElem?_eq_getElem (by omega)⟩
    obtain ⟨b11, o11, us11, hA11, hat11, hul11, hr11⟩ := RepS.get d0_2 he11
    have d11 := hr11
    obtain ⟨rfl, d11_0⟩ := s_iff.1 hr11
    have hst : declsP wOffice (p.offices.take (i + 1)) = declsP wOffice (p.offices.take i) ++ [wrd wOffice, wrd e11, sgn sSemi] := flat_step _ he11
    have hbl : (declsP wOffice (p.offices.take (i + 1))).length ≤ (declsP wOffice p.offices).length := flat_take _ _ _
    rw [hst] at hbl
    simp only [List.length_append, List.length_cons, List.length_nil] at hbl
    refine sr_op rfl rfl (ow_indexAddrA sl22 ty9 hA11 rfl rfl (by omega) (by omega) (r := o11 + i * 1) rfl ?_)
    refine sr_op rfl rfl (ow_loadI (v := .string e11) ty9 H rfl hat11 rfl rfl rfl ?_)
    refine sr_op rfl rfl (ow_assign (v := .string e11) rfl ?_)
    refine sr_nil ?_
    refine st_region ?_
    refine sr_op rfl rfl (ow_move (v := .pointer (some ⟨gW, 0, none⟩)) rfl ?_)
    refine sr_op rfl rfl (ow_iface (v := .string ⟨#[111, 102, 102, 105, 99, 101]⟩) Tryz.underlying9 rfl rfl ?_)
    refine sr_op rfl rfl (ow_move (v := .string e11) rfl ?_)
    refine sr_op rfl rfl (ow_iface (v := .string e11) Tryz.underlying175 rfl rfl ?_)
    refine sr_op rfl rfl (ow_iface (v := .string ⟨#[59]⟩) Tryz.underlying9 rfl rfl ?_)
    refine sr_op rfl rfl (ow_buildSlice H (e := 20) (ps := [(0, .iface 9 (.string ⟨#[111, 102, 102, 105, 99, 101]⟩)), (1, .iface 175 (.string e11)), (2, .iface 9 (.string ⟨#[59]⟩))]) rfl [.iface 9 (.string ⟨#[111, 102, 102, 105, 99, 101]⟩), .iface 175 (.string e11), .iface 9 (.string ⟨#[59]⟩)] (fun _ => by kernel_rfl) (fun g12 _ H => ?_))
    obtain ⟨I13, hI13, H, hat13⟩ := freeze_at (L' := wrB gW (.slice Aa_ na_ ca_) :: (rowL (.slice Aa_ na_ ca_) cs_ 71 ++ L)) 0 rfl H rfl
    have ha_ := (ha_.mono hI13)
    have hp14 : putsP [.str wOffice, .nam e11, .str sSemi] = [wrd wOffice, wrd e11, sgn sSemi] := by simp [putsP, putP, r_wOffice, r_sSemi]
    refine sr_op rfl rfl (ow_call en127 rfl (put_c (items := [.str wOffice, .nam e11, .str sSemi]) (write_c 0) H ha_ hat13 ⟨⟨rfl, by unfold S63; decide +kernel⟩, ⟨rfl, d11_0⟩, ⟨rfl, by unfold S63; decide +kernel⟩, trivial⟩ (by rw [hp14]; have hB_ := hB; simp only [policyP, headP, tailP, List.length_append, List.length_cons, List.length_nil] at hB_ ⊢; omega) (by intro p_ hp_; simp only [List.mem_cons, List.not_mem_nil, or_false] at hp_; rcases hp_ with rfl | rfl | rfl <;> first | exact Nat.zero_le _ | exact Nat.le_refl _) (by simp)) ?_)
    rintro _ _ ⟨I14, A14, n14, c14, cs14, hI14, H, ha_⟩
    rw [hp14] at ha_
    refine sr_nil ?_
    refine st_inBlock ?_
    refine st_region ?_
    refine sr_op rfl rfl (ow_add (r := ((i + 1 : Nat) : Int)) rfl rfl (inc_i64 (by omega)) ?_)
    refine sr_op rfl rfl (ow_move (v := .int .i64 ((i + 1 : Nat) : Int)) rfl ?_)
    refine sr_nil ?_
    exact st_inLoop (st_live [0, 3, 27, 28, 29] (ih9 _ _ _ (by omega) ⟨i + 1, I14, _, _, _, _, _, rfl, rfl, H, (((hJ7.trans hI13).trans hI14)), (by rw [hst, ← List.append_assoc]; exact ha_), by omega⟩))
  · have hc10 := of_decide_eq_false hc10
    refine st_exit rfl ?_
    refine st_seq ?_
    refine st_seq ?_
    refine st_region ?_
    refine sr_op rfl rfl (ow_fieldAddr fd28_1 ty22 rfl rfl (r := 0 + 1) rfl ?_)
    have hat2 := (hat2.mono hJ7)
    refine sr_op rfl rfl (ow_loadI (v := .slice d0A1 p.kinds.length d0c1) ty22 H rfl (At.sub (vs := [.slice d0A1 p.kinds.length d0c1]) hat2 1 rfl) rfl rfl rfl ?_)
    refine sr_op rfl rfl (ow_lenS sl22 rfl rfl ?_)
    refine sr_op rfl rfl (ow_move (v := .int .i64 0) rfl ?_)
    refine sr_nil ?_
    refine st_block ?_
    refine st_loop ?_
    rw [List.take_of_length_le (by omega)] at ha_
    refine st_live [0, 3, 42, 43, 44] ?_
    refine st_ind (fun d_ m_ w_ => ∃ (i : Nat) (J15 : Im) (Aa_ : Option Addr) (na_ ca_ : Nat) (cs_ : List Value) (r_ : Sl), d_ = p.kinds.length - i ∧ m_ = (0, .pointer (some ⟨gW, 0, none⟩)) :: (3, .pointer (some ⟨g1, 0, none⟩)) :: (42, .slice d0A1 p.kinds.length d0c1) :: (43, .int .i64 (p.kinds.length : Int)) :: (44, .int .i64 (i : Int)) :: r_ ∧ Hp B J15 w_ (wrB gW (.slice Aa_ na_ ca_) :: (rowL (.slice Aa_ na_ ca_) cs_ 71 ++ L)) ∧ Le J7 J15 ∧ Acc J15 4 (.slice Aa_ na_ ca_) cs_ ((headP p ++ declsP wOffice p.offices ++ declsP wKind (p.kinds.take i)).map encTk) ∧ i ≤ p.kinds.length) _ ⟨0, J7, Aa_, na_, ca_, cs_, _, rfl, rfl, H, Le.refl _, (by simpa [declsP, rulesP] using ha_), Nat.zero_le _⟩ ?_
    rintro _ _ _ ⟨i, J15, Aa_, na_, ca_, cs_, r16, rfl, rfl, H, hJ15, ha_, hi⟩ ih17
    have hbq : (declsP wKind (p.kinds.take i)).length ≤ (declsP wKind p.kinds).length := flat_take _ _ _
    refine st_seq ?_
    refine st_region ?_
    refine sr_op rfl rfl (ow_lss rfl rfl ?_)
    refine sr_nil ?_
    refine st_seq ?_
    refine st_cond (decide ((i : Int) < (p.kinds.length : Int))) rfl (fun hc18 => ?_) (fun hc18 => ?_)
    · have hc18 := of_decide_eq_true hc18
      refine st_skip ?_
      refine st_seq ?_
      refine st_block ?_
      refine st_seq ?_
      refine st_region ?_
      have d0_1 := ((((((d0_1.mono hI2).mono hImo).mono hI5).mono hI6).mono hJ7).mono hJ15)
      obtain ⟨e19, he19⟩ : ∃ q_, p.kinds[i]? = some q_ := ⟨_, List.getElem?_eq_getElem (by omega)⟩
      obtain ⟨b19, o19, us19, hA19, hat19, hul19, hr19⟩ := RepS.get d0_1 he19
      have d19 := hr19
      obtain ⟨rfl, d19_0⟩ := s_iff.1 hr19
      have hst : declsP wKind (p.kinds.take (i + 1)) = declsP wKind (p.kinds.take i) ++ [wrd wKind, wrd e19, sgn sSemi] := flat_step _ he19
      have hbl : (declsP wKind (p.kinds.take (i + 1))).length ≤ (declsP wKind p.kinds).length := flat_take _ _ _
      rw [hst] at hbl
      simp only [List.length_append, List.length_cons, List.length_nil] at hbl
      refine sr_op rfl rfl (ow_indexAddrA sl22 ty9 hA19 rfl rfl (by omega) (by omega) (r := o19 + i * 1) rfl ?_)
      refine sr_op rfl rfl (ow_loadI (v := .string e19) ty9 H rfl hat19 rfl rfl rfl ?_)
      refine sr_op rfl rfl (ow_assign (v := .string e19) rfl ?_)
      refine sr_nil ?_
      refine st_region ?_
      refine sr_op rfl rfl (ow_move (v := .pointer (some ⟨gW, 0, none⟩)) rfl ?_)
      refine sr_op rfl rfl (ow_iface (v := .string ⟨#[107, 105, 110, 100]⟩) Tryz.underlying9 rfl rfl ?_)
      refine sr_op rfl rfl (ow_move (v := .string e19) rfl ?_)
      refine sr_op rfl rfl (ow_iface (v := .string e19) Tryz.underlying175 rfl rfl ?_)
      refine sr_op rfl rfl (ow_iface (v := .string ⟨#[59]⟩) Tryz.underlying9 rfl rfl ?_)
      refine sr_op rfl rfl (ow_buildSlice H (e := 20) (ps := [(0, .iface 9 (.string ⟨#[107, 105, 110, 100]⟩)), (1, .iface 175 (.string e19)), (2, .iface 9 (.string ⟨#[59]⟩))]) rfl [.iface 9 (.string ⟨#[107, 105, 110, 100]⟩), .iface 175 (.string e19), .iface 9 (.string ⟨#[59]⟩)] (fun _ => by kernel_rfl) (fun g20 _ H => ?_))
      obtain ⟨I21, hI21, H, hat21⟩ := freeze_at (L' := wrB gW (.slice Aa_ na_ ca_) :: (rowL (.slice Aa_ na_ ca_) cs_ 71 ++ L)) 0 rfl H rfl
      have ha_ := (ha_.mono hI21)
      have hp22 : putsP [.str wKind, .nam e19, .str sSemi] = [wrd wKind, wrd e19, sgn sSemi] := by simp [putsP, putP, r_wKind, r_sSemi]
      refine sr_op rfl rfl (ow_call en127 rfl (put_c (items := [.str wKind, .nam e19, .str sSemi]) (write_c 0) H ha_ hat21 ⟨⟨rfl, by unfold S63; decide +kernel⟩, ⟨rfl, d19_0⟩, ⟨rfl, by unfold S63; decide +kernel⟩, trivial⟩ (by rw [hp22]; have hB_ := hB; simp only [policyP, headP, tailP, List.length_append, List.length_cons, List.length_nil] at hB_ ⊢; omega) (by intro p_ hp_; simp only [List.mem_cons, List.not_mem_nil, or_false] at hp_; rcases hp_ with rfl | rfl | rfl <;> first | exact Nat.zero_le _ | exact Nat.le_refl _) (by simp)) ?_)
      rintro _ _ ⟨I22, A22, n22, c22, cs22, hI22, H, ha_⟩
      rw [hp22] at ha_
      refine sr_nil ?_
      refine st_inBlock ?_
      refine st_region ?_
      refine sr_op rfl rfl (ow_add (r := ((i + 1 : Nat) : Int)) rfl rfl (inc_i64 (by omega)) ?_)
      refine sr_op rfl rfl (ow_move (v := .int .i64 ((i + 1 : Nat) : Int)) rfl ?_)
      refine sr_nil ?_
      exact st_inLoop (st_live [0, 3, 42, 43, 44] (ih17 _ _ _ (by omega) ⟨i + 1, I22, _, _, _, _, _, rfl, rfl, H, (((hJ15.trans hI21).trans hI22)), (by rw [hst, ← List.append_assoc]; exact ha_), by omega⟩))
    · have hc18 := of_decide_eq_false hc18
      refine st_exit rfl ?_
      refine st_seq ?_
      refine st_seq ?_
      refine st_region ?_
      refine sr_op rfl rfl (ow_fieldAddr fd28_3 ty23 rfl rfl (r := 0 + 3) rfl ?_)
      have hat2 := (hat2.mono hJ15)
      refine sr_op rfl rfl (ow_loadI (v := .slice d0A3 p.rules.length d0c3) ty23 H rfl (At.sub (vs := [.slice d0A3 p.rules.length d0c3]) hat2 3 rfl) rfl rfl rfl ?_)
      refine sr_op rfl rfl (ow_lenS sl23 rfl rfl ?_)
      refine sr_op rfl rfl (ow_move (v := .int .i64 0) rfl ?_)
      refine sr_nil ?_
      refine st_block ?_
      refine st_loop ?_
      rw [List.take_of_length_le (by omega)] at ha_
      refine st_live [0, 3, 57, 58, 59] ?_
      refine st_ind (fun d_ m_ w_ => ∃ (i : Nat) (J23 : Im) (Aa_ : Option Addr) (na_ ca_ : Nat) (cs_ : List Value) (r_ : Sl), d_ = p.rules.length - i ∧ m_ = (0, .pointer (some ⟨gW, 0, none⟩)) :: (3, .pointer (some ⟨g1, 0, none⟩)) :: (57, .slice d0A3 p.rules.length d0c3) :: (58, .int .i64 (p.rules.length : Int)) :: (59, .int .i64 (i : Int)) :: r_ ∧ Hp B J23 w_ (wrB gW (.slice Aa_ na_ ca_) :: (rowL (.slice Aa_ na_ ca_) cs_ 71 ++ L)) ∧ Le J15 J23 ∧ Acc J23 4 (.slice Aa_ na_ ca_) cs_ ((headP p ++ declsP wOffice p.offices ++ declsP wKind p.kinds ++ rulesP (p.rules.take i)).map encTk) ∧ i ≤ p.rules.length) _ ⟨0, J15, Aa_, na_, ca_, cs_, _, rfl, rfl, H, Le.refl _, (by simpa [declsP, rulesP] using ha_), Nat.zero_le _⟩ ?_
      rintro _ _ _ ⟨i, J23, Aa_, na_, ca_, cs_, r24, rfl, rfl, H, hJ23, ha_, hi⟩ ih25
      have hbq : (rulesP (p.rules.take i)).length ≤ (rulesP p.rules).length := flat_take _ _ _
      refine st_seq ?_
      refine st_region ?_
      refine sr_op rfl rfl (ow_lss rfl rfl ?_)
      refine sr_nil ?_
      refine st_seq ?_
      refine st_cond (decide ((i : Int) < (p.rules.length : Int))) rfl (fun hc26 => ?_) (fun hc26 => ?_)
      · have hc26 := of_decide_eq_true hc26
        refine st_skip ?_
        refine st_seq ?_
        refine st_block ?_
        refine st_seq ?_
        refine st_region ?_
        have d0_3 := (((((((d0_3.mono hI2).mono hImo).mono hI5).mono hI6).mono hJ7).mono hJ15).mono hJ23)
        obtain ⟨e27, he27⟩ : ∃ q_, p.rules[i]? = some q_ := ⟨_, List.getElem?_eq_getElem (by omega)⟩
        obtain ⟨b27, o27, us27, hA27, hat27, hul27, hr27⟩ := RepS.get d0_3 he27
        have d27 := hr27
        obtain ⟨d27v7, rfl, d27_0, d27_1, d27_2, d27_3, d27_4, d27_5, d27_6, d27_7⟩ := ru_iff.1 hr27
        obtain ⟨d27A7, d27c7, rfl, d27m7, d27M7, d27_7⟩ := RepS.open_ d27_7
        have hst : rulesP (p.rules.take (i + 1)) = rulesP (p.rules.take i) ++ ([wrd wRule, wrd e27.kind, wrd wThink, num e27.think, sgn sEq] ++ exprP e27.expr ++ [sgn sSemi]) := flat_step _ he27
        have hbl : (rulesP (p.rules.take (i + 1))).length ≤ (rulesP p.rules).length := flat_take _ _ _
        rw [hst] at hbl
        simp only [List.length_append, List.length_cons, List.length_nil] at hbl
        refine sr_op rfl rfl (ow_indexAddrA sl23 ty84 hA27 rfl rfl (by omega) (by omega) (r := o27 + i * 8) rfl ?_)
        refine sr_op rfl rfl (ow_loadI (v := .agg #[.string e27.kind, .int .i64 e27.kindNo, .int .i64 e27.think, .int .i64 e27.expr.kind, .int .i64 e27.expr.n, .int .i64 e27.expr.no, .string e27.expr.name, .slice d27A7 e27.expr.l.length d27c7]) ty84 H rfl hat27 rfl rfl rfl ?_)
        refine sr_op rfl rfl (ow_alloc ty84 H [.string ⟨#[]⟩, .int .i64 0, .int .i64 0, .int .i64 0, .int .i64 0, .int .i64 0, .string ⟨#[]⟩, .slice none 0 0] rfl (fun g28 _ H => ?_))
        refine sr_op rfl rfl (ow_store ty84 H rfl (v := .agg #[.string e27.kind, .int .i64 e27.kindNo, .int .i64 e27.think, .int .i64 e27.expr.kind, .int .i64 e27.expr.n, .int .i64 e27.expr.no, .string e27.expr.name, .slice d27A7 e27.expr.l.length d27c7]) rfl [.string e27.kind, .int .i64 e27.kindNo, .int .i64 e27.think, .int .i64 e27.expr.kind, .int .i64 e27.expr.n, .int .i64 e27.expr.no, .string e27.expr.name, .slice d27A7 e27.expr.l.length d27c7] rfl rfl rfl 0 rfl rfl (fun _ H => ?_))
        obtain ⟨I29, hI29, H, hat29⟩ := freeze_at (L' := wrB gW (.slice Aa_ na_ ca_) :: (rowL (.slice Aa_ na_ ca_) cs_ 71 ++ L)) 0 rfl H rfl
        refine sr_nil ?_
        refine st_region ?_
        refine sr_op rfl rfl (ow_move (v := .pointer (some ⟨gW, 0, none⟩)) rfl ?_)
        refine sr_op rfl rfl (ow_iface (v := .string ⟨#[114, 117, 108, 101]⟩) Tryz.underlying9 rfl rfl ?_)
        refine sr_op rfl rfl (ow_fieldAddr fd84_0 ty9 rfl rfl (r := 0 + 0) rfl ?_)
        refine sr_op rfl rfl (ow_loadI (v := .string e27.kind) ty9 H rfl (At.sub (vs := [.string e27.kind]) hat29 0 rfl) rfl rfl rfl ?_)
        refine sr_op rfl rfl (ow_iface (v := .string e27.kind) Tryz.underlying175 rfl rfl ?_)
        refine sr_op rfl rfl (ow_iface (v := .string ⟨#[116, 104, 105, 110, 107]⟩) Tryz.underlying9 rfl rfl ?_)
        refine sr_op rfl rfl (ow_fieldAddr fd84_2 ty3 rfl rfl (r := 0 + 2) rfl ?_)
        refine sr_op rfl rfl (ow_loadI (v := .int .i64 e27.think) ty3 H rfl (At.sub (vs := [.int .i64 e27.think]) hat29 2 rfl) rfl rfl rfl ?_)
        refine sr_op rfl rfl (ow_iface (v := .int .i64 e27.think) Tryz.underlying3 rfl rfl ?_)
        refine sr_op rfl rfl (ow_iface (v := .string ⟨#[61]⟩) Tryz.underlying9 rfl rfl ?_)
        refine sr_op rfl rfl (ow_fieldAddr fd84_3 ty26 rfl rfl (r := 0 + 3) rfl ?_)
        refine sr_op rfl rfl (ow_loadI (v := .agg #[.int .i64 e27.expr.kind, .int .i64 e27.expr.n, .int .i64 e27.expr.no, .string e27.expr.name, .slice d27A7 e27.expr.l.length d27c7]) ty26 H rfl (At.sub (vs := [.int .i64 e27.expr.kind, .int .i64 e27.expr.n, .int .i64 e27.expr.no, .string e27.expr.name, .slice d27A7 e27.expr.l.length d27c7]) hat29 3 rfl) rfl rfl rfl ?_)
        refine sr_op rfl rfl (ow_iface (v := .agg #[.int .i64 e27.expr.kind, .int .i64 e27.expr.n, .int .i64 e27.expr.no, .string e27.expr.name, .slice d27A7 e27.expr.l.length d27c7]) Tryz.underlying26 rfl rfl ?_)
        refine sr_op rfl rfl (ow_iface (v := .string ⟨#[59]⟩) Tryz.underlying9 rfl rfl ?_)
        refine sr_op rfl rfl (ow_buildSlice H (e := 20) (ps := [(0, .iface 9 (.string ⟨#[114, 117, 108, 101]⟩)), (1, .iface 175 (.string e27.kind)), (2, .iface 9 (.string ⟨#[116, 104, 105, 110, 107]⟩)), (3, .iface 3 (.int .i64 e27.think)), (4, .iface 9 (.string ⟨#[61]⟩)), (5, .iface 26 (.agg #[.int .i64 e27.expr.kind, .int .i64 e27.expr.n, .int .i64 e27.expr.no, .string e27.expr.name, .slice d27A7 e27.expr.l.length d27c7])), (6, .iface 9 (.string ⟨#[59]⟩))]) rfl [.iface 9 (.string ⟨#[114, 117, 108, 101]⟩), .iface 175 (.string e27.kind), .iface 9 (.string ⟨#[116, 104, 105, 110, 107]⟩), .iface 3 (.int .i64 e27.think), .iface 9 (.string ⟨#[61]⟩), .iface 26 (.agg #[.int .i64 e27.expr.kind, .int .i64 e27.expr.n, .int .i64 e27.expr.no, .string e27.expr.name, .slice d27A7 e27.expr.l.length d27c7]), .iface 9 (.string ⟨#[59]⟩)] (fun _ => by kernel_rfl) (fun g30 _ H => ?_))
        obtain ⟨I31, hI31, H, hat31⟩ := freeze_at (L' := wrB gW (.slice Aa_ na_ ca_) :: (rowL (.slice Aa_ na_ ca_) cs_ 71 ++ L)) 0 rfl H rfl
        have d27_7 := ((d27_7.mono hI29).mono hI31)
        have ha_ := ((ha_.mono hI29).mono hI31)
        have hp32 : putsP [.str wRule, .nam e27.kind, .str wThink, .int e27.think, .str sEq, .ex e27.expr, .str sSemi] = [wrd wRule, wrd e27.kind, wrd wThink, num e27.think, sgn sEq] ++ exprP e27.expr ++ [sgn sSemi] := by simp [putsP, putP, r_wRule, r_wThink, r_sEq, r_sSemi]
        refine sr_op rfl rfl (ow_call en127 rfl (put_c (items := [.str wRule, .nam e27.kind, .str wThink, .int e27.think, .str sEq, .ex e27.expr, .str sSemi]) (write_c e27.expr.pc) H ha_ hat31 ⟨⟨rfl, by unfold S63; decide +kernel⟩, ⟨rfl, d27_0⟩, ⟨rfl, by unfold S63; decide +kernel⟩, ⟨rfl, d27_2⟩, ⟨rfl, by unfold S63; decide +kernel⟩, ⟨_, rfl, (ex_iff.2 ⟨_, rfl, d27_3, d27_4, d27_5, d27_6, d27_7⟩)⟩, ⟨rfl, by unfold S63; decide +kernel⟩, trivial⟩ (by rw [hp32]; have hB_ := hB; simp only [policyP, headP, tailP, List.length_append, List.length_cons, List.length_nil] at hB_ ⊢; omega) (by intro p_ hp_; simp only [List.mem_cons, List.not_mem_nil, or_false] at hp_; rcases hp_ with rfl | rfl | rfl | rfl | rfl | rfl | rfl <;> first | exact Nat.zero_le _ | exact Nat.le_refl _) (by simp)) ?_)
        rintro _ _ ⟨I32, A32, n32, c32, cs32, hI32, H, ha_⟩
        rw [hp32] at ha_
        refine sr_nil ?_
        refine st_inBlock ?_
        refine st_region ?_
        refine sr_op rfl rfl (ow_add (r := ((i + 1 : Nat) : Int)) rfl rfl (inc_i64 (by omega)) ?_)
        refine sr_op rfl rfl (ow_move (v := .int .i64 ((i + 1 : Nat) : Int)) rfl ?_)
        refine sr_nil ?_
        exact st_inLoop (st_live [0, 3, 57, 58, 59] (ih25 _ _ _ (by omega) ⟨i + 1, I32, _, _, _, _, _, rfl, rfl, H, ((((hJ23.trans hI29).trans hI31).trans hI32)), (by rw [hst, ← List.append_assoc]; exact ha_), by omega⟩))
      · have hc26 := of_decide_eq_false hc26
        refine st_exit rfl ?_
        refine st_region ?_
        refine sr_op rfl rfl (ow_move (v := .pointer (some ⟨gW, 0, none⟩)) rfl ?_)
        refine sr_op rfl rfl (ow_iface (v := .string ⟨#[99, 104, 97, 110, 103, 101]⟩) Tryz.underlying9 rfl rfl ?_)
        refine sr_op rfl rfl (ow_iface (v := .string ⟨#[61]⟩) Tryz.underlying9 rfl rfl ?_)
        refine sr_op rfl rfl (ow_fieldAddr fd28_4 ty26 rfl rfl (r := 0 + 4) rfl ?_)
        have hat2 := (hat2.mono hJ23)
        refine sr_op rfl rfl (ow_loadI (v := .agg #[.int .i64 p.change.kind, .int .i64 p.change.n, .int .i64 p.change.no, .string p.change.name, .slice d0A8 p.change.l.length d0c8]) ty26 H rfl (At.sub (vs := [.int .i64 p.change.kind, .int .i64 p.change.n, .int .i64 p.change.no, .string p.change.name, .slice d0A8 p.change.l.length d0c8]) hat2 4 rfl) rfl rfl rfl ?_)
        refine sr_op rfl rfl (ow_iface (v := .agg #[.int .i64 p.change.kind, .int .i64 p.change.n, .int .i64 p.change.no, .string p.change.name, .slice d0A8 p.change.l.length d0c8]) Tryz.underlying26 rfl rfl ?_)
        refine sr_op rfl rfl (ow_iface (v := .string ⟨#[59]⟩) Tryz.underlying9 rfl rfl ?_)
        refine sr_op rfl rfl (ow_buildSlice H (e := 20) (ps := [(0, .iface 9 (.string ⟨#[99, 104, 97, 110, 103, 101]⟩)), (1, .iface 9 (.string ⟨#[61]⟩)), (2, .iface 26 (.agg #[.int .i64 p.change.kind, .int .i64 p.change.n, .int .i64 p.change.no, .string p.change.name, .slice d0A8 p.change.l.length d0c8])), (3, .iface 9 (.string ⟨#[59]⟩))]) rfl [.iface 9 (.string ⟨#[99, 104, 97, 110, 103, 101]⟩), .iface 9 (.string ⟨#[61]⟩), .iface 26 (.agg #[.int .i64 p.change.kind, .int .i64 p.change.n, .int .i64 p.change.no, .string p.change.name, .slice d0A8 p.change.l.length d0c8]), .iface 9 (.string ⟨#[59]⟩)] (fun _ => by kernel_rfl) (fun g33 _ H => ?_))
        obtain ⟨I34, hI34, H, hat34⟩ := freeze_at (L' := wrB gW (.slice Aa_ na_ ca_) :: (rowL (.slice Aa_ na_ ca_) cs_ 71 ++ L)) 0 rfl H rfl
        have d0_8 := ((((((((d0_8.mono hI2).mono hImo).mono hI5).mono hI6).mono hJ7).mono hJ15).mono hJ23).mono hI34)
        have ha_ := (ha_.mono hI34)
        have hp35 : putsP [.str wChange, .str sEq, .ex p.change, .str sSemi] = [wrd wChange, sgn sEq] ++ exprP p.change ++ [sgn sSemi] := by simp [putsP, putP, r_wChange, r_sEq, r_sSemi]
        refine sr_op rfl rfl (ow_call en127 rfl (put_c (items := [.str wChange, .str sEq, .ex p.change, .str sSemi]) (write_c p.change.pc) H ha_ hat34 ⟨⟨rfl, by unfold S63; decide +kernel⟩, ⟨rfl, by unfold S63; decide +kernel⟩, ⟨_, rfl, (ex_iff.2 ⟨_, rfl, d0_4, d0_5, d0_6, d0_7, d0_8⟩)⟩, ⟨rfl, by unfold S63; decide +kernel⟩, trivial⟩ (by rw [hp35]; have hB_ := hB; simp only [policyP, headP, tailP, List.length_append, List.length_cons, List.length_nil] at hB_ ⊢; omega) (by intro p_ hp_; simp only [List.mem_cons, List.not_mem_nil, or_false] at hp_; rcases hp_ with rfl | rfl | rfl | rfl <;> first | exact Nat.zero_le _ | exact Nat.le_refl _) (by simp)) ?_)
        rintro _ _ ⟨I35, A35, n35, c35, cs35, hI35, H, ha_⟩
        rw [hp35] at ha_
        refine sr_nil ?_
        refine st_end hb (hR _ _ (.tuple #[]) (res_run (vs := []) Tryz.results47 rfl) ?_)
        rw [List.take_of_length_le (by omega)] at ha_
        exact ⟨_, rfl, I35, _, _, _, _, ((((((((hI2.trans hImo).trans hI5).trans hI6).trans hJ7).trans hJ15).trans hJ23).trans hI34).trans hI35), H, by rw [policyP, tailP]; exact ha_⟩
end Go.Proofs.YtghmjnbpkobooaaGreatDoor
