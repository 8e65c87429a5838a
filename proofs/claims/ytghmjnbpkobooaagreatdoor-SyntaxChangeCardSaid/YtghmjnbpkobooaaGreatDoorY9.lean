/-
  Walks: the parser: rules, and the parts of a source.
-/
import Derived.Test.YtghmjnbpkobooaaGreatDoorY8
set_option linter.unusedVariables false
set_option linter.unusedSimpArgs false
set_option maxRecDepth 10000
set_option maxHeartbeats 4000000
namespace Go.Proofs.YtghmjnbpkobooaaGreatDoor
open Go Go.RowKit

theorem ru_of {I : Im} {k : ByteArray} {kn th : Int} {x : Ex} {us : List Value} (h1 : S63 k) (h2 : I64 kn) (h3 : I64 th) (h : RepL I (encEx x) us) : RepL I (encRu ⟨k, kn, th, x⟩) (.string k :: .int .i64 kn :: .int .i64 th :: us) := by
  simp only [encRu, RepL, Rep.eq_4, Rep.eq_1]
  exact ⟨_, _, rfl, ⟨rfl, h1⟩, _, _, rfl, ⟨rfl, h2⟩, _, _, rfl, ⟨rfl, h3⟩, h⟩
theorem headT_eq (l : List Tk) : headT l = (wantsT [wPolicy] l).go fun _ l => (nameT l).go fun s l => (wantsT [sSemi, wMode] l).go fun _ l => (modeT l).go fun m l => (wantsT [sSemi] l).go fun _ l => .ok (s, m) l := rfl
theorem modeT_eq (l : List Tk) : modeT l = if isT wOld l = true then .ok 1 l.tail else if isT wNew l = true then .ok 2 l.tail else if isT wBoth l = true then .ok 3 l.tail else if isT wEither l = true then .ok 4 l.tail else .bad l := rfl
theorem namesT_eq (f : Nat) (l : List Tk) : namesT f l = (manyT wOffice (declT wOffice) f l).go fun o l => (manyT wKind (declT wKind) f l).go fun k l => .ok (o, k) l := rfl
theorem rulesT_eq (f : Nat) (l : List Tk) : rulesT f l = (manyT wRule (ruleT f) f l).go fun rs l => (wantsT [wChange, sEq] l).go fun _ l => (exprT f l).go fun c l => (wantsT [sSemi] l).go fun _ l => .ok (rs, c) l := rfl
theorem rule_c {B I L w} {f : Nat} {gP : Nat} {e : Int} {q0 q1 q2 q3 q4 q5 q6 q7 q8 q9 : Value} {l : List Tk} {v : Value} (H : Hp B I w (paB gP v e q0 q1 q2 q3 q4 q5 q6 q7 q8 q9 :: L)) (hl : RepS encTk I 4 l v) (hf : l.length ≤ f) (hF : f ≤ 200000) : Calls Tryz.prog 218 #[.pointer (some ⟨gP, 0, none⟩)] w (Rp (fun r w' => ∃ I' x us l' v', Le I I' ∧ ruleT f l = .ok x l' ∧ r = .agg us.toArray ∧ RepL I' (encRu x) us ∧ RepS encTk I' 4 l' v' ∧ Hp B I' w' (paB gP v' e q0 q1 q2 q3 q4 q5 q6 q7 q8 q9 :: L)) (fun ch w' => badP B I gP e L (ruleT f l) ch w')) := by
  have hT := ruleT_eq f l
  refine calls_st (n := 25) Tryz.func218 rfl rfl rfl ?_
  intro G bF cs hb hfn hR hP
  simp only [ini]
  refine st_seq ?_
  refine st_region ?_
  refine sr_op rfl rfl (ow_alloc ty84 H [.string ⟨#[]⟩, .int .i64 0, .int .i64 0, .int .i64 0, .int .i64 0, .int .i64 0, .string ⟨#[]⟩, .slice none 0 0] rfl (fun g1 _ H => ?_))
  refine sr_nil ?_
  refine st_seq ?_
  refine st_region ?_
  refine sr_op rfl rfl (ow_move (v := .pointer (some ⟨gP, 0, none⟩)) rfl ?_)
  refine sr_op rfl rfl (ow_buildSlice H (e := 9) (ps := [(0, .string ⟨#[114, 117, 108, 101]⟩)]) rfl [.string ⟨#[114, 117, 108, 101]⟩] (fun _ => by kernel_rfl) (fun g2 _ H => ?_))
  obtain ⟨I3, hI3, H, hl3⟩ := lit_done (enc := encS) (sz := 1) (n := 1) [wRule] rfl (by omega) H ⟨((s_iff (s := wRule)).2 ⟨rfl, by unfold S63; decide +kernel⟩), rfl, rfl⟩
  have H : Hp B I3 _ (paB gP v e q0 q1 q2 q3 q4 q5 q6 q7 q8 q9 :: (g1, Ob [.string ⟨#[]⟩, .int .i64 0, .int .i64 0, .int .i64 0, .int .i64 0, .int .i64 0, .string ⟨#[]⟩, .slice none 0 0] 84) :: L) := Hp.front 1 rfl H
  have hl := (hl.mono hI3)
  refine sr_op rfl rfl (ow_callp en212 rfl (want_c H hl (ws := [wRule]) hl3) ?_ ?_)
  rotate_left
  · rintro ch_ w_ hb_
    exact (hP _ _ (badP.fin hb_ hT hI3 (List.Sublist.trans (List.Sublist.refl _) (List.sublist_append_right [(g1, Ob [.string ⟨#[]⟩, .int .i64 0, .int .i64 0, .int .i64 0, .int .i64 0, .int .i64 0, .string ⟨#[]⟩, .slice none 0 0] 84)] _)))).one
  rintro _ _ ⟨l4, v4, hk_, hl4, H⟩
  rw [hk_, go_ok_] at hT
  have hw4 := hk_
  have hz5 := want_less hw4
  refine sr_nil ?_
  refine st_seq ?_
  refine st_region ?_
  refine sr_op rfl rfl (ow_move (v := .pointer (some ⟨gP, 0, none⟩)) rfl ?_)
  refine sr_op rfl rfl (ow_callp en213 rfl (name_pc H hl4) ?_ ?_)
  rotate_left
  · rintro ch_ w_ hb_
    exact (hP _ _ (badP.fin hb_ hT hI3 (List.Sublist.trans (List.Sublist.refl _) (List.sublist_append_right [(g1, Ob [.string ⟨#[]⟩, .int .i64 0, .int .i64 0, .int .i64 0, .int .i64 0, .int .i64 0, .string ⟨#[]⟩, .slice none 0 0] 84)] _)))).one
  rintro _ _ ⟨s6, l6, v6, hk_, rfl, hs6, hl6, H⟩
  rw [hk_, go_ok_] at hT
  have hk6 := hk_
  have hz7 := name_less hk_
  refine sr_op rfl rfl (ow_fieldAddr fd84_0 ty9 rfl rfl (r := 0) rfl ?_)
  refine sr_op rfl rfl (ow_store ty9 H rfl (v := .string s6) rfl [.string s6] rfl rfl rfl 1 rfl rfl (fun _ H => ?_))
  refine sr_nil ?_
  refine st_seq ?_
  refine st_region ?_
  refine sr_op rfl rfl (ow_move (v := .pointer (some ⟨gP, 0, none⟩)) rfl ?_)
  refine sr_op rfl rfl (ow_buildSlice H (e := 9) (ps := [(0, .string ⟨#[116, 104, 105, 110, 107]⟩)]) rfl [.string ⟨#[116, 104, 105, 110, 107]⟩] (fun _ => by kernel_rfl) (fun g8 _ H => ?_))
  obtain ⟨I9, hI9, H, hl9⟩ := lit_done (enc := encS) (sz := 1) (n := 1) [wThink] rfl (by omega) H ⟨((s_iff (s := wThink)).2 ⟨rfl, by unfold S63; decide +kernel⟩), rfl, rfl⟩
  have hl6 := (hl6.mono hI9)
  refine sr_op rfl rfl (ow_callp en212 rfl (want_c H hl6 (ws := [wThink]) hl9) ?_ ?_)
  rotate_left
  · rintro ch_ w_ hb_
    exact (hP _ _ (badP.fin hb_ hT (hI3.trans hI9) (List.Sublist.trans (List.Sublist.refl _) (List.sublist_append_right [(g1, Ob [.string s6, .int .i64 0, .int .i64 0, .int .i64 0, .int .i64 0, .int .i64 0, .string ⟨#[]⟩, .slice none 0 0] 84)] _)))).one
  rintro _ _ ⟨l10, v10, hk_, hl10, H⟩
  rw [hk_, go_ok_] at hT
  have hw10 := hk_
  have hz11 := want_less hw10
  refine sr_nil ?_
  refine st_seq ?_
  refine st_region ?_
  refine sr_op rfl rfl (ow_move (v := .pointer (some ⟨gP, 0, none⟩)) rfl ?_)
  refine sr_op rfl rfl (ow_callp en269 rfl (number_pc H hl10) ?_ ?_)
  rotate_left
  · rintro ch_ w_ hb_
    exact (hP _ _ (badP.fin hb_ hT (hI3.trans hI9) (List.Sublist.trans (List.Sublist.refl _) (List.sublist_append_right [(g1, Ob [.string s6, .int .i64 0, .int .i64 0, .int .i64 0, .int .i64 0, .int .i64 0, .string ⟨#[]⟩, .slice none 0 0] 84)] _)))).one
  rintro _ _ ⟨n12, l12, v12, hk_, rfl, hn12, hl12, H⟩
  rw [hk_, go_ok_] at hT
  have hk12 := hk_
  have hz13 := num_less hk_
  refine sr_op rfl rfl (ow_fieldAddr fd84_2 ty3 rfl rfl (r := 2) rfl ?_)
  refine sr_op rfl rfl (ow_store ty3 H rfl (v := .int .i64 n12) rfl [.int .i64 n12] rfl rfl rfl 1 rfl rfl (fun _ H => ?_))
  refine sr_nil ?_
  refine st_seq ?_
  refine st_region ?_
  refine sr_op rfl rfl (ow_move (v := .pointer (some ⟨gP, 0, none⟩)) rfl ?_)
  refine sr_op rfl rfl (ow_buildSlice H (e := 9) (ps := [(0, .string ⟨#[61]⟩)]) rfl [.string ⟨#[61]⟩] (fun _ => by kernel_rfl) (fun g14 _ H => ?_))
  obtain ⟨I15, hI15, H, hl15⟩ := lit_done (enc := encS) (sz := 1) (n := 1) [sEq] rfl (by omega) H ⟨((s_iff (s := sEq)).2 ⟨rfl, by unfold S63; decide +kernel⟩), rfl, rfl⟩
  have hl12 := (hl12.mono hI15)
  refine sr_op rfl rfl (ow_callp en212 rfl (want_c H hl12 (ws := [sEq]) hl15) ?_ ?_)
  rotate_left
  · rintro ch_ w_ hb_
    exact (hP _ _ (badP.fin hb_ hT ((hI3.trans hI9).trans hI15) (List.Sublist.trans (List.Sublist.refl _) (List.sublist_append_right [(g1, Ob [.string s6, .int .i64 0, .int .i64 n12, .int .i64 0, .int .i64 0, .int .i64 0, .string ⟨#[]⟩, .slice none 0 0] 84)] _)))).one
  rintro _ _ ⟨l16, v16, hk_, hl16, H⟩
  rw [hk_, go_ok_] at hT
  have hw16 := hk_
  have hz17 := want_less hw16
  refine sr_nil ?_
  refine st_seq ?_
  refine st_region ?_
  refine sr_op rfl rfl (ow_move (v := .pointer (some ⟨gP, 0, none⟩)) rfl ?_)
  refine sr_op rfl rfl (ow_callp en219 rfl (expr_c f H hl16 (by omega) hF) ?_ ?_)
  rotate_left
  · rintro ch_ w_ hb_
    exact (hP _ _ (badP.fin hb_ hT ((hI3.trans hI9).trans hI15) (List.Sublist.trans (List.Sublist.refl _) (List.sublist_append_right [(g1, Ob [.string s6, .int .i64 0, .int .i64 n12, .int .i64 0, .int .i64 0, .int .i64 0, .string ⟨#[]⟩, .slice none 0 0] 84)] _)))).one
  rintro _ _ ⟨I18, x18, us18, l18, v18, hI18, hk_, rfl, hx18, hl18, H⟩
  rw [hk_, go_ok_] at hT
  have hz19 := (gp_expr f).lok hk_
  have d18 := hx18
  obtain ⟨d18v4, rfl, d18_0, d18_1, d18_2, d18_3, d18_4⟩ := ex_iff.1 hx18
  obtain ⟨d18A4, d18c4, rfl, d18m4, d18M4, d18_4⟩ := RepS.open_ d18_4
  refine sr_op rfl rfl (ow_fieldAddr fd84_3 ty26 rfl rfl (r := 3) rfl ?_)
  refine sr_op rfl rfl (ow_store ty26 H rfl (v := .agg #[.int .i64 x18.kind, .int .i64 x18.n, .int .i64 x18.no, .string x18.name, .slice d18A4 x18.l.length d18c4]) rfl [.int .i64 x18.kind, .int .i64 x18.n, .int .i64 x18.no, .string x18.name, .slice d18A4 x18.l.length d18c4] rfl rfl rfl 1 rfl rfl (fun _ H => ?_))
  refine sr_nil ?_
  refine st_seq ?_
  refine st_region ?_
  refine sr_op rfl rfl (ow_move (v := .pointer (some ⟨gP, 0, none⟩)) rfl ?_)
  refine sr_op rfl rfl (ow_buildSlice H (e := 9) (ps := [(0, .string ⟨#[59]⟩)]) rfl [.string ⟨#[59]⟩] (fun _ => by kernel_rfl) (fun g20 _ H => ?_))
  obtain ⟨I21, hI21, H, hl21⟩ := lit_done (enc := encS) (sz := 1) (n := 1) [sSemi] rfl (by omega) H ⟨((s_iff (s := sSemi)).2 ⟨rfl, by unfold S63; decide +kernel⟩), rfl, rfl⟩
  have hl18 := (hl18.mono hI21)
  refine sr_op rfl rfl (ow_callp en212 rfl (want_c H hl18 (ws := [sSemi]) hl21) ?_ ?_)
  rotate_left
  · rintro ch_ w_ hb_
    exact (hP _ _ (badP.fin hb_ hT ((((hI3.trans hI9).trans hI15).trans hI18).trans hI21) (List.Sublist.trans (List.Sublist.refl _) (List.sublist_append_right [(g1, Ob [.string s6, .int .i64 0, .int .i64 n12, .int .i64 x18.kind, .int .i64 x18.n, .int .i64 x18.no, .string x18.name, .slice d18A4 x18.l.length d18c4] 84)] _)))).one
  rintro _ _ ⟨l22, v22, hk_, hl22, H⟩
  rw [hk_, go_ok_] at hT
  have hw22 := hk_
  have hz23 := want_less hw22
  refine sr_nil ?_
  refine st_seq ?_
  refine st_region ?_
  refine sr_op rfl rfl (ow_load (v := .agg #[.string s6, .int .i64 0, .int .i64 n12, .int .i64 x18.kind, .int .i64 x18.n, .int .i64 x18.no, .string x18.name, .slice d18A4 x18.l.length d18c4]) ty84 H rfl 1 rfl rfl rfl rfl ?_)
  refine sr_op rfl rfl (ow_store ty84 H rfl (v := .agg #[.string s6, .int .i64 0, .int .i64 n12, .int .i64 x18.kind, .int .i64 x18.n, .int .i64 x18.no, .string x18.name, .slice d18A4 x18.l.length d18c4]) rfl [.string s6, .int .i64 0, .int .i64 n12, .int .i64 x18.kind, .int .i64 x18.n, .int .i64 x18.no, .string x18.name, .slice d18A4 x18.l.length d18c4] rfl rfl rfl 1 rfl rfl (fun _ H => ?_))
  refine sr_nil ?_
  refine st_ret hb (hR _ _ (.agg #[.string s6, .int .i64 0, .int .i64 n12, .int .i64 x18.kind, .int .i64 x18.n, .int .i64 x18.no, .string x18.name, .slice d18A4 x18.l.length d18c4]) (res_run (vs := [.agg #[.string s6, .int .i64 0, .int .i64 n12, .int .i64 x18.kind, .int .i64 x18.n, .int .i64 x18.no, .string x18.name, .slice d18A4 x18.l.length d18c4]]) Tryz.results218 ⟨_, _, rfl, resV_own (v := .agg #[.string s6, .int .i64 0, .int .i64 n12, .int .i64 x18.kind, .int .i64 x18.n, .int .i64 x18.no, .string x18.name, .slice d18A4 x18.l.length d18c4]) ty84 H rfl 1 rfl rfl rfl rfl, rfl⟩) ?_)
  have d18 := (d18.mono hI21)
  exact ⟨I21, ⟨s6, 0, n12, x18⟩, _, _, _, ((((hI3.trans hI9).trans hI15).trans hI18).trans hI21), hT, rfl, ru_of hs6 i64_0 hn12 d18, hl22, (H.sub (List.Sublist.cons_cons _ (List.sublist_append_right [(g1, Ob [.string s6, .int .i64 0, .int .i64 n12, .int .i64 x18.kind, .int .i64 x18.n, .int .i64 x18.no, .string x18.name, .slice d18A4 x18.l.length d18c4] 84)] _)))⟩
theorem someR_c {B I L w} {f : Nat} {gP : Nat} {e : Int} {q0 q1 q2 q3 q4 q5 q6 q7 q8 q9 : Value} {l : List Tk} {v : Value} (H : Hp B I w (paB gP v e q0 q1 q2 q3 q4 q5 q6 q7 q8 q9 :: L)) (hl : RepS encTk I 4 l v)  (hf : l.length < f) (hF : f ≤ 200000) : Calls Tryz.prog 217 #[.pointer (some ⟨gP, 0, none⟩), .string wRule, .func (.func 218) #[.pointer (some ⟨gP, 0, none⟩)] #[]] w (Rp (fun r w' => ∃ I' az l' v', Le I I' ∧ manyT wRule (ruleT f) f l = .ok az l' ∧ RepS encRu I' 8 az r ∧ RepS encTk I' 4 l' v' ∧ Hp B I' w' (paB gP v' e q0 q1 q2 q3 q4 q5 q6 q7 q8 q9 :: L)) (fun ch w' => badP B I gP e L (manyT wRule (ruleT f) f l) ch w')) := by
  refine calls_st (n := 16) Tryz.func217 rfl rfl rfl ?_
  intro G bF cs hb hfn hR hP
  simp only [ini]
  refine st_seq ?_
  refine st_region ?_
  refine sr_op rfl rfl (ow_assign (v := .slice none 0 0) rfl ?_)
  refine sr_nil ?_
  refine st_seq ?_
  refine st_block ?_
  refine st_loop ?_
  refine st_live [0, 1, 2, 6] ?_
  refine st_ind (fun d_ m_ w_ => ∃ (f1 : Nat) (l1 : List Tk) (v1 : Value) (az : List Ru) (J1 : Im) (Aa_ : Option Addr) (na_ ca_ : Nat) (cs_ : List Value) (r_ : Sl), d_ = f1 + 1 ∧ m_ = (0, .pointer (some ⟨gP, 0, none⟩)) :: (1, .string wRule) :: (2, .func (.func 218) #[.pointer (some ⟨gP, 0, none⟩)] #[]) :: (6, .slice Aa_ na_ ca_) :: r_ ∧ Hp B J1 w_ (paB gP v1 e q0 q1 q2 q3 q4 q5 q6 q7 q8 q9 :: (rowL (.slice Aa_ na_ ca_) cs_ 84 ++ L)) ∧ Le I J1 ∧ Acc J1 8 (.slice Aa_ na_ ca_) cs_ ((az).map encRu) ∧ l1.length < f1 ∧ az.length + l1.length ≤ l.length ∧ f1 ≤ f ∧ RepS encTk J1 4 l1 v1 ∧ manyT wRule (ruleT f) f l = preT az (manyT wRule (ruleT f) f1 l1)) _ ⟨f, l, v, [], I, none, 0, 0, [], _, rfl, rfl, H, Le.refl _, Acc.none_ _ _ _, hf, by simp, Nat.le_refl _, hl, pre_nil _⟩ ?_
  rintro _ _ _ ⟨f1, l1, v1, az, J1, Aa_, na_, ca_, cs_, r2, rfl, rfl, H, hJ1, ha_, hlf, haz, hff, hl1, hT⟩ ih3
  obtain ⟨f2, rfl⟩ : ∃ f2, f1 = f2 + 1 := ⟨f1 - 1, by omega⟩
  refine st_seq ?_
  refine st_seq ?_
  refine st_region ?_
  refine sr_op rfl rfl (ow_move (v := .pointer (some ⟨gP, 0, none⟩)) rfl ?_)
  refine sr_op rfl rfl (ow_move (v := .string wRule) rfl ?_)
  refine sr_op rfl rfl (ow_call en267 rfl (is_c H hl1 (x := wRule)) ?_)
  rintro _ _ ⟨rfl, H⟩
  refine sr_nil ?_
  refine st_cond (isT wRule l1) rfl (fun hc4 => ?_) (fun hc4 => ?_)
  · have hy_ := hc4
    rw [many_bad hy_] at hT
    refine st_skip ?_
    refine st_block ?_
    refine st_region ?_
    refine sr_op rfl rfl (ow_move (v := .slice Aa_ na_ ca_) rfl ?_)
    refine sr_op rfl rfl (ow_move (v := .func (.func 218) #[.pointer (some ⟨gP, 0, none⟩)] #[]) rfl ?_)
    refine sr_op rfl rfl (ow_callVp en218 (first := [.pointer (some ⟨gP, 0, none⟩)]) (cap := []) rfl rfl (rule_c H hl1 (by omega) hF) ?_ ?_)
    rotate_left
    · rintro ch_ w_ hb_
      exact (hP _ _ (badP.fin hb_ hT hJ1 (List.sublist_append_right _ _))).one
    rintro _ _ ⟨I5, x5, us5, l5, v5, hI5, hk_, rfl, hx5, hl5, H⟩
    rw [hk_, go_ok_] at hT
    have hk0 := hk_
    have d5 := hx5
    obtain ⟨d5v7, rfl, d5_0, d5_1, d5_2, d5_3, d5_4, d5_5, d5_6, d5_7⟩ := ru_iff.1 hx5
    obtain ⟨d5A7, d5c7, rfl, d5m7, d5M7, d5_7⟩ := RepS.open_ d5_7
    refine sr_op rfl rfl (ow_buildSlice H (e := 84) (ps := [(0, .agg #[.string x5.kind, .int .i64 x5.kindNo, .int .i64 x5.think, .int .i64 x5.expr.kind, .int .i64 x5.expr.n, .int .i64 x5.expr.no, .string x5.expr.name, .slice d5A7 x5.expr.l.length d5c7])]) rfl [.string x5.kind, .int .i64 x5.kindNo, .int .i64 x5.think, .int .i64 x5.expr.kind, .int .i64 x5.expr.n, .int .i64 x5.expr.no, .string x5.expr.name, .slice d5A7 x5.expr.l.length d5c7] (fun _ => by kernel_rfl) (fun g6 _ H => ?_))
    have ha_ := (ha_.mono hI5)
    refine sr_op rfl rfl (ow_append1 sl23 ty84 rfl rfl [paB gP v5 e q0 q1 q2 q3 q4 q5 q6 q7 q8 q9] (v := .slice Aa_ na_ ca_) (cs := cs_) (L := L) H ha_ rfl rfl (d5) (len_ru _) (plain_ru _) (by rw [List.length_map]; omega) (by rw [List.length_map]; omega) (fun va7 cs8 _ H ha_ => ?_))
    obtain ⟨Aa9, na9, ca9, rfl⟩ := Acc.form ha_
    refine sr_op rfl rfl (ow_assign (v := .slice Aa9 na9 ca9) rfl ?_)
    refine sr_nil ?_
    refine st_inBlock ?_
    exact st_inLoop (st_live [0, 1, 2, 6] (ih3 _ _ _ (by omega) ⟨f2, l5, v5, (az ++ [x5]), I5, _, _, _, _, _, rfl, rfl, H, ((hJ1.trans hI5)), (by rw [List.map_append]; exact ha_), by have h_ := rule_less hk0; omega, by have h_ := rule_less hk0; simp only [List.length_append, List.length_singleton]; omega, by omega, hl5, hT⟩))
  · have hn_ := hc4
    refine st_exit rfl ?_
    refine st_seq ?_
    refine st_region ?_
    refine sr_op rfl rfl (ow_move (v := .slice Aa_ na_ ca_) rfl ?_)
    refine sr_op rfl rfl (ow_assign (v := .slice Aa_ na_ ca_) rfl ?_)
    refine sr_nil ?_
    refine st_ret hb (hR _ _ (.slice Aa_ na_ ca_) (res_run (vs := [.slice Aa_ na_ ca_]) Tryz.results217 ⟨_, _, rfl, rfl, rfl⟩) ?_)
    rw [many_stop hn_] at hT
    obtain ⟨I9, hI9, H9, hr_⟩ := Acc.done ha_ (H.perm (rowL_back [paB gP v1 e q0 q1 q2 q3 q4 q5 q6 q7 q8 q9] (.slice Aa_ na_ ca_) cs_ 84).symm)
    have hl1 := (hl1.mono hI9)
    exact ⟨I9, az, l1, v1, (hJ1.trans hI9), hT, hr_, hl1, H9⟩
theorem head_c {B I L w} {gP : Nat} {e : Int} {q0 q1 q2 q3 q4 q5 q6 q7 q8 : Value} {l : List Tk} {v : Value} (H : Hp B I w (paB gP v e q0 q1 q2 q3 q4 q5 q6 q7 q8 (.int .i64 0) :: L)) (hl : RepS encTk I 4 l v) : Calls Tryz.prog 130 #[.pointer (some ⟨gP, 0, none⟩)] w (Rp (fun r w' => ∃ I' s m l' v', Le I I' ∧ headT l = .ok (s, m) l' ∧ S63 s ∧ I64 m ∧ RepS encTk I' 4 l' v' ∧ Hp B I' w' (paB gP v' e (.string s) q1 q2 q3 q4 q5 q6 q7 q8 (.int .i64 m) :: L)) (fun ch w' => badP B I gP e L (headT l) ch w')) := by
  have hT := headT_eq l
  refine calls_st (n := 47) Tryz.func130 rfl rfl rfl ?_
  intro G bF cs hb hfn hR hP
  simp only [ini]
  refine st_seq ?_
  refine st_region ?_
  refine sr_op rfl rfl (ow_move (v := .pointer (some ⟨gP, 0, none⟩)) rfl ?_)
  refine sr_op rfl rfl (ow_buildSlice H (e := 9) (ps := [(0, .string ⟨#[112, 111, 108, 105, 99, 121]⟩)]) rfl [.string ⟨#[112, 111, 108, 105, 99, 121]⟩] (fun _ => by kernel_rfl) (fun g1 _ H => ?_))
  obtain ⟨I2, hI2, H, hl2⟩ := lit_done (enc := encS) (sz := 1) (n := 1) [wPolicy] rfl (by omega) H ⟨((s_iff (s := wPolicy)).2 ⟨rfl, by unfold S63; decide +kernel⟩), rfl, rfl⟩
  have hl := (hl.mono hI2)
  refine sr_op rfl rfl (ow_callp en212 rfl (want_c H hl (ws := [wPolicy]) hl2) ?_ ?_)
  rotate_left
  · rintro ch_ w_ hb_
    exact (hP _ _ (badP.fin hb_ hT hI2 (List.Sublist.refl _))).one
  rintro _ _ ⟨l3, v3, hk_, hl3, H⟩
  rw [hk_, go_ok_] at hT
  have hw3 := hk_
  have hz4 := want_less hw3
  refine sr_nil ?_
  refine st_seq ?_
  refine st_region ?_
  refine sr_op rfl rfl (ow_move (v := .pointer (some ⟨gP, 0, none⟩)) rfl ?_)
  refine sr_op rfl rfl (ow_move (v := .pointer (some ⟨gP, 0, none⟩)) rfl ?_)
  refine sr_op rfl rfl (ow_callp en213 rfl (name_pc H hl3) ?_ ?_)
  rotate_left
  · rintro ch_ w_ hb_
    exact (hP _ _ (badP.fin hb_ hT hI2 (List.Sublist.refl _))).one
  rintro _ _ ⟨s5, l5, v5, hk_, rfl, hs5, hl5, H⟩
  rw [hk_, go_ok_] at hT
  have hk5 := hk_
  have hz6 := name_less hk_
  refine sr_op rfl rfl (ow_nilCheck rfl ?_)
  refine sr_op rfl rfl (ow_fieldAddr fd182_2 ty28 rfl rfl (r := 2) rfl ?_)
  refine sr_op rfl rfl (ow_fieldAddr fd28_0 ty9 rfl rfl (r := 2) rfl ?_)
  refine sr_op rfl rfl (ow_store ty9 H rfl (v := .string s5) rfl [.string s5] rfl rfl rfl 0 rfl rfl (fun _ H => ?_))
  refine sr_nil ?_
  refine st_seq ?_
  refine st_region ?_
  refine sr_op rfl rfl (ow_move (v := .pointer (some ⟨gP, 0, none⟩)) rfl ?_)
  refine sr_op rfl rfl (ow_buildSlice H (e := 9) (ps := [(0, .string ⟨#[59]⟩), (1, .string ⟨#[109, 111, 100, 101]⟩)]) rfl [.string ⟨#[59]⟩, .string ⟨#[109, 111, 100, 101]⟩] (fun _ => by kernel_rfl) (fun g7 _ H => ?_))
  obtain ⟨I8, hI8, H, hl8⟩ := lit_done (enc := encS) (sz := 1) (n := 2) [sSemi, wMode] rfl (by omega) H ⟨((s_iff (s := sSemi)).2 ⟨rfl, by unfold S63; decide +kernel⟩), rfl, ⟨((s_iff (s := wMode)).2 ⟨rfl, by unfold S63; decide +kernel⟩), rfl, rfl⟩⟩
  have hl5 := (hl5.mono hI8)
  refine sr_op rfl rfl (ow_callp en212 rfl (want_c H hl5 (ws := [sSemi, wMode]) hl8) ?_ ?_)
  rotate_left
  · rintro ch_ w_ hb_
    exact (hP _ _ (badP.fin hb_ hT (hI2.trans hI8) (List.Sublist.refl _))).one
  rintro _ _ ⟨l9, v9, hk_, hl9, H⟩
  rw [hk_, go_ok_] at hT
  have hw9 := hk_
  have hz10 := want_less hw9
  refine sr_nil ?_
  refine st_seq ?_
  refine st_seq ?_
  refine st_region ?_
  refine sr_op rfl rfl (ow_call en128 rfl (modes_c H) ?_)
  rintro _ _ ⟨Imo, vm, hImo, H, rfl, hm⟩
  obtain ⟨m0A, m0c, rfl, m0m, m0M, m0⟩ := RepS.open_ hm
  refine sr_op rfl rfl (ow_lenS sl22 rfl rfl ?_)
  refine sr_op rfl rfl (ow_move (v := .int .i64 0) rfl ?_)
  refine sr_nil ?_
  refine st_block ?_
  refine st_loop ?_
  rw [modeT_eq] at hT
  refine st_seq ?_
  refine st_region ?_
  refine sr_op rfl rfl (ow_lss rfl rfl ?_)
  refine sr_nil ?_
  refine st_seq ?_
  refine st_yes rfl ?_
  refine st_skip ?_
  refine st_seq ?_
  refine st_block ?_
  refine st_seq ?_
  refine st_region ?_
  refine sr_op rfl rfl (ow_move (v := .int .i64 0) rfl ?_)
  have he11 : modesW[0]? = some nilS := rfl
  obtain ⟨b11, o11, us11, hA11, hat11, hul11, hr11⟩ := RepS.get m0 he11
  have d11 := hr11
  obtain ⟨rfl, d11_0⟩ := s_iff.1 hr11
  refine sr_op rfl rfl (ow_indexAddrA sl22 ty9 hA11 rfl rfl (by decide) (by decide) (r := o11 + 0 * 1) rfl ?_)
  refine sr_op rfl rfl (ow_loadI (v := .string nilS) ty9 H rfl hat11 rfl rfl rfl ?_)
  refine sr_op rfl rfl (ow_assign (v := .int .i64 0) rfl ?_)
  refine sr_op rfl rfl (ow_assign (v := .string nilS) rfl ?_)
  refine sr_nil ?_
  refine st_seq ?_
  refine st_region ?_
  refine sr_op rfl rfl (ow_move (v := .int .i64 0) rfl ?_)
  refine sr_op rfl rfl (ow_gtr rfl rfl ?_)
  refine sr_op rfl rfl (ow_move (v := .bool false) rfl ?_)
  refine sr_pass rfl (j := 2) (d := 25) rfl rfl rfl (u := false) (v := true) rfl rfl ?_
  refine sr_pass rfl (j := 2) (d := 25) rfl rfl rfl (u := false) (v := true) rfl rfl ?_
  refine sr_pass rfl (j := 2) (d := 25) rfl rfl rfl (u := false) (v := true) rfl rfl ?_
  refine sr_op rfl rfl (ow_pick (v := .bool false) rfl rfl ?_)
  refine sr_nil ?_
  refine st_no rfl ?_
  refine st_skip ?_
  refine st_inBlock ?_
  refine st_region ?_
  refine sr_op rfl rfl (ow_add (r := 1) rfl rfl (by decide) ?_)
  refine sr_op rfl rfl (ow_move (v := .int .i64 1) rfl ?_)
  refine sr_nil ?_
  refine st_inLoop ?_
  refine st_seq ?_
  refine st_region ?_
  refine sr_op rfl rfl (ow_lss rfl rfl ?_)
  refine sr_nil ?_
  refine st_seq ?_
  refine st_yes rfl ?_
  refine st_skip ?_
  refine st_seq ?_
  refine st_block ?_
  refine st_seq ?_
  refine st_region ?_
  refine sr_op rfl rfl (ow_move (v := .int .i64 1) rfl ?_)
  have he12 : modesW[1]? = some wOld := rfl
  obtain ⟨b12, o12, us12, hA12, hat12, hul12, hr12⟩ := RepS.get m0 he12
  have d12 := hr12
  obtain ⟨rfl, d12_0⟩ := s_iff.1 hr12
  refine sr_op rfl rfl (ow_indexAddrA sl22 ty9 hA12 rfl rfl (by decide) (by decide) (r := o12 + 1 * 1) rfl ?_)
  refine sr_op rfl rfl (ow_loadI (v := .string wOld) ty9 H rfl hat12 rfl rfl rfl ?_)
  refine sr_op rfl rfl (ow_assign (v := .int .i64 1) rfl ?_)
  refine sr_op rfl rfl (ow_assign (v := .string wOld) rfl ?_)
  refine sr_nil ?_
  refine st_seq ?_
  refine st_region ?_
  refine sr_op rfl rfl (ow_move (v := .int .i64 1) rfl ?_)
  refine sr_op rfl rfl (ow_gtr rfl rfl ?_)
  refine sr_op rfl rfl (ow_move (v := .bool true) rfl ?_)
  refine sr_want rfl (j := 2) (d := 25) rfl rfl rfl (v := true) rfl rfl (ow_move (v := .pointer (some ⟨gP, 0, none⟩)) rfl ?_)
  refine sr_want rfl (j := 2) (d := 25) rfl rfl rfl (v := true) rfl rfl (ow_move (v := .string wOld) rfl ?_)
  have hl9 := (hl9.mono hImo)
  refine sr_want rfl (j := 2) (d := 25) rfl rfl rfl (v := true) rfl rfl (ow_call en214 rfl (take_c H hl9 (x := wOld)) ?_)
  rintro _ _ ⟨v13, rfl, hl13, H⟩
  refine sr_op rfl rfl (ow_pick (v := .bool (isT wOld l9)) rfl rfl ?_)
  refine sr_nil ?_
  refine st_cond (isT wOld l9) rfl (fun hc14 => ?_) (fun hc14 => ?_)
  · have hy_ := hc14
    rw [takeT, if_pos hy_] at hl13
    rw [if_pos hy_, go_ok_] at hT
    have hz15 := isT_len hc14
    refine st_seq ?_
    refine st_region ?_
    refine sr_op rfl rfl (ow_move (v := .pointer (some ⟨gP, 0, none⟩)) rfl ?_)
    refine sr_op rfl rfl (ow_move (v := .int .i64 1) rfl ?_)
    refine sr_op rfl rfl (ow_nilCheck rfl ?_)
    refine sr_op rfl rfl (ow_fieldAddr fd182_2 ty28 rfl rfl (r := 2) rfl ?_)
    refine sr_op rfl rfl (ow_fieldAddr fd28_5 ty3 rfl rfl (r := 11) rfl ?_)
    refine sr_op rfl rfl (ow_store ty3 H rfl (v := .int .i64 1) rfl [.int .i64 1] rfl rfl rfl 0 rfl rfl (fun _ H => ?_))
    refine sr_nil ?_
    refine st_exit rfl ?_
    refine st_seq ?_
    refine st_seq ?_
    refine st_region ?_
    refine sr_op rfl rfl (ow_move (v := .pointer (some ⟨gP, 0, none⟩)) rfl ?_)
    refine sr_op rfl rfl (ow_nilCheck rfl ?_)
    refine sr_op rfl rfl (ow_fieldAddr fd182_2 ty28 rfl rfl (r := 2) rfl ?_)
    refine sr_op rfl rfl (ow_fieldAddr fd28_5 ty3 rfl rfl (r := 11) rfl ?_)
    refine sr_op rfl rfl (ow_load (v := .int .i64 1) ty3 H rfl 0 rfl rfl rfl rfl ?_)
    refine sr_op rfl rfl (ow_eql rfl rfl ?_)
    refine sr_nil ?_
    refine st_no rfl ?_
    refine st_skip ?_
    refine st_region ?_
    refine sr_op rfl rfl (ow_move (v := .pointer (some ⟨gP, 0, none⟩)) rfl ?_)
    refine sr_op rfl rfl (ow_buildSlice H (e := 9) (ps := [(0, .string ⟨#[59]⟩)]) rfl [.string ⟨#[59]⟩] (fun _ => by kernel_rfl) (fun g16 _ H => ?_))
    obtain ⟨I17, hI17, H, hl17⟩ := lit_done (enc := encS) (sz := 1) (n := 1) [sSemi] rfl (by omega) H ⟨((s_iff (s := sSemi)).2 ⟨rfl, by unfold S63; decide +kernel⟩), rfl, rfl⟩
    have hl13 := (hl13.mono hI17)
    refine sr_op rfl rfl (ow_callp en212 rfl (want_c H hl13 (ws := [sSemi]) hl17) ?_ ?_)
    rotate_left
    · rintro ch_ w_ hb_
      exact (hP _ _ (badP.fin hb_ hT (((hI2.trans hI8).trans hImo).trans hI17) (List.Sublist.refl _))).one
    rintro _ _ ⟨l18, v18, hk_, hl18, H⟩
    rw [hk_, go_ok_] at hT
    have hw18 := hk_
    have hz19 := want_less hw18
    refine sr_nil ?_
    refine st_end hb (hR _ _ (.tuple #[]) (res_run (vs := []) Tryz.results130 rfl) ?_)
    exact ⟨I17, s5, 1, _, _, (((hI2.trans hI8).trans hImo).trans hI17), hT, hs5, i64_1, hl18, H⟩
  · have hn_ := hc14
    rw [takeT, if_neg (by rw [hn_]; decide)] at hl13
    rw [if_neg (by rw [hn_]; decide)] at hT
    refine st_skip ?_
    refine st_inBlock ?_
    refine st_region ?_
    refine sr_op rfl rfl (ow_add (r := 2) rfl rfl (by decide) ?_)
    refine sr_op rfl rfl (ow_move (v := .int .i64 2) rfl ?_)
    refine sr_nil ?_
    refine st_inLoop ?_
    refine st_seq ?_
    refine st_region ?_
    refine sr_op rfl rfl (ow_lss rfl rfl ?_)
    refine sr_nil ?_
    refine st_seq ?_
    refine st_yes rfl ?_
    refine st_skip ?_
    refine st_seq ?_
    refine st_block ?_
    refine st_seq ?_
    refine st_region ?_
    refine sr_op rfl rfl (ow_move (v := .int .i64 2) rfl ?_)
    have he20 : modesW[2]? = some wNew := rfl
    obtain ⟨b20, o20, us20, hA20, hat20, hul20, hr20⟩ := RepS.get m0 he20
    have d20 := hr20
    obtain ⟨rfl, d20_0⟩ := s_iff.1 hr20
    refine sr_op rfl rfl (ow_indexAddrA sl22 ty9 hA20 rfl rfl (by decide) (by decide) (r := o20 + 2 * 1) rfl ?_)
    refine sr_op rfl rfl (ow_loadI (v := .string wNew) ty9 H rfl hat20 rfl rfl rfl ?_)
    refine sr_op rfl rfl (ow_assign (v := .int .i64 2) rfl ?_)
    refine sr_op rfl rfl (ow_assign (v := .string wNew) rfl ?_)
    refine sr_nil ?_
    refine st_seq ?_
    refine st_region ?_
    refine sr_op rfl rfl (ow_move (v := .int .i64 2) rfl ?_)
    refine sr_op rfl rfl (ow_gtr rfl rfl ?_)
    refine sr_op rfl rfl (ow_move (v := .bool true) rfl ?_)
    refine sr_want rfl (j := 2) (d := 25) rfl rfl rfl (v := true) rfl rfl (ow_move (v := .pointer (some ⟨gP, 0, none⟩)) rfl ?_)
    refine sr_want rfl (j := 2) (d := 25) rfl rfl rfl (v := true) rfl rfl (ow_move (v := .string wNew) rfl ?_)
    refine sr_want rfl (j := 2) (d := 25) rfl rfl rfl (v := true) rfl rfl (ow_call en214 rfl (take_c H hl13 (x := wNew)) ?_)
    rintro _ _ ⟨v21, rfl, hl21, H⟩
    refine sr_op rfl rfl (ow_pick (v := .bool (isT wNew l9)) rfl rfl ?_)
    refine sr_nil ?_
    refine st_cond (isT wNew l9) rfl (fun hc22 => ?_) (fun hc22 => ?_)
    · have hy_ := hc22
      rw [takeT, if_pos hy_] at hl21
      rw [if_pos hy_, go_ok_] at hT
      have hz23 := isT_len hc22
      refine st_seq ?_
      refine st_region ?_
      refine sr_op rfl rfl (ow_move (v := .pointer (some ⟨gP, 0, none⟩)) rfl ?_)
      refine sr_op rfl rfl (ow_move (v := .int .i64 2) rfl ?_)
      refine sr_op rfl rfl (ow_nilCheck rfl ?_)
      refine sr_op rfl rfl (ow_fieldAddr fd182_2 ty28 rfl rfl (r := 2) rfl ?_)
      refine sr_op rfl rfl (ow_fieldAddr fd28_5 ty3 rfl rfl (r := 11) rfl ?_)
      refine sr_op rfl rfl (ow_store ty3 H rfl (v := .int .i64 2) rfl [.int .i64 2] rfl rfl rfl 0 rfl rfl (fun _ H => ?_))
      refine sr_nil ?_
      refine st_exit rfl ?_
      refine st_seq ?_
      refine st_seq ?_
      refine st_region ?_
      refine sr_op rfl rfl (ow_move (v := .pointer (some ⟨gP, 0, none⟩)) rfl ?_)
      refine sr_op rfl rfl (ow_nilCheck rfl ?_)
      refine sr_op rfl rfl (ow_fieldAddr fd182_2 ty28 rfl rfl (r := 2) rfl ?_)
      refine sr_op rfl rfl (ow_fieldAddr fd28_5 ty3 rfl rfl (r := 11) rfl ?_)
      refine sr_op rfl rfl (ow_load (v := .int .i64 2) ty3 H rfl 0 rfl rfl rfl rfl ?_)
      refine sr_op rfl rfl (ow_eql rfl rfl ?_)
      refine sr_nil ?_
      refine st_no rfl ?_
      refine st_skip ?_
      refine st_region ?_
      refine sr_op rfl rfl (ow_move (v := .pointer (some ⟨gP, 0, none⟩)) rfl ?_)
      refine sr_op rfl rfl (ow_buildSlice H (e := 9) (ps := [(0, .string ⟨#[59]⟩)]) rfl [.string ⟨#[59]⟩] (fun _ => by kernel_rfl) (fun g24 _ H => ?_))
      obtain ⟨I25, hI25, H, hl25⟩ := lit_done (enc := encS) (sz := 1) (n := 1) [sSemi] rfl (by omega) H ⟨((s_iff (s := sSemi)).2 ⟨rfl, by unfold S63; decide +kernel⟩), rfl, rfl⟩
      have hl21 := (hl21.mono hI25)
      refine sr_op rfl rfl (ow_callp en212 rfl (want_c H hl21 (ws := [sSemi]) hl25) ?_ ?_)
      rotate_left
      · rintro ch_ w_ hb_
        exact (hP _ _ (badP.fin hb_ hT (((hI2.trans hI8).trans hImo).trans hI25) (List.Sublist.refl _))).one
      rintro _ _ ⟨l26, v26, hk_, hl26, H⟩
      rw [hk_, go_ok_] at hT
      have hw26 := hk_
      have hz27 := want_less hw26
      refine sr_nil ?_
      refine st_end hb (hR _ _ (.tuple #[]) (res_run (vs := []) Tryz.results130 rfl) ?_)
      exact ⟨I25, s5, 2, _, _, (((hI2.trans hI8).trans hImo).trans hI25), hT, hs5, i64_2, hl26, H⟩
    · have hn_ := hc22
      rw [takeT, if_neg (by rw [hn_]; decide)] at hl21
      rw [if_neg (by rw [hn_]; decide)] at hT
      refine st_skip ?_
      refine st_inBlock ?_
      refine st_region ?_
      refine sr_op rfl rfl (ow_add (r := 3) rfl rfl (by decide) ?_)
      refine sr_op rfl rfl (ow_move (v := .int .i64 3) rfl ?_)
      refine sr_nil ?_
      refine st_inLoop ?_
      refine st_seq ?_
      refine st_region ?_
      refine sr_op rfl rfl (ow_lss rfl rfl ?_)
      refine sr_nil ?_
      refine st_seq ?_
      refine st_yes rfl ?_
      refine st_skip ?_
      refine st_seq ?_
      refine st_block ?_
      refine st_seq ?_
      refine st_region ?_
      refine sr_op rfl rfl (ow_move (v := .int .i64 3) rfl ?_)
      have he28 : modesW[3]? = some wBoth := rfl
      obtain ⟨b28, o28, us28, hA28, hat28, hul28, hr28⟩ := RepS.get m0 he28
      have d28 := hr28
      obtain ⟨rfl, d28_0⟩ := s_iff.1 hr28
      refine sr_op rfl rfl (ow_indexAddrA sl22 ty9 hA28 rfl rfl (by decide) (by decide) (r := o28 + 3 * 1) rfl ?_)
      refine sr_op rfl rfl (ow_loadI (v := .string wBoth) ty9 H rfl hat28 rfl rfl rfl ?_)
      refine sr_op rfl rfl (ow_assign (v := .int .i64 3) rfl ?_)
      refine sr_op rfl rfl (ow_assign (v := .string wBoth) rfl ?_)
      refine sr_nil ?_
      refine st_seq ?_
      refine st_region ?_
      refine sr_op rfl rfl (ow_move (v := .int .i64 3) rfl ?_)
      refine sr_op rfl rfl (ow_gtr rfl rfl ?_)
      refine sr_op rfl rfl (ow_move (v := .bool true) rfl ?_)
      refine sr_want rfl (j := 2) (d := 25) rfl rfl rfl (v := true) rfl rfl (ow_move (v := .pointer (some ⟨gP, 0, none⟩)) rfl ?_)
      refine sr_want rfl (j := 2) (d := 25) rfl rfl rfl (v := true) rfl rfl (ow_move (v := .string wBoth) rfl ?_)
      refine sr_want rfl (j := 2) (d := 25) rfl rfl rfl (v := true) rfl rfl (ow_call en214 rfl (take_c H hl21 (x := wBoth)) ?_)
      rintro _ _ ⟨v29, rfl, hl29, H⟩
      refine sr_op rfl rfl (ow_pick (v := .bool (isT wBoth l9)) rfl rfl ?_)
      refine sr_nil ?_
      refine st_cond (isT wBoth l9) rfl (fun hc30 => ?_) (fun hc30 => ?_)
      · have hy_ := hc30
        rw [takeT, if_pos hy_] at hl29
        rw [if_pos hy_, go_ok_] at hT
        have hz31 := isT_len hc30
        refine st_seq ?_
        refine st_region ?_
        refine sr_op rfl rfl (ow_move (v := .pointer (some ⟨gP, 0, none⟩)) rfl ?_)
        refine sr_op rfl rfl (ow_move (v := .int .i64 3) rfl ?_)
        refine sr_op rfl rfl (ow_nilCheck rfl ?_)
        refine sr_op rfl rfl (ow_fieldAddr fd182_2 ty28 rfl rfl (r := 2) rfl ?_)
        refine sr_op rfl rfl (ow_fieldAddr fd28_5 ty3 rfl rfl (r := 11) rfl ?_)
        refine sr_op rfl rfl (ow_store ty3 H rfl (v := .int .i64 3) rfl [.int .i64 3] rfl rfl rfl 0 rfl rfl (fun _ H => ?_))
        refine sr_nil ?_
        refine st_exit rfl ?_
        refine st_seq ?_
        refine st_seq ?_
        refine st_region ?_
        refine sr_op rfl rfl (ow_move (v := .pointer (some ⟨gP, 0, none⟩)) rfl ?_)
        refine sr_op rfl rfl (ow_nilCheck rfl ?_)
        refine sr_op rfl rfl (ow_fieldAddr fd182_2 ty28 rfl rfl (r := 2) rfl ?_)
        refine sr_op rfl rfl (ow_fieldAddr fd28_5 ty3 rfl rfl (r := 11) rfl ?_)
        refine sr_op rfl rfl (ow_load (v := .int .i64 3) ty3 H rfl 0 rfl rfl rfl rfl ?_)
        refine sr_op rfl rfl (ow_eql rfl rfl ?_)
        refine sr_nil ?_
        refine st_no rfl ?_
        refine st_skip ?_
        refine st_region ?_
        refine sr_op rfl rfl (ow_move (v := .pointer (some ⟨gP, 0, none⟩)) rfl ?_)
        refine sr_op rfl rfl (ow_buildSlice H (e := 9) (ps := [(0, .string ⟨#[59]⟩)]) rfl [.string ⟨#[59]⟩] (fun _ => by kernel_rfl) (fun g32 _ H => ?_))
        obtain ⟨I33, hI33, H, hl33⟩ := lit_done (enc := encS) (sz := 1) (n := 1) [sSemi] rfl (by omega) H ⟨((s_iff (s := sSemi)).2 ⟨rfl, by unfold S63; decide +kernel⟩), rfl, rfl⟩
        have hl29 := (hl29.mono hI33)
        refine sr_op rfl rfl (ow_callp en212 rfl (want_c H hl29 (ws := [sSemi]) hl33) ?_ ?_)
        rotate_left
        · rintro ch_ w_ hb_
          exact (hP _ _ (badP.fin hb_ hT (((hI2.trans hI8).trans hImo).trans hI33) (List.Sublist.refl _))).one
        rintro _ _ ⟨l34, v34, hk_, hl34, H⟩
        rw [hk_, go_ok_] at hT
        have hw34 := hk_
        have hz35 := want_less hw34
        refine sr_nil ?_
        refine st_end hb (hR _ _ (.tuple #[]) (res_run (vs := []) Tryz.results130 rfl) ?_)
        exact ⟨I33, s5, 3, _, _, (((hI2.trans hI8).trans hImo).trans hI33), hT, hs5, i64_3, hl34, H⟩
      · have hn_ := hc30
        rw [takeT, if_neg (by rw [hn_]; decide)] at hl29
        rw [if_neg (by rw [hn_]; decide)] at hT
        refine st_skip ?_
        refine st_inBlock ?_
        refine st_region ?_
        refine sr_op rfl rfl (ow_add (r := 4) rfl rfl (by decide) ?_)
        refine sr_op rfl rfl (ow_move (v := .int .i64 4) rfl ?_)
        refine sr_nil ?_
        refine st_inLoop ?_
        refine st_seq ?_
        refine st_region ?_
        refine sr_op rfl rfl (ow_lss rfl rfl ?_)
        refine sr_nil ?_
        refine st_seq ?_
        refine st_yes rfl ?_
        refine st_skip ?_
        refine st_seq ?_
        refine st_block ?_
        refine st_seq ?_
        refine st_region ?_
        refine sr_op rfl rfl (ow_move (v := .int .i64 4) rfl ?_)
        have he36 : modesW[4]? = some wEither := rfl
        obtain ⟨b36, o36, us36, hA36, hat36, hul36, hr36⟩ := RepS.get m0 he36
        have d36 := hr36
        obtain ⟨rfl, d36_0⟩ := s_iff.1 hr36
        refine sr_op rfl rfl (ow_indexAddrA sl22 ty9 hA36 rfl rfl (by decide) (by decide) (r := o36 + 4 * 1) rfl ?_)
        refine sr_op rfl rfl (ow_loadI (v := .string wEither) ty9 H rfl hat36 rfl rfl rfl ?_)
        refine sr_op rfl rfl (ow_assign (v := .int .i64 4) rfl ?_)
        refine sr_op rfl rfl (ow_assign (v := .string wEither) rfl ?_)
        refine sr_nil ?_
        refine st_seq ?_
        refine st_region ?_
        refine sr_op rfl rfl (ow_move (v := .int .i64 4) rfl ?_)
        refine sr_op rfl rfl (ow_gtr rfl rfl ?_)
        refine sr_op rfl rfl (ow_move (v := .bool true) rfl ?_)
        refine sr_want rfl (j := 2) (d := 25) rfl rfl rfl (v := true) rfl rfl (ow_move (v := .pointer (some ⟨gP, 0, none⟩)) rfl ?_)
        refine sr_want rfl (j := 2) (d := 25) rfl rfl rfl (v := true) rfl rfl (ow_move (v := .string wEither) rfl ?_)
        refine sr_want rfl (j := 2) (d := 25) rfl rfl rfl (v := true) rfl rfl (ow_call en214 rfl (take_c H hl29 (x := wEither)) ?_)
        rintro _ _ ⟨v37, rfl, hl37, H⟩
        refine sr_op rfl rfl (ow_pick (v := .bool (isT wEither l9)) rfl rfl ?_)
        refine sr_nil ?_
        refine st_cond (isT wEither l9) rfl (fun hc38 => ?_) (fun hc38 => ?_)
        · have hy_ := hc38
          rw [takeT, if_pos hy_] at hl37
          rw [if_pos hy_, go_ok_] at hT
          have hz39 := isT_len hc38
          refine st_seq ?_
          refine st_region ?_
          refine sr_op rfl rfl (ow_move (v := .pointer (some ⟨gP, 0, none⟩)) rfl ?_)
          refine sr_op rfl rfl (ow_move (v := .int .i64 4) rfl ?_)
          refine sr_op rfl rfl (ow_nilCheck rfl ?_)
          refine sr_op rfl rfl (ow_fieldAddr fd182_2 ty28 rfl rfl (r := 2) rfl ?_)
          refine sr_op rfl rfl (ow_fieldAddr fd28_5 ty3 rfl rfl (r := 11) rfl ?_)
          refine sr_op rfl rfl (ow_store ty3 H rfl (v := .int .i64 4) rfl [.int .i64 4] rfl rfl rfl 0 rfl rfl (fun _ H => ?_))
          refine sr_nil ?_
          refine st_exit rfl ?_
          refine st_seq ?_
          refine st_seq ?_
          refine st_region ?_
          refine sr_op rfl rfl (ow_move (v := .pointer (some ⟨gP, 0, none⟩)) rfl ?_)
          refine sr_op rfl rfl (ow_nilCheck rfl ?_)
          refine sr_op rfl rfl (ow_fieldAddr fd182_2 ty28 rfl rfl (r := 2) rfl ?_)
          refine sr_op rfl rfl (ow_fieldAddr fd28_5 ty3 rfl rfl (r := 11) rfl ?_)
          refine sr_op rfl rfl (ow_load (v := .int .i64 4) ty3 H rfl 0 rfl rfl rfl rfl ?_)
          refine sr_op rfl rfl (ow_eql rfl rfl ?_)
          refine sr_nil ?_
          refine st_no rfl ?_
          refine st_skip ?_
          refine st_region ?_
          refine sr_op rfl rfl (ow_move (v := .pointer (some ⟨gP, 0, none⟩)) rfl ?_)
          refine sr_op rfl rfl (ow_buildSlice H (e := 9) (ps := [(0, .string ⟨#[59]⟩)]) rfl [.string ⟨#[59]⟩] (fun _ => by kernel_rfl) (fun g40 _ H => ?_))
          obtain ⟨I41, hI41, H, hl41⟩ := lit_done (enc := encS) (sz := 1) (n := 1) [sSemi] rfl (by omega) H ⟨((s_iff (s := sSemi)).2 ⟨rfl, by unfold S63; decide +kernel⟩), rfl, rfl⟩
          have hl37 := (hl37.mono hI41)
          refine sr_op rfl rfl (ow_callp en212 rfl (want_c H hl37 (ws := [sSemi]) hl41) ?_ ?_)
          rotate_left
          · rintro ch_ w_ hb_
            exact (hP _ _ (badP.fin hb_ hT (((hI2.trans hI8).trans hImo).trans hI41) (List.Sublist.refl _))).one
          rintro _ _ ⟨l42, v42, hk_, hl42, H⟩
          rw [hk_, go_ok_] at hT
          have hw42 := hk_
          have hz43 := want_less hw42
          refine sr_nil ?_
          refine st_end hb (hR _ _ (.tuple #[]) (res_run (vs := []) Tryz.results130 rfl) ?_)
          exact ⟨I41, s5, 4, _, _, (((hI2.trans hI8).trans hImo).trans hI41), hT, hs5, i64_4, hl42, H⟩
        · have hn_ := hc38
          rw [takeT, if_neg (by rw [hn_]; decide)] at hl37
          rw [if_neg (by rw [hn_]; decide)] at hT
          refine st_skip ?_
          refine st_inBlock ?_
          refine st_region ?_
          refine sr_op rfl rfl (ow_add (r := 5) rfl rfl (by decide) ?_)
          refine sr_op rfl rfl (ow_move (v := .int .i64 5) rfl ?_)
          refine sr_nil ?_
          refine st_inLoop ?_
          refine st_seq ?_
          refine st_region ?_
          refine sr_op rfl rfl (ow_lss rfl rfl ?_)
          refine sr_nil ?_
          refine st_seq ?_
          refine st_no rfl ?_
          refine st_exit rfl ?_
          refine st_seq ?_
          refine st_seq ?_
          refine st_region ?_
          refine sr_op rfl rfl (ow_move (v := .pointer (some ⟨gP, 0, none⟩)) rfl ?_)
          refine sr_op rfl rfl (ow_nilCheck rfl ?_)
          refine sr_op rfl rfl (ow_fieldAddr fd182_2 ty28 rfl rfl (r := 2) rfl ?_)
          refine sr_op rfl rfl (ow_fieldAddr fd28_5 ty3 rfl rfl (r := 11) rfl ?_)
          refine sr_op rfl rfl (ow_load (v := .int .i64 0) ty3 H rfl 0 rfl rfl rfl rfl ?_)
          refine sr_op rfl rfl (ow_eql rfl rfl ?_)
          refine sr_nil ?_
          refine st_yes rfl ?_
          refine st_region ?_
          refine sr_op rfl rfl (ow_move (v := .pointer (some ⟨gP, 0, none⟩)) rfl ?_)
          refine sr_op rfl rfl (ow_callp en133 rfl (fail_c H hl37) ?_ ?_)
          · rintro _ _ h_
            exact h_.elim
          rintro _ _ ⟨rfl, H⟩
          exact (hP _ _ ⟨_, _, hT, rfl, Hp.back (H.sub (List.Sublist.cons_cons _ (List.Sublist.refl _))) ((hI2.trans hI8).trans hImo)⟩).one
theorem names_pc {B I L w} {f : Nat} {gP : Nat} {e : Int} {q0 q1 q2 q3 q4 q5 q6 q7 q8 q9 : Value} {l : List Tk} {v : Value} (H : Hp B I w (paB gP v e q0 q1 q2 q3 q4 q5 q6 q7 q8 q9 :: L)) (hl : RepS encTk I 4 l v) (hf : l.length < f) (hF : f ≤ 200000) : Calls Tryz.prog 131 #[.pointer (some ⟨gP, 0, none⟩)] w (Rp (fun r w' => ∃ I' o k l' v' vo vk, Le I I' ∧ namesT f l = .ok (o, k) l' ∧ RepS encS I' 1 o vo ∧ RepS encS I' 1 k vk ∧ RepS encTk I' 4 l' v' ∧ Hp B I' w' (paB gP v' e q0 vk vo q3 q4 q5 q6 q7 q8 q9 :: L)) (fun ch w' => badP B I gP e L (namesT f l) ch w')) := by
  have hT := namesT_eq f l
  refine calls_st (n := 18) Tryz.func131 rfl rfl rfl ?_
  intro G bF cs hb hfn hR hP
  simp only [ini]
  refine st_seq ?_
  refine st_region ?_
  refine sr_op rfl rfl (ow_move (v := .pointer (some ⟨gP, 0, none⟩)) rfl ?_)
  refine sr_op rfl rfl (ow_move (v := .pointer (some ⟨gP, 0, none⟩)) rfl ?_)
  refine sr_op rfl rfl (ow_move (v := .pointer (some ⟨gP, 0, none⟩)) rfl ?_)
  refine sr_op rfl rfl (ow_call en216 rfl (declared_c H) ?_)
  rintro _ _ ⟨I1, ga1, gb1, hI1, H, rfl, ha1, hb1⟩
  have hl := (hl.mono hI1)
  refine sr_op rfl rfl (ow_callp en215 rfl (someS_c (x := wOffice) H hl ha1 hb1 (by unfold S63; decide +kernel) (by omega) hF) ?_ ?_)
  rotate_left
  · rintro ch_ w_ hb_
    exact (hP _ _ (badP.fin hb_ hT hI1 (List.Sublist.refl _))).one
  rintro _ _ ⟨I2, az2, l2, v2, hI2, hk_, hz2, hl2, H⟩
  rw [hk_, go_ok_] at hT
  have hz3 := (gp_many _ (gp_decl _) f).lok hk_
  obtain ⟨a2A, a2c, rfl, a2m, a2M, a2⟩ := RepS.open_ hz2
  refine sr_op rfl rfl (ow_nilCheck rfl ?_)
  refine sr_op rfl rfl (ow_fieldAddr fd182_2 ty28 rfl rfl (r := 2) rfl ?_)
  refine sr_op rfl rfl (ow_fieldAddr fd28_2 ty22 rfl rfl (r := 4) rfl ?_)
  refine sr_op rfl rfl (ow_store ty22 H rfl (v := .slice a2A az2.length a2c) rfl [.slice a2A az2.length a2c] rfl rfl rfl 0 rfl rfl (fun _ H => ?_))
  refine sr_nil ?_
  refine st_region ?_
  refine sr_op rfl rfl (ow_move (v := .pointer (some ⟨gP, 0, none⟩)) rfl ?_)
  refine sr_op rfl rfl (ow_move (v := .pointer (some ⟨gP, 0, none⟩)) rfl ?_)
  refine sr_op rfl rfl (ow_move (v := .pointer (some ⟨gP, 0, none⟩)) rfl ?_)
  refine sr_op rfl rfl (ow_call en216 rfl (declared_c H) ?_)
  rintro _ _ ⟨I4, ga4, gb4, hI4, H, rfl, ha4, hb4⟩
  have hl2 := (hl2.mono hI4)
  refine sr_op rfl rfl (ow_callp en215 rfl (someS_c (x := wKind) H hl2 ha4 hb4 (by unfold S63; decide +kernel) (by omega) hF) ?_ ?_)
  rotate_left
  · rintro ch_ w_ hb_
    exact (hP _ _ (badP.fin hb_ hT ((hI1.trans hI2).trans hI4) (List.Sublist.refl _))).one
  rintro _ _ ⟨I5, az5, l5, v5, hI5, hk_, hz5, hl5, H⟩
  rw [hk_, go_ok_] at hT
  have hz6 := (gp_many _ (gp_decl _) f).lok hk_
  obtain ⟨a5A, a5c, rfl, a5m, a5M, a5⟩ := RepS.open_ hz5
  refine sr_op rfl rfl (ow_nilCheck rfl ?_)
  refine sr_op rfl rfl (ow_fieldAddr fd182_2 ty28 rfl rfl (r := 2) rfl ?_)
  refine sr_op rfl rfl (ow_fieldAddr fd28_1 ty22 rfl rfl (r := 3) rfl ?_)
  refine sr_op rfl rfl (ow_store ty22 H rfl (v := .slice a5A az5.length a5c) rfl [.slice a5A az5.length a5c] rfl rfl rfl 0 rfl rfl (fun _ H => ?_))
  refine sr_nil ?_
  refine st_end hb (hR _ _ (.tuple #[]) (res_run (vs := []) Tryz.results131 rfl) ?_)
  have a2 := ((a2.mono hI4).mono hI5)
  exact ⟨I5, _, _, _, _, _, _, (((hI1.trans hI2).trans hI4).trans hI5), hT, a2, a5, hl5, H⟩
theorem rules_c {B I L w} {f : Nat} {gP : Nat} {e : Int} {q0 q1 q2 q3 q4 q5 q6 q7 q8 q9 : Value} {l : List Tk} {v : Value} (H : Hp B I w (paB gP v e q0 q1 q2 q3 q4 q5 q6 q7 q8 q9 :: L)) (hl : RepS encTk I 4 l v) (hf : l.length < f) (hF : f ≤ 200000) : Calls Tryz.prog 132 #[.pointer (some ⟨gP, 0, none⟩)] w (Rp (fun r w' => ∃ I' rs c l' v' vr c0 c1 c2 c3 c4, Le I I' ∧ rulesT f l = .ok (rs, c) l' ∧ RepS encRu I' 8 rs vr ∧ RepL I' (encEx c) [c0, c1, c2, c3, c4] ∧ RepS encTk I' 4 l' v' ∧ Hp B I' w' (paB gP v' e q0 q1 q2 vr c0 c1 c2 c3 c4 q9 :: L)) (fun ch w' => badP B I gP e L (rulesT f l) ch w')) := by
  have hT := rulesT_eq f l
  refine calls_st (n := 22) Tryz.func132 rfl rfl rfl ?_
  intro G bF cs hb hfn hR hP
  simp only [ini]
  refine st_seq ?_
  refine st_region ?_
  refine sr_op rfl rfl (ow_move (v := .pointer (some ⟨gP, 0, none⟩)) rfl ?_)
  refine sr_op rfl rfl (ow_move (v := .pointer (some ⟨gP, 0, none⟩)) rfl ?_)
  refine sr_op rfl rfl (ow_move (v := .pointer (some ⟨gP, 0, none⟩)) rfl ?_)
  refine sr_op rfl rfl (ow_makeFunc (fv := [.pointer (some ⟨gP, 0, none⟩)]) (cv := []) rfl rfl ?_)
  refine sr_op rfl rfl (ow_callp en217 rfl (someR_c H hl (by omega) hF) ?_ ?_)
  rotate_left
  · rintro ch_ w_ hb_
    exact (hP _ _ (badP.fin hb_ hT (Le.refl _) (List.Sublist.refl _))).one
  rintro _ _ ⟨I1, az1, l1, v1, hI1, hk_, hz1, hl1, H⟩
  rw [hk_, go_ok_] at hT
  have hz2 := (gp_many _ (gp_rule f) f).lok hk_
  obtain ⟨a1A, a1c, rfl, a1m, a1M, a1⟩ := RepS.open_ hz1
  refine sr_op rfl rfl (ow_nilCheck rfl ?_)
  refine sr_op rfl rfl (ow_fieldAddr fd182_2 ty28 rfl rfl (r := 2) rfl ?_)
  refine sr_op rfl rfl (ow_fieldAddr fd28_3 ty23 rfl rfl (r := 5) rfl ?_)
  refine sr_op rfl rfl (ow_store ty23 H rfl (v := .slice a1A az1.length a1c) rfl [.slice a1A az1.length a1c] rfl rfl rfl 0 rfl rfl (fun _ H => ?_))
  refine sr_nil ?_
  refine st_seq ?_
  refine st_region ?_
  refine sr_op rfl rfl (ow_move (v := .pointer (some ⟨gP, 0, none⟩)) rfl ?_)
  refine sr_op rfl rfl (ow_buildSlice H (e := 9) (ps := [(0, .string ⟨#[99, 104, 97, 110, 103, 101]⟩), (1, .string ⟨#[61]⟩)]) rfl [.string ⟨#[99, 104, 97, 110, 103, 101]⟩, .string ⟨#[61]⟩] (fun _ => by kernel_rfl) (fun g3 _ H => ?_))
  obtain ⟨I4, hI4, H, hl4⟩ := lit_done (enc := encS) (sz := 1) (n := 2) [wChange, sEq] rfl (by omega) H ⟨((s_iff (s := wChange)).2 ⟨rfl, by unfold S63; decide +kernel⟩), rfl, ⟨((s_iff (s := sEq)).2 ⟨rfl, by unfold S63; decide +kernel⟩), rfl, rfl⟩⟩
  have hl1 := (hl1.mono hI4)
  refine sr_op rfl rfl (ow_callp en212 rfl (want_c H hl1 (ws := [wChange, sEq]) hl4) ?_ ?_)
  rotate_left
  · rintro ch_ w_ hb_
    exact (hP _ _ (badP.fin hb_ hT (hI1.trans hI4) (List.Sublist.refl _))).one
  rintro _ _ ⟨l5, v5, hk_, hl5, H⟩
  rw [hk_, go_ok_] at hT
  have hw5 := hk_
  have hz6 := want_less hw5
  refine sr_nil ?_
  refine st_seq ?_
  refine st_region ?_
  refine sr_op rfl rfl (ow_move (v := .pointer (some ⟨gP, 0, none⟩)) rfl ?_)
  refine sr_op rfl rfl (ow_move (v := .pointer (some ⟨gP, 0, none⟩)) rfl ?_)
  refine sr_op rfl rfl (ow_callp en219 rfl (expr_c f H hl5 (by omega) hF) ?_ ?_)
  rotate_left
  · rintro ch_ w_ hb_
    exact (hP _ _ (badP.fin hb_ hT (hI1.trans hI4) (List.Sublist.refl _))).one
  rintro _ _ ⟨I7, x7, us7, l7, v7, hI7, hk_, rfl, hx7, hl7, H⟩
  rw [hk_, go_ok_] at hT
  have hz8 := (gp_expr f).lok hk_
  have d7 := hx7
  obtain ⟨d7v4, rfl, d7_0, d7_1, d7_2, d7_3, d7_4⟩ := ex_iff.1 hx7
  obtain ⟨d7A4, d7c4, rfl, d7m4, d7M4, d7_4⟩ := RepS.open_ d7_4
  refine sr_op rfl rfl (ow_nilCheck rfl ?_)
  refine sr_op rfl rfl (ow_fieldAddr fd182_2 ty28 rfl rfl (r := 2) rfl ?_)
  refine sr_op rfl rfl (ow_fieldAddr fd28_4 ty26 rfl rfl (r := 6) rfl ?_)
  refine sr_op rfl rfl (ow_store ty26 H rfl (v := .agg #[.int .i64 x7.kind, .int .i64 x7.n, .int .i64 x7.no, .string x7.name, .slice d7A4 x7.l.length d7c4]) rfl [.int .i64 x7.kind, .int .i64 x7.n, .int .i64 x7.no, .string x7.name, .slice d7A4 x7.l.length d7c4] rfl rfl rfl 0 rfl rfl (fun _ H => ?_))
  refine sr_nil ?_
  refine st_region ?_
  refine sr_op rfl rfl (ow_move (v := .pointer (some ⟨gP, 0, none⟩)) rfl ?_)
  refine sr_op rfl rfl (ow_buildSlice H (e := 9) (ps := [(0, .string ⟨#[59]⟩)]) rfl [.string ⟨#[59]⟩] (fun _ => by kernel_rfl) (fun g9 _ H => ?_))
  obtain ⟨I10, hI10, H, hl10⟩ := lit_done (enc := encS) (sz := 1) (n := 1) [sSemi] rfl (by omega) H ⟨((s_iff (s := sSemi)).2 ⟨rfl, by unfold S63; decide +kernel⟩), rfl, rfl⟩
  have hl7 := (hl7.mono hI10)
  refine sr_op rfl rfl (ow_callp en212 rfl (want_c H hl7 (ws := [sSemi]) hl10) ?_ ?_)
  rotate_left
  · rintro ch_ w_ hb_
    exact (hP _ _ (badP.fin hb_ hT (((hI1.trans hI4).trans hI7).trans hI10) (List.Sublist.refl _))).one
  rintro _ _ ⟨l11, v11, hk_, hl11, H⟩
  rw [hk_, go_ok_] at hT
  have hw11 := hk_
  have hz12 := want_less hw11
  refine sr_nil ?_
  refine st_end hb (hR _ _ (.tuple #[]) (res_run (vs := []) Tryz.results132 rfl) ?_)
  have a1 := (((a1.mono hI4).mono hI7).mono hI10)
  have d7 := (d7.mono hI10)
  exact ⟨I10, _, _, _, _, _, _, _, _, _, _, (((hI1.trans hI4).trans hI7).trans hI10), hT, a1, d7, hl11, H⟩
end Go.Proofs.YtghmjnbpkobooaaGreatDoor
