/-
  Walks: the parser's small functions.
-/
import Derived.Test.YtghmjnbpkobooaaGreatDoorY5
set_option linter.unusedVariables false
set_option linter.unusedSimpArgs false
set_option maxRecDepth 10000
set_option maxHeartbeats 4000000
namespace Go.Proofs.YtghmjnbpkobooaaGreatDoor
open Go Go.RowKit

def modesW : List ByteArray := [nilS, wOld, wNew, wBoth, wEither]
theorem words_c {B I L w} (H : Hp B I w L) : Calls Tryz.prog 210 #[] w (Rt fun r w' => ∃ I' v, Le I I' ∧ Hp B I' w' L ∧ r = v ∧ RepS encS I' 1 resW v) := by
  refine calls_st (n := 2) Tryz.func210 rfl rfl rfl ?_
  intro G bF cs hb hfn hR hP
  simp only [ini]
  refine st_seq ?_
  refine st_region ?_
  refine sr_op rfl rfl (ow_assign (v := .slice none 0 0) rfl ?_)
  refine sr_nil ?_
  refine st_seq ?_
  refine st_region ?_
  refine sr_op rfl rfl (ow_buildSlice H (e := 9) (ps := [(0, .string ⟨#[112, 111, 108, 105, 99, 121]⟩), (1, .string ⟨#[109, 111, 100, 101]⟩), (2, .string ⟨#[111, 108, 100]⟩), (3, .string ⟨#[110, 101, 119]⟩), (4, .string ⟨#[98, 111, 116, 104]⟩), (5, .string ⟨#[101, 105, 116, 104, 101, 114]⟩), (6, .string ⟨#[111, 102, 102, 105, 99, 101]⟩), (7, .string ⟨#[107, 105, 110, 100]⟩), (8, .string ⟨#[114, 117, 108, 101]⟩), (9, .string ⟨#[116, 104, 105, 110, 107]⟩), (10, .string ⟨#[99, 104, 97, 110, 103, 101]⟩), (11, .string ⟨#[115, 111, 109, 101]⟩), (12, .string ⟨#[119, 101, 105, 103, 104, 116]⟩), (13, .string ⟨#[111, 102]⟩), (14, .string ⟨#[117, 112, 116, 111]⟩), (15, .string ⟨#[101, 108, 115, 101]⟩)]) rfl [.string ⟨#[112, 111, 108, 105, 99, 121]⟩, .string ⟨#[109, 111, 100, 101]⟩, .string ⟨#[111, 108, 100]⟩, .string ⟨#[110, 101, 119]⟩, .string ⟨#[98, 111, 116, 104]⟩, .string ⟨#[101, 105, 116, 104, 101, 114]⟩, .string ⟨#[111, 102, 102, 105, 99, 101]⟩, .string ⟨#[107, 105, 110, 100]⟩, .string ⟨#[114, 117, 108, 101]⟩, .string ⟨#[116, 104, 105, 110, 107]⟩, .string ⟨#[99, 104, 97, 110, 103, 101]⟩, .string ⟨#[115, 111, 109, 101]⟩, .string ⟨#[119, 101, 105, 103, 104, 116]⟩, .string ⟨#[111, 102]⟩, .string ⟨#[117, 112, 116, 111]⟩, .string ⟨#[101, 108, 115, 101]⟩] (fun _ => by kernel_rfl) (fun g1 _ H => ?_))
  obtain ⟨I2, hI2, H, hl2⟩ := lit_done (enc := encS) (sz := 1) (n := 16) [wPolicy, wMode, wOld, wNew, wBoth, wEither, wOffice, wKind, wRule, wThink, wChange, wSome, wWeight, wOf, wUpto, wElse] rfl (by omega) H ⟨((s_iff (s := wPolicy)).2 ⟨rfl, by unfold S63; decide +kernel⟩), rfl, ⟨((s_iff (s := wMode)).2 ⟨rfl, by unfold S63; decide +kernel⟩), rfl, ⟨((s_iff (s := wOld)).2 ⟨rfl, by unfold S63; decide +kernel⟩), rfl, ⟨((s_iff (s := wNew)).2 ⟨rfl, by unfold S63; decide +kernel⟩), rfl, ⟨((s_iff (s := wBoth)).2 ⟨rfl, by unfold S63; decide +kernel⟩), rfl, ⟨((s_iff (s := wEither)).2 ⟨rfl, by unfold S63; decide +kernel⟩), rfl, ⟨((s_iff (s := wOffice)).2 ⟨rfl, by unfold S63; decide +kernel⟩), rfl, ⟨((s_iff (s := wKind)).2 ⟨rfl, by unfold S63; decide +kernel⟩), rfl, ⟨((s_iff (s := wRule)).2 ⟨rfl, by unfold S63; decide +kernel⟩), rfl, ⟨((s_iff (s := wThink)).2 ⟨rfl, by unfold S63; decide +kernel⟩), rfl, ⟨((s_iff (s := wChange)).2 ⟨rfl, by unfold S63; decide +kernel⟩), rfl, ⟨((s_iff (s := wSome)).2 ⟨rfl, by unfold S63; decide +kernel⟩), rfl, ⟨((s_iff (s := wWeight)).2 ⟨rfl, by unfold S63; decide +kernel⟩), rfl, ⟨((s_iff (s := wOf)).2 ⟨rfl, by unfold S63; decide +kernel⟩), rfl, ⟨((s_iff (s := wUpto)).2 ⟨rfl, by unfold S63; decide +kernel⟩), rfl, ⟨((s_iff (s := wElse)).2 ⟨rfl, by unfold S63; decide +kernel⟩), rfl, rfl⟩⟩⟩⟩⟩⟩⟩⟩⟩⟩⟩⟩⟩⟩⟩⟩
  refine sr_op rfl rfl (ow_assign (v := .slice (some ⟨g1, 0, none⟩) 16 16) rfl ?_)
  refine sr_nil ?_
  refine st_ret hb (hR _ _ (.slice (some ⟨g1, 0, none⟩) 16 16) (res_run (vs := [.slice (some ⟨g1, 0, none⟩) 16 16]) Tryz.results210 ⟨_, _, rfl, rfl, rfl⟩) ?_)
  exact ⟨_, rfl, I2, _, hI2, H, rfl, hl2⟩
theorem modes_c {B I L w} (H : Hp B I w L) : Calls Tryz.prog 128 #[] w (Rt fun r w' => ∃ I' v, Le I I' ∧ Hp B I' w' L ∧ r = v ∧ RepS encS I' 1 modesW v) := by
  refine calls_st (n := 2) Tryz.func128 rfl rfl rfl ?_
  intro G bF cs hb hfn hR hP
  simp only [ini]
  refine st_seq ?_
  refine st_region ?_
  refine sr_op rfl rfl (ow_assign (v := .slice none 0 0) rfl ?_)
  refine sr_nil ?_
  refine st_seq ?_
  refine st_region ?_
  refine sr_op rfl rfl (ow_buildSlice H (e := 9) (ps := [(1, .string ⟨#[111, 108, 100]⟩), (2, .string ⟨#[110, 101, 119]⟩), (3, .string ⟨#[98, 111, 116, 104]⟩), (4, .string ⟨#[101, 105, 116, 104, 101, 114]⟩)]) rfl [.string ⟨#[]⟩, .string ⟨#[111, 108, 100]⟩, .string ⟨#[110, 101, 119]⟩, .string ⟨#[98, 111, 116, 104]⟩, .string ⟨#[101, 105, 116, 104, 101, 114]⟩] (fun _ => by kernel_rfl) (fun g1 _ H => ?_))
  obtain ⟨I2, hI2, H, hl2⟩ := lit_done (enc := encS) (sz := 1) (n := 5) [nilS, wOld, wNew, wBoth, wEither] rfl (by omega) H ⟨((s_iff (s := nilS)).2 ⟨rfl, by unfold S63; decide +kernel⟩), rfl, ⟨((s_iff (s := wOld)).2 ⟨rfl, by unfold S63; decide +kernel⟩), rfl, ⟨((s_iff (s := wNew)).2 ⟨rfl, by unfold S63; decide +kernel⟩), rfl, ⟨((s_iff (s := wBoth)).2 ⟨rfl, by unfold S63; decide +kernel⟩), rfl, ⟨((s_iff (s := wEither)).2 ⟨rfl, by unfold S63; decide +kernel⟩), rfl, rfl⟩⟩⟩⟩⟩
  refine sr_op rfl rfl (ow_assign (v := .slice (some ⟨g1, 0, none⟩) 5 5) rfl ?_)
  refine sr_nil ?_
  refine st_ret hb (hR _ _ (.slice (some ⟨g1, 0, none⟩) 5 5) (res_run (vs := [.slice (some ⟨g1, 0, none⟩) 5 5]) Tryz.results128 ⟨_, _, rfl, rfl, rfl⟩) ?_)
  exact ⟨_, rfl, I2, _, hI2, H, rfl, hl2⟩
theorem fail_c {B I L w} {gP : Nat} {e : Int} {q0 q1 q2 q3 q4 q5 q6 q7 q8 q9 : Value} {l : List Tk} {v : Value} (H : Hp B I w (paB gP v e q0 q1 q2 q3 q4 q5 q6 q7 q8 q9 :: L)) (hl : RepS encTk I 4 l v) : Calls Tryz.prog 133 #[.pointer (some ⟨gP, 0, none⟩)] w (Rp (fun _ _ => False) (fun ch w' => ch = wrongV (placeT l e) ∧ Hp B I w' (paB gP v e q0 q1 q2 q3 q4 q5 q6 q7 q8 q9 :: L))) := by
  cases l
  · obtain ⟨s0A, s0c, rfl, s0m, s0M, s0⟩ := RepS.open_ hl
    refine calls_st (n := 23) Tryz.func133 rfl rfl rfl ?_
    intro G bF cs hb hfn hR hP
    simp only [ini]
    refine st_seq ?_
    refine st_seq ?_
    refine st_region ?_
    refine sr_op rfl rfl (ow_move (v := .pointer (some ⟨gP, 0, none⟩)) rfl ?_)
    refine sr_op rfl rfl (ow_nilCheck rfl ?_)
    refine sr_op rfl rfl (ow_fieldAddr fd182_0 ty67 rfl rfl (r := 0) rfl ?_)
    refine sr_op rfl rfl (ow_load (v := .slice s0A 0 s0c) ty67 H rfl 0 rfl rfl rfl rfl ?_)
    refine sr_op rfl rfl (ow_lenS sl67 rfl rfl ?_)
    refine sr_op rfl rfl (ow_gtr rfl rfl ?_)
    refine sr_nil ?_
    refine st_no rfl ?_
    refine st_skip ?_
    refine st_region ?_
    refine sr_op rfl rfl (ow_move (v := .pointer (some ⟨gP, 0, none⟩)) rfl ?_)
    refine sr_op rfl rfl (ow_nilCheck rfl ?_)
    refine sr_op rfl rfl (ow_fieldAddr fd182_1 ty3 rfl rfl (r := 1) rfl ?_)
    refine sr_op rfl rfl (ow_load (v := .int .i64 e) ty3 H rfl 0 rfl rfl rfl rfl ?_)
    refine sr_op rfl rfl (ow_build (ps := [(0, .int .i64 e)]) (v := .agg #[.int .i64 e]) rfl (fun _ => by kernel_rfl) ?_)
    refine sr_op rfl rfl (ow_iface (v := .agg #[.int .i64 e]) Tryz.underlying178 rfl rfl ?_)
    refine sr_op rfl rfl (ow_panic rfl ?_)
    exact (hP _ _ ⟨rfl, H⟩).one
  · rename_i t r
    have hlen_ : (t :: r).length = r.length + 1 := rfl
    obtain ⟨s0A, s0c, rfl, s0m, s0M, s0⟩ := RepS.open_ hl
    refine calls_st (n := 23) Tryz.func133 rfl rfl rfl ?_
    intro G bF cs hb hfn hR hP
    simp only [ini]
    refine st_seq ?_
    refine st_seq ?_
    refine st_region ?_
    refine sr_op rfl rfl (ow_move (v := .pointer (some ⟨gP, 0, none⟩)) rfl ?_)
    refine sr_op rfl rfl (ow_nilCheck rfl ?_)
    refine sr_op rfl rfl (ow_fieldAddr fd182_0 ty67 rfl rfl (r := 0) rfl ?_)
    refine sr_op rfl rfl (ow_load (v := .slice s0A (r.length + 1 : Nat) s0c) ty67 H rfl 0 rfl rfl rfl rfl ?_)
    refine sr_op rfl rfl (ow_lenS sl67 rfl rfl ?_)
    refine sr_op rfl rfl (ow_gtr rfl rfl ?_)
    refine sr_nil ?_
    refine st_yes (congrArg Value.bool (decide_eq_true (by omega))) ?_
    refine st_region ?_
    refine sr_op rfl rfl (ow_move (v := .pointer (some ⟨gP, 0, none⟩)) rfl ?_)
    refine sr_op rfl rfl (ow_nilCheck rfl ?_)
    refine sr_op rfl rfl (ow_fieldAddr fd182_0 ty67 rfl rfl (r := 0) rfl ?_)
    refine sr_op rfl rfl (ow_load (v := .slice s0A (r.length + 1 : Nat) s0c) ty67 H rfl 0 rfl rfl rfl rfl ?_)
    have he1 : (t :: r)[0]? = some t := rfl
    obtain ⟨b1, o1, us1, hA1, hat1, hul1, hr1⟩ := RepS.get s0 he1
    have d1 := hr1
    obtain ⟨rfl, d1_0, d1_1, d1_2, d1_3⟩ := tk_iff.1 hr1
    refine sr_op rfl rfl (ow_indexAddrA sl67 ty71 hA1 rfl rfl (by omega) (by omega) (r := o1 + 0 * 4) rfl ?_)
    refine sr_op rfl rfl (ow_fieldAddr fd71_3 ty3 rfl rfl (r := o1 + 0 * 4 + 3) rfl ?_)
    refine sr_op rfl rfl (ow_loadI (v := .int .i64 t.at_) ty3 H rfl (At.sub (vs := [.int .i64 t.at_]) hat1 3 rfl) rfl rfl rfl ?_)
    refine sr_op rfl rfl (ow_build (ps := [(0, .int .i64 t.at_)]) (v := .agg #[.int .i64 t.at_]) rfl (fun _ => by kernel_rfl) ?_)
    refine sr_op rfl rfl (ow_iface (v := .agg #[.int .i64 t.at_]) Tryz.underlying178 rfl rfl ?_)
    refine sr_op rfl rfl (ow_panic rfl ?_)
    exact (hP _ _ ⟨rfl, H⟩).one
theorem is_c {B I L w} {x : ByteArray} {gP : Nat} {e : Int} {q0 q1 q2 q3 q4 q5 q6 q7 q8 q9 : Value} {l : List Tk} {v : Value} (H : Hp B I w (paB gP v e q0 q1 q2 q3 q4 q5 q6 q7 q8 q9 :: L)) (hl : RepS encTk I 4 l v) : Calls Tryz.prog 267 #[.pointer (some ⟨gP, 0, none⟩), .string x] w (Rt fun r w' => r = .bool (isT x l) ∧ Hp B I w' (paB gP v e q0 q1 q2 q3 q4 q5 q6 q7 q8 q9 :: L)) := by
  cases l
  · obtain ⟨s0A, s0c, rfl, s0m, s0M, s0⟩ := RepS.open_ hl
    refine calls_st (n := 32) Tryz.func267 rfl rfl rfl ?_
    intro G bF cs hb hfn hR hP
    simp only [ini]
    refine st_seq ?_
    refine st_region ?_
    refine sr_op rfl rfl (ow_assign (v := .bool false) rfl ?_)
    refine sr_nil ?_
    refine st_seq ?_
    refine st_region ?_
    refine sr_op rfl rfl (ow_move (v := .pointer (some ⟨gP, 0, none⟩)) rfl ?_)
    refine sr_op rfl rfl (ow_nilCheck rfl ?_)
    refine sr_op rfl rfl (ow_fieldAddr fd182_0 ty67 rfl rfl (r := 0) rfl ?_)
    refine sr_op rfl rfl (ow_load (v := .slice s0A 0 s0c) ty67 H rfl 0 rfl rfl rfl rfl ?_)
    refine sr_op rfl rfl (ow_lenS sl67 rfl rfl ?_)
    refine sr_op rfl rfl (ow_gtr rfl rfl ?_)
    refine sr_op rfl rfl (ow_move (v := .bool false) rfl ?_)
    refine sr_pass rfl (j := 6) (d := 11) rfl rfl rfl (u := false) (v := true) rfl rfl ?_
    refine sr_pass rfl (j := 6) (d := 11) rfl rfl rfl (u := false) (v := true) rfl rfl ?_
    refine sr_pass rfl (j := 6) (d := 11) rfl rfl rfl (u := false) (v := true) rfl rfl ?_
    refine sr_pass rfl (j := 6) (d := 11) rfl rfl rfl (u := false) (v := true) rfl rfl ?_
    refine sr_pass rfl (j := 6) (d := 11) rfl rfl rfl (u := false) (v := true) rfl rfl ?_
    refine sr_pass rfl (j := 6) (d := 11) rfl rfl rfl (u := false) (v := true) rfl rfl ?_
    refine sr_pass rfl (j := 6) (d := 11) rfl rfl rfl (u := false) (v := true) rfl rfl ?_
    refine sr_pass rfl (j := 6) (d := 11) rfl rfl rfl (u := false) (v := true) rfl rfl ?_
    refine sr_op rfl rfl (ow_pick (v := .bool false) rfl rfl ?_)
    refine sr_op rfl rfl (ow_move (v := .bool false) rfl ?_)
    refine sr_pass rfl (j := 16) (d := 21) rfl rfl rfl (u := false) (v := true) rfl rfl ?_
    refine sr_pass rfl (j := 16) (d := 21) rfl rfl rfl (u := false) (v := true) rfl rfl ?_
    refine sr_pass rfl (j := 16) (d := 21) rfl rfl rfl (u := false) (v := true) rfl rfl ?_
    refine sr_pass rfl (j := 16) (d := 21) rfl rfl rfl (u := false) (v := true) rfl rfl ?_
    refine sr_pass rfl (j := 16) (d := 21) rfl rfl rfl (u := false) (v := true) rfl rfl ?_
    refine sr_pass rfl (j := 16) (d := 21) rfl rfl rfl (u := false) (v := true) rfl rfl ?_
    refine sr_pass rfl (j := 16) (d := 21) rfl rfl rfl (u := false) (v := true) rfl rfl ?_
    refine sr_pass rfl (j := 16) (d := 21) rfl rfl rfl (u := false) (v := true) rfl rfl ?_
    refine sr_pass rfl (j := 16) (d := 21) rfl rfl rfl (u := false) (v := true) rfl rfl ?_
    refine sr_op rfl rfl (ow_pick (v := .bool false) rfl rfl ?_)
    refine sr_op rfl rfl (ow_assign (v := .bool false) rfl ?_)
    refine sr_nil ?_
    refine st_ret hb (hR _ _ (.bool false) (res_run (vs := [.bool false]) Tryz.results267 ⟨_, _, rfl, rfl, rfl⟩) ?_)
    exact ⟨_, rfl, rfl, H⟩
  · rename_i t r
    have hlen_ : (t :: r).length = r.length + 1 := rfl
    obtain ⟨s0A, s0c, rfl, s0m, s0M, s0⟩ := RepS.open_ hl
    refine calls_st (n := 32) Tryz.func267 rfl rfl rfl ?_
    intro G bF cs hb hfn hR hP
    simp only [ini]
    refine st_seq ?_
    refine st_region ?_
    refine sr_op rfl rfl (ow_assign (v := .bool false) rfl ?_)
    refine sr_nil ?_
    refine st_seq ?_
    refine st_region ?_
    refine sr_op rfl rfl (ow_move (v := .pointer (some ⟨gP, 0, none⟩)) rfl ?_)
    refine sr_op rfl rfl (ow_nilCheck rfl ?_)
    refine sr_op rfl rfl (ow_fieldAddr fd182_0 ty67 rfl rfl (r := 0) rfl ?_)
    refine sr_op rfl rfl (ow_load (v := .slice s0A (r.length + 1 : Nat) s0c) ty67 H rfl 0 rfl rfl rfl rfl ?_)
    refine sr_op rfl rfl (ow_lenS sl67 rfl rfl ?_)
    refine sr_op rfl rfl (ow_gtr rfl rfl ?_)
    refine sr_op rfl rfl (ow_move (v := .bool (decide (0 < ((r.length + 1 : Nat) : Int)))) rfl ?_)
    refine sr_want rfl (j := 6) (d := 11) rfl rfl rfl (v := true) (congrArg Value.bool (decide_eq_true (by omega))) rfl (ow_move (v := .pointer (some ⟨gP, 0, none⟩)) rfl ?_)
    refine sr_want rfl (j := 6) (d := 11) rfl rfl rfl (v := true) (congrArg Value.bool (decide_eq_true (by omega))) rfl (ow_nilCheck rfl ?_)
    refine sr_want rfl (j := 6) (d := 11) rfl rfl rfl (v := true) (congrArg Value.bool (decide_eq_true (by omega))) rfl (ow_fieldAddr fd182_0 ty67 rfl rfl (r := 0) rfl ?_)
    refine sr_want rfl (j := 6) (d := 11) rfl rfl rfl (v := true) (congrArg Value.bool (decide_eq_true (by omega))) rfl (ow_load (v := .slice s0A (r.length + 1 : Nat) s0c) ty67 H rfl 0 rfl rfl rfl rfl ?_)
    have he1 : (t :: r)[0]? = some t := rfl
    obtain ⟨b1, o1, us1, hA1, hat1, hul1, hr1⟩ := RepS.get s0 he1
    have d1 := hr1
    obtain ⟨rfl, d1_0, d1_1, d1_2, d1_3⟩ := tk_iff.1 hr1
    refine sr_want rfl (j := 6) (d := 11) rfl rfl rfl (v := true) (congrArg Value.bool (decide_eq_true (by omega))) rfl (ow_indexAddrA sl67 ty71 hA1 rfl rfl (by omega) (by omega) (r := o1 + 0 * 4) rfl ?_)
    refine sr_want rfl (j := 6) (d := 11) rfl rfl rfl (v := true) (congrArg Value.bool (decide_eq_true (by omega))) rfl (ow_fieldAddr fd71_0 ty3 rfl rfl (r := o1 + 0 * 4 + 0) rfl ?_)
    refine sr_want rfl (j := 6) (d := 11) rfl rfl rfl (v := true) (congrArg Value.bool (decide_eq_true (by omega))) rfl (ow_loadI (v := .int .i64 t.kind) ty3 H rfl (At.sub (vs := [.int .i64 t.kind]) hat1 0 rfl) rfl rfl rfl ?_)
    refine sr_want rfl (j := 6) (d := 11) rfl rfl rfl (v := true) (congrArg Value.bool (decide_eq_true (by omega))) rfl (ow_neq rfl rfl ?_)
    refine sr_op rfl rfl (ow_pick (a := true) (v := .bool (!decide (t.kind = 2))) (congrArg Value.bool (decide_eq_true (by omega))) rfl ?_)
    refine sr_op rfl rfl (ow_move (v := .bool (!decide (t.kind = 2))) rfl ?_)
    refine sr_cut 10 (fun m_ w_ => ∃ (r_ : Sl) (v_ : Bool), m_ = (31, .bool v_) :: (4, .bool false) :: r_ ∧ Hp B I w_ (paB gP (.slice s0A (r.length + 1 : Nat) s0c) e q0 q1 q2 q3 q4 q5 q6 q7 q8 q9 :: L) ∧ v_ = ((!decide (t.kind = 2)) && (decide (t.text = x)))) (fun again => ?_) ?_
    · rcases hg : !decide (t.kind = 2) with _ | _
      · refine sr_pass rfl (j := 16) (d := 21) rfl rfl rfl (u := false) (v := true) rfl rfl ?_
        refine sr_pass rfl (j := 16) (d := 21) rfl rfl rfl (u := false) (v := true) rfl rfl ?_
        refine sr_pass rfl (j := 16) (d := 21) rfl rfl rfl (u := false) (v := true) rfl rfl ?_
        refine sr_pass rfl (j := 16) (d := 21) rfl rfl rfl (u := false) (v := true) rfl rfl ?_
        refine sr_pass rfl (j := 16) (d := 21) rfl rfl rfl (u := false) (v := true) rfl rfl ?_
        refine sr_pass rfl (j := 16) (d := 21) rfl rfl rfl (u := false) (v := true) rfl rfl ?_
        refine sr_pass rfl (j := 16) (d := 21) rfl rfl rfl (u := false) (v := true) rfl rfl ?_
        refine sr_pass rfl (j := 16) (d := 21) rfl rfl rfl (u := false) (v := true) rfl rfl ?_
        refine sr_pass rfl (j := 16) (d := 21) rfl rfl rfl (u := false) (v := true) rfl rfl ?_
        refine sr_op rfl rfl (ow_pick (v := .bool false) rfl rfl ?_)
        exact sr_live [31, 4] (again _ _ ⟨_, _, rfl, H, by rw [hg] <;> rfl⟩)
      · refine sr_want rfl (j := 16) (d := 21) rfl rfl rfl (v := true) rfl rfl (ow_move (v := .pointer (some ⟨gP, 0, none⟩)) rfl ?_)
        refine sr_want rfl (j := 16) (d := 21) rfl rfl rfl (v := true) rfl rfl (ow_nilCheck rfl ?_)
        refine sr_want rfl (j := 16) (d := 21) rfl rfl rfl (v := true) rfl rfl (ow_fieldAddr fd182_0 ty67 rfl rfl (r := 0) rfl ?_)
        refine sr_want rfl (j := 16) (d := 21) rfl rfl rfl (v := true) rfl rfl (ow_load (v := .slice s0A (r.length + 1 : Nat) s0c) ty67 H rfl 0 rfl rfl rfl rfl ?_)
        refine sr_want rfl (j := 16) (d := 21) rfl rfl rfl (v := true) rfl rfl (ow_indexAddrA sl67 ty71 hA1 rfl rfl (by omega) (by omega) (r := o1 + 0 * 4) rfl ?_)
        refine sr_want rfl (j := 16) (d := 21) rfl rfl rfl (v := true) rfl rfl (ow_fieldAddr fd71_1 ty9 rfl rfl (r := o1 + 0 * 4 + 1) rfl ?_)
        refine sr_want rfl (j := 16) (d := 21) rfl rfl rfl (v := true) rfl rfl (ow_loadI (v := .string t.text) ty9 H rfl (At.sub (vs := [.string t.text]) hat1 1 rfl) rfl rfl rfl ?_)
        refine sr_want rfl (j := 16) (d := 21) rfl rfl rfl (v := true) rfl rfl (ow_move (v := .string x) rfl ?_)
        refine sr_want rfl (j := 16) (d := 21) rfl rfl rfl (v := true) rfl rfl (ow_seq rfl rfl ?_)
        refine sr_op rfl rfl (ow_pick (v := .bool (decide (t.text = x))) rfl rfl ?_)
        exact sr_live [31, 4] (again _ _ ⟨_, _, rfl, H, by rw [hg] <;> rfl⟩)
    rintro _ _ ⟨r, _, rfl, H, rfl⟩
    refine sr_op rfl rfl (ow_assign (v := .bool ((!decide (t.kind = 2)) && (decide (t.text = x)))) rfl ?_)
    refine sr_nil ?_
    refine st_ret hb (hR _ _ (.bool ((!decide (t.kind = 2)) && (decide (t.text = x)))) (res_run (vs := [.bool ((!decide (t.kind = 2)) && (decide (t.text = x)))]) Tryz.results267 ⟨_, _, rfl, rfl, rfl⟩) ?_)
    exact ⟨_, rfl, rfl, H⟩
theorem take_c {B I L w} {x : ByteArray} {gP : Nat} {e : Int} {q0 q1 q2 q3 q4 q5 q6 q7 q8 q9 : Value} {l : List Tk} {v : Value} (H : Hp B I w (paB gP v e q0 q1 q2 q3 q4 q5 q6 q7 q8 q9 :: L)) (hl : RepS encTk I 4 l v) : Calls Tryz.prog 214 #[.pointer (some ⟨gP, 0, none⟩), .string x] w (Rt fun r w' => ∃ v', r = .bool (isT x l) ∧ RepS encTk I 4 (takeT x l) v' ∧ Hp B I w' (paB gP v' e q0 q1 q2 q3 q4 q5 q6 q7 q8 q9 :: L)) := by
  cases l
  · obtain ⟨s0A, s0c, rfl, s0m, s0M, s0⟩ := RepS.open_ hl
    refine calls_st (n := 19) Tryz.func214 rfl rfl rfl ?_
    intro G bF cs hb hfn hR hP
    simp only [ini]
    refine st_seq ?_
    refine st_region ?_
    refine sr_op rfl rfl (ow_assign (v := .bool false) rfl ?_)
    refine sr_nil ?_
    refine st_seq ?_
    refine st_region ?_
    refine sr_op rfl rfl (ow_move (v := .pointer (some ⟨gP, 0, none⟩)) rfl ?_)
    refine sr_op rfl rfl (ow_move (v := .string x) rfl ?_)
    refine sr_op rfl rfl (ow_call en267 rfl (is_c H s0 (x := x)) ?_)
    rintro _ _ ⟨rfl, H⟩
    refine sr_op rfl rfl (ow_assign (v := .bool (isT x [])) rfl ?_)
    refine sr_nil ?_
    refine st_seq ?_
    refine st_seq ?_
    refine st_region ?_
    refine sr_op rfl rfl (ow_move (v := .bool (isT x [])) rfl ?_)
    refine sr_nil ?_
    refine st_no (congrArg Value.bool rfl) ?_
    refine st_skip ?_
    refine st_seq ?_
    refine st_region ?_
    refine sr_op rfl rfl (ow_move (v := .bool (isT x [])) rfl ?_)
    refine sr_op rfl rfl (ow_assign (v := .bool (isT x [])) rfl ?_)
    refine sr_nil ?_
    refine st_ret hb (hR _ _ (.bool (isT x [])) (res_run (vs := [.bool (isT x [])]) Tryz.results214 ⟨_, _, rfl, rfl, rfl⟩) ?_)
    exact ⟨_, rfl, _, rfl, s0, H⟩
  · rename_i t r
    have hlen_ : (t :: r).length = r.length + 1 := rfl
    obtain ⟨s0A, s0c, rfl, s0m, s0M, s0⟩ := RepS.open_ hl
    refine calls_st (n := 19) Tryz.func214 rfl rfl rfl ?_
    intro G bF cs hb hfn hR hP
    simp only [ini]
    refine st_seq ?_
    refine st_region ?_
    refine sr_op rfl rfl (ow_assign (v := .bool false) rfl ?_)
    refine sr_nil ?_
    refine st_seq ?_
    refine st_region ?_
    refine sr_op rfl rfl (ow_move (v := .pointer (some ⟨gP, 0, none⟩)) rfl ?_)
    refine sr_op rfl rfl (ow_move (v := .string x) rfl ?_)
    refine sr_op rfl rfl (ow_call en267 rfl (is_c H s0 (x := x)) ?_)
    rintro _ _ ⟨rfl, H⟩
    refine sr_op rfl rfl (ow_assign (v := .bool (isT x (t :: r))) rfl ?_)
    refine sr_nil ?_
    refine st_seq ?_
    refine st_seq ?_
    refine st_region ?_
    refine sr_op rfl rfl (ow_move (v := .bool (isT x (t :: r))) rfl ?_)
    refine sr_nil ?_
    refine st_cond (isT x (t :: r)) rfl (fun hc1 => ?_) (fun hc1 => ?_)
    · rw [hc1]
      have hc_ := hc1
      refine st_region ?_
      refine sr_op rfl rfl (ow_move (v := .pointer (some ⟨gP, 0, none⟩)) rfl ?_)
      refine sr_op rfl rfl (ow_move (v := .pointer (some ⟨gP, 0, none⟩)) rfl ?_)
      refine sr_op rfl rfl (ow_nilCheck rfl ?_)
      refine sr_op rfl rfl (ow_fieldAddr fd182_0 ty67 rfl rfl (r := 0) rfl ?_)
      refine sr_op rfl rfl (ow_load (v := .slice s0A (r.length + 1 : Nat) s0c) ty67 H rfl 0 rfl rfl rfl rfl ?_)
      refine sr_op rfl rfl (ow_cutS (a := 1) (c := (r.length + 1 : Nat)) sl67 ty71 rfl (.inr ⟨_, rfl⟩) (.inl ⟨rfl, rfl⟩) (by omega) (by omega) (by omega) ?_)
      refine sr_op rfl rfl (ow_nilCheck rfl ?_)
      refine sr_op rfl rfl (ow_fieldAddr fd182_0 ty67 rfl rfl (r := 0) rfl ?_)
      refine sr_op rfl rfl (ow_store ty67 H rfl (v := .slice (if s0c = 1 then s0A else Option.map (fun z_ => z_.add (1 * 4)) s0A) ((r.length + 1 : Nat) - 1) (s0c - 1)) rfl [.slice (if s0c = 1 then s0A else Option.map (fun z_ => z_.add (1 * 4)) s0A) ((r.length + 1 : Nat) - 1) (s0c - 1)] rfl rfl rfl 0 rfl rfl (fun _ H => ?_))
      refine sr_nil ?_
      refine st_seq ?_
      refine st_region ?_
      refine sr_op rfl rfl (ow_move (v := .bool true) rfl ?_)
      refine sr_op rfl rfl (ow_assign (v := .bool true) rfl ?_)
      refine sr_nil ?_
      refine st_ret hb (hR _ _ (.bool true) (res_run (vs := [.bool true]) Tryz.results214 ⟨_, _, rfl, rfl, rfl⟩) ?_)
      exact ⟨_, rfl, _, congrArg Value.bool hc_.symm, by rw [takeT, if_pos hc_]; exact (by have h_ := RepS.cut s0 1 (r.length + 1 : Nat) (by omega) (by omega); rw [List.take_of_length_le (by omega)] at h_; exact h_), H⟩
    · rw [hc1]
      have hc_ := hc1
      refine st_skip ?_
      refine st_seq ?_
      refine st_region ?_
      refine sr_op rfl rfl (ow_move (v := .bool false) rfl ?_)
      refine sr_op rfl rfl (ow_assign (v := .bool false) rfl ?_)
      refine sr_nil ?_
      refine st_ret hb (hR _ _ (.bool false) (res_run (vs := [.bool false]) Tryz.results214 ⟨_, _, rfl, rfl, rfl⟩) ?_)
      exact ⟨_, rfl, _, congrArg Value.bool hc_.symm, by rw [takeT, if_neg (by rw [hc_]; decide)]; exact s0, H⟩
theorem name_pc {B I L w} {gP : Nat} {e : Int} {q0 q1 q2 q3 q4 q5 q6 q7 q8 q9 : Value} {l : List Tk} {v : Value} (H : Hp B I w (paB gP v e q0 q1 q2 q3 q4 q5 q6 q7 q8 q9 :: L)) (hl : RepS encTk I 4 l v) : Calls Tryz.prog 213 #[.pointer (some ⟨gP, 0, none⟩)] w (Rp (fun r w' => ∃ s l' v', nameT l = .ok s l' ∧ r = .string s ∧ S63 s ∧ RepS encTk I 4 l' v' ∧ Hp B I w' (paB gP v' e q0 q1 q2 q3 q4 q5 q6 q7 q8 q9 :: L)) (fun ch w' => badP B I gP e L (nameT l) ch w')) := by
  cases l
  · obtain ⟨s0A, s0c, rfl, s0m, s0M, s0⟩ := RepS.open_ hl
    refine calls_st (n := 49) Tryz.func213 rfl rfl rfl ?_
    intro G bF cs hb hfn hR hP
    simp only [ini]
    refine st_seq ?_
    refine st_region ?_
    refine sr_op rfl rfl (ow_assign (v := .string ⟨#[]⟩) rfl ?_)
    refine sr_nil ?_
    refine st_seq ?_
    refine st_seq ?_
    refine st_cut (fun m_ w_ => ∃ (r_ : Sl), m_ = (0, .pointer (some ⟨gP, 0, none⟩)) :: (2, .string ⟨#[]⟩) :: (30, .bool true) :: r_ ∧ Hp B I w_ (paB gP (.slice s0A 0 s0c) e q0 q1 q2 q3 q4 q5 q6 q7 q8 q9 :: L)) (fun again => ?_) ?_
    · refine st_draw (F := (fun w_ => ∃ I2, Le I I2 ∧ Hp B I2 w_ [paB gP (.slice s0A 0 s0c) e q0 q1 q2 q3 q4 q5 q6 q7 q8 q9])) (p0 := [0, 1, 2, 3, 4, 5, 6, 7, 8, 9, 10, 11, 12, 13, 14, 15, 16, 18, 19, 20, 21, 22, 23, 24]) (plan := [(17, [], [18, 19, 20, 21, 22, 23, 24]), (25, [26], [])]) [] [] [(28, undef), (27, undef), (26, undef), (25, undef), (24, undef), (23, undef), (22, undef), (20, .bool true), (19, .bool true), (18, undef), (17, undef), (16, undef), (15, undef), (14, undef), (13, undef), (12, undef), (11, undef), (10, .bool true), (9, .bool true), (8, .int .i64 0), (7, .slice s0A 0 s0c), (6, .pointer (some ⟨gP, 0, none⟩)), (5, .pointer (some ⟨gP, 0, none⟩)), (4, .pointer (some ⟨gP, 0, none⟩))] (by kernel_rfl) rfl ?_ ⟨_, Le.refl _, H.drew.pick [0] (by decide)⟩ ?_
      · refine ⟨kn_op rfl rfl (wantB_none rfl) fun _ hF2 => ?_, ?_⟩
        · obtain ⟨_, hle2, H2⟩ := hF2
          refine  (ow_move (v := .pointer (some ⟨gP, 0, none⟩)) rfl ?_)
          exact ⟨rfl, rfl⟩
        refine ⟨kn_op rfl rfl (wantB_none rfl) fun _ hF2 => ?_, ?_⟩
        · obtain ⟨_, hle2, H2⟩ := hF2
          refine  (ow_nilCheck rfl ?_)
          exact ⟨rfl, rfl⟩
        refine ⟨kn_op rfl rfl (wantB_none rfl) fun _ hF2 => ?_, ?_⟩
        · obtain ⟨_, hle2, H2⟩ := hF2
          refine  (ow_fieldAddr fd182_0 ty67 rfl rfl (r := 0) rfl ?_)
          exact ⟨rfl, rfl⟩
        refine ⟨kn_op rfl rfl (wantB_none rfl) fun _ hF2 => ?_, ?_⟩
        · obtain ⟨_, hle2, H2⟩ := hF2
          refine  (ow_load (v := .slice s0A 0 s0c) ty67 H2 rfl 0 rfl rfl rfl rfl ?_)
          exact ⟨rfl, rfl⟩
        refine ⟨kn_op rfl rfl (wantB_none rfl) fun _ hF2 => ?_, ?_⟩
        · obtain ⟨_, hle2, H2⟩ := hF2
          refine  (ow_lenS sl67 rfl rfl ?_)
          exact ⟨rfl, rfl⟩
        refine ⟨kn_op rfl rfl (wantB_none rfl) fun _ hF2 => ?_, ?_⟩
        · obtain ⟨_, hle2, H2⟩ := hF2
          refine  (ow_eql rfl rfl ?_)
          exact ⟨rfl, rfl⟩
        refine ⟨kn_op rfl rfl (wantB_none rfl) fun _ hF2 => ?_, ?_⟩
        · obtain ⟨_, hle2, H2⟩ := hF2
          refine  (ow_move (v := .bool true) rfl ?_)
          exact ⟨rfl, rfl⟩
        refine ⟨kn_pass rfl rfl ((wantB_some (j := 6) rfl rfl (d := 10) rfl rfl (u := true) rfl).trans rfl) rfl, ?_⟩
        refine ⟨kn_pass rfl rfl ((wantB_some (j := 6) rfl rfl (d := 10) rfl rfl (u := true) rfl).trans rfl) rfl, ?_⟩
        refine ⟨kn_pass rfl rfl ((wantB_some (j := 6) rfl rfl (d := 10) rfl rfl (u := true) rfl).trans rfl) rfl, ?_⟩
        refine ⟨kn_pass rfl rfl ((wantB_some (j := 6) rfl rfl (d := 10) rfl rfl (u := true) rfl).trans rfl) rfl, ?_⟩
        refine ⟨kn_pass rfl rfl ((wantB_some (j := 6) rfl rfl (d := 10) rfl rfl (u := true) rfl).trans rfl) rfl, ?_⟩
        refine ⟨kn_pass rfl rfl ((wantB_some (j := 6) rfl rfl (d := 10) rfl rfl (u := true) rfl).trans rfl) rfl, ?_⟩
        refine ⟨kn_pass rfl rfl ((wantB_some (j := 6) rfl rfl (d := 10) rfl rfl (u := true) rfl).trans rfl) rfl, ?_⟩
        refine ⟨kn_pass rfl rfl ((wantB_some (j := 6) rfl rfl (d := 10) rfl rfl (u := true) rfl).trans rfl) rfl, ?_⟩
        refine ⟨kn_op rfl rfl (wantB_none rfl) fun _ hF2 => ?_, ?_⟩
        · obtain ⟨_, hle2, H2⟩ := hF2
          refine  (ow_pick (v := .bool true) rfl rfl ?_)
          exact ⟨rfl, rfl⟩
        refine ⟨kn_op rfl rfl (wantB_none rfl) fun _ hF2 => ?_, ?_⟩
        · obtain ⟨_, hle2, H2⟩ := hF2
          refine  (ow_move (v := .bool true) rfl ?_)
          exact ⟨rfl, rfl⟩
        refine ⟨kn_pass rfl rfl ((wantB_some (j := 16) rfl rfl (d := 20) rfl rfl (u := true) rfl).trans rfl) rfl, ?_⟩
        refine ⟨kn_pass rfl rfl ((wantB_some (j := 16) rfl rfl (d := 20) rfl rfl (u := true) rfl).trans rfl) rfl, ?_⟩
        refine ⟨kn_pass rfl rfl ((wantB_some (j := 16) rfl rfl (d := 20) rfl rfl (u := true) rfl).trans rfl) rfl, ?_⟩
        refine ⟨kn_pass rfl rfl ((wantB_some (j := 16) rfl rfl (d := 20) rfl rfl (u := true) rfl).trans rfl) rfl, ?_⟩
        refine ⟨kn_pass rfl rfl ((wantB_some (j := 16) rfl rfl (d := 20) rfl rfl (u := true) rfl).trans rfl) rfl, ?_⟩
        refine ⟨kn_pass rfl rfl ((wantB_some (j := 16) rfl rfl (d := 20) rfl rfl (u := true) rfl).trans rfl) rfl, ?_⟩
        refine ⟨kn_pass rfl rfl ((wantB_some (j := 16) rfl rfl (d := 20) rfl rfl (u := true) rfl).trans rfl) rfl, ?_⟩
        exact trivial
      have H := H.drew
      refine cw_pass rfl ((wantB_some (j := 16) rfl rfl (d := 20) rfl rfl (u := true) rfl).trans rfl) ?_
      refine af_some [] (fun w_ => ∃ I2, Le I I2 ∧ Hp B I2 w_ [paB gP (.slice s0A 0 s0c) e q0 q1 q2 q3 q4 q5 q6 q7 q8 q9]) rfl ⟨_, Le.refl _, H.pick [0] (by decide)⟩ ?_ ?_
      · refine ⟨kn_pass rfl rfl ((wantB_some (j := 16) rfl rfl (d := 20) rfl rfl (u := true) rfl).trans rfl) rfl, ?_⟩
        refine ⟨kn_pass rfl rfl ((wantB_some (j := 16) rfl rfl (d := 20) rfl rfl (u := true) rfl).trans rfl) rfl, ?_⟩
        refine ⟨kn_pass rfl rfl ((wantB_some (j := 16) rfl rfl (d := 20) rfl rfl (u := true) rfl).trans rfl) rfl, ?_⟩
        refine ⟨kn_pass rfl rfl ((wantB_some (j := 16) rfl rfl (d := 20) rfl rfl (u := true) rfl).trans rfl) rfl, ?_⟩
        refine ⟨kn_pass rfl rfl ((wantB_some (j := 16) rfl rfl (d := 20) rfl rfl (u := true) rfl).trans rfl) rfl, ?_⟩
        refine ⟨kn_pass rfl rfl ((wantB_some (j := 16) rfl rfl (d := 20) rfl rfl (u := true) rfl).trans rfl) rfl, ?_⟩
        refine ⟨kn_pass rfl rfl ((wantB_some (j := 16) rfl rfl (d := 20) rfl rfl (u := true) rfl).trans rfl) rfl, ?_⟩
        exact trivial
      refine cw_pass rfl ((wantB_some (j := 16) rfl rfl (d := 20) rfl rfl (u := true) rfl).trans rfl) ?_
      refine af_some [(30, .bool true)] (fun w_ => ∃ I2, Le I I2 ∧ Hp B I2 w_ [paB gP (.slice s0A 0 s0c) e q0 q1 q2 q3 q4 q5 q6 q7 q8 q9]) rfl ⟨_, Le.refl _, H.pick [0] (by decide)⟩ ?_ ?_
      · refine ⟨kn_op rfl rfl (wantB_none rfl) fun _ hF2 => ?_, ?_⟩
        · obtain ⟨_, hle2, H2⟩ := hF2
          refine  (ow_pick (v := .bool true) rfl rfl ?_)
          exact ⟨rfl, rfl⟩
        exact trivial
      refine cw_nil ?_
      exact st_live [0, 2, 30] (again _ _ ⟨_, rfl, H⟩)
    rintro _ _ ⟨r1, rfl, H⟩
    refine st_yes rfl ?_
    refine st_region ?_
    refine sr_op rfl rfl (ow_move (v := .pointer (some ⟨gP, 0, none⟩)) rfl ?_)
    refine sr_op rfl rfl (ow_callp en133 rfl (fail_c H s0) ?_ ?_)
    · rintro _ _ h_
      exact h_.elim
    rintro _ _ ⟨rfl, H⟩
    exact (hP _ _ ⟨_, _, rfl, rfl, Hp.back H (Le.refl _)⟩).one
  · rename_i t r
    have hlen_ : (t :: r).length = r.length + 1 := rfl
    obtain ⟨s0A, s0c, rfl, s0m, s0M, s0⟩ := RepS.open_ hl
    have het : (t :: r)[0]? = some t := rfl
    have he1 : (t :: r)[0]? = some t := rfl
    obtain ⟨b1, o1, us1, hA1, hat1, hul1, hr1⟩ := RepS.get s0 he1
    have d1 := hr1
    obtain ⟨rfl, d1_0, d1_1, d1_2, d1_3⟩ := tk_iff.1 hr1
    refine calls_st (n := 49) Tryz.func213 rfl rfl rfl ?_
    intro G bF cs hb hfn hR hP
    simp only [ini]
    refine st_seq ?_
    refine st_region ?_
    refine sr_op rfl rfl (ow_assign (v := .string ⟨#[]⟩) rfl ?_)
    refine sr_nil ?_
    refine st_seq ?_
    refine st_seq ?_
    refine st_cut (fun m_ w_ => ∃ (r_ : Sl) (v30_ : Bool), m_ = (0, .pointer (some ⟨gP, 0, none⟩)) :: (2, .string ⟨#[]⟩) :: (30, .bool v30_) :: r_ ∧ Hp B I w_ (paB gP (.slice s0A (r.length + 1 : Nat) s0c) e q0 q1 q2 q3 q4 q5 q6 q7 q8 q9 :: L) ∧ v30_ = (!(decide (t.kind = 1)) || (decide (0 ≤ idx resW t.text)))) (fun again => ?_) ?_
    · rcases Bool.eq_false_or_eq_true (decide (t.kind = 1)) with hg2 | hg2
      · refine st_draw (F := (fun w_ => ∃ I2, Le I I2 ∧ Hp B I2 w_ [paB gP (.slice s0A (r.length + 1 : Nat) s0c) e q0 q1 q2 q3 q4 q5 q6 q7 q8 q9])) (p0 := [0, 1, 2, 3, 4, 5, 6, 7, 8, 9, 10, 11, 12, 13, 14, 15, 16, 18, 19, 20, 21, 22, 23, 24]) (plan := [(17, [], [18, 19, 20, 21, 22, 23, 24]), (25, [26], [])]) [] [] [(28, .string t.text), (27, .pointer (some ⟨b1, o1 + 0 * 4 + 1, none⟩)), (26, .pointer (some ⟨b1, o1 + 0 * 4, none⟩)), (25, .slice s0A (r.length + 1 : Nat) s0c), (24, .pointer (some ⟨gP, 0, none⟩)), (23, .pointer (some ⟨gP, 0, none⟩)), (22, .pointer (some ⟨gP, 0, none⟩)), (20, .bool (!decide (t.kind = 1))), (19, .bool (!decide (t.kind = 1))), (18, .bool (!decide (t.kind = 1))), (17, .int .i64 t.kind), (16, .pointer (some ⟨b1, o1 + 0 * 4 + 0, none⟩)), (15, .pointer (some ⟨b1, o1 + 0 * 4, none⟩)), (14, .slice s0A (r.length + 1 : Nat) s0c), (13, .pointer (some ⟨gP, 0, none⟩)), (12, .pointer (some ⟨gP, 0, none⟩)), (11, .pointer (some ⟨gP, 0, none⟩)), (10, .bool (decide (((r.length + 1 : Nat) : Int) = 0))), (9, .bool (decide (((r.length + 1 : Nat) : Int) = 0))), (8, .int .i64 ((r.length + 1 : Nat) : Int)), (7, .slice s0A (r.length + 1 : Nat) s0c), (6, .pointer (some ⟨gP, 0, none⟩)), (5, .pointer (some ⟨gP, 0, none⟩)), (4, .pointer (some ⟨gP, 0, none⟩))] (by kernel_rfl) rfl ?_ ⟨_, Le.refl _, H.drew.pick [0] (by decide)⟩ ?_
        · refine ⟨kn_op rfl rfl (wantB_none rfl) fun _ hF2 => ?_, ?_⟩
          · obtain ⟨_, hle2, H2⟩ := hF2
            refine  (ow_move (v := .pointer (some ⟨gP, 0, none⟩)) rfl ?_)
            exact ⟨rfl, rfl⟩
          refine ⟨kn_op rfl rfl (wantB_none rfl) fun _ hF2 => ?_, ?_⟩
          · obtain ⟨_, hle2, H2⟩ := hF2
            refine  (ow_nilCheck rfl ?_)
            exact ⟨rfl, rfl⟩
          refine ⟨kn_op rfl rfl (wantB_none rfl) fun _ hF2 => ?_, ?_⟩
          · obtain ⟨_, hle2, H2⟩ := hF2
            refine  (ow_fieldAddr fd182_0 ty67 rfl rfl (r := 0) rfl ?_)
            exact ⟨rfl, rfl⟩
          refine ⟨kn_op rfl rfl (wantB_none rfl) fun _ hF2 => ?_, ?_⟩
          · obtain ⟨_, hle2, H2⟩ := hF2
            refine  (ow_load (v := .slice s0A (r.length + 1 : Nat) s0c) ty67 H2 rfl 0 rfl rfl rfl rfl ?_)
            exact ⟨rfl, rfl⟩
          refine ⟨kn_op rfl rfl (wantB_none rfl) fun _ hF2 => ?_, ?_⟩
          · obtain ⟨_, hle2, H2⟩ := hF2
            refine  (ow_lenS sl67 rfl rfl ?_)
            exact ⟨rfl, rfl⟩
          refine ⟨kn_op rfl rfl (wantB_none rfl) fun _ hF2 => ?_, ?_⟩
          · obtain ⟨_, hle2, H2⟩ := hF2
            refine  (ow_eql rfl rfl ?_)
            exact ⟨rfl, rfl⟩
          refine ⟨kn_op rfl rfl (wantB_none rfl) fun _ hF2 => ?_, ?_⟩
          · obtain ⟨_, hle2, H2⟩ := hF2
            refine  (ow_move (v := .bool (decide (((r.length + 1 : Nat) : Int) = 0))) rfl ?_)
            exact ⟨rfl, rfl⟩
          refine ⟨kn_op rfl rfl ((wantB_some (j := 6) rfl rfl (d := 10) rfl rfl (u := false) (by exact congrArg Value.bool (decide_eq_false (by omega)))).trans rfl) fun _ hF2 => ?_, ?_⟩
          · obtain ⟨_, hle2, H2⟩ := hF2
            refine  (ow_move (v := .pointer (some ⟨gP, 0, none⟩)) rfl ?_)
            exact ⟨rfl, rfl⟩
          refine ⟨kn_op rfl rfl ((wantB_some (j := 6) rfl rfl (d := 10) rfl rfl (u := false) (by exact congrArg Value.bool (decide_eq_false (by omega)))).trans rfl) fun _ hF2 => ?_, ?_⟩
          · obtain ⟨_, hle2, H2⟩ := hF2
            refine  (ow_nilCheck rfl ?_)
            exact ⟨rfl, rfl⟩
          refine ⟨kn_op rfl rfl ((wantB_some (j := 6) rfl rfl (d := 10) rfl rfl (u := false) (by exact congrArg Value.bool (decide_eq_false (by omega)))).trans rfl) fun _ hF2 => ?_, ?_⟩
          · obtain ⟨_, hle2, H2⟩ := hF2
            refine  (ow_fieldAddr fd182_0 ty67 rfl rfl (r := 0) rfl ?_)
            exact ⟨rfl, rfl⟩
          refine ⟨kn_op rfl rfl ((wantB_some (j := 6) rfl rfl (d := 10) rfl rfl (u := false) (by exact congrArg Value.bool (decide_eq_false (by omega)))).trans rfl) fun _ hF2 => ?_, ?_⟩
          · obtain ⟨_, hle2, H2⟩ := hF2
            refine  (ow_load (v := .slice s0A (r.length + 1 : Nat) s0c) ty67 H2 rfl 0 rfl rfl rfl rfl ?_)
            exact ⟨rfl, rfl⟩
          refine ⟨kn_op rfl rfl ((wantB_some (j := 6) rfl rfl (d := 10) rfl rfl (u := false) (by exact congrArg Value.bool (decide_eq_false (by omega)))).trans rfl) fun _ hF2 => ?_, ?_⟩
          · obtain ⟨_, hle2, H2⟩ := hF2
            refine  (ow_indexAddrA sl67 ty71 hA1 rfl rfl (by omega) (by omega) (r := o1 + 0 * 4) rfl ?_)
            exact ⟨rfl, rfl⟩
          refine ⟨kn_op rfl rfl ((wantB_some (j := 6) rfl rfl (d := 10) rfl rfl (u := false) (by exact congrArg Value.bool (decide_eq_false (by omega)))).trans rfl) fun _ hF2 => ?_, ?_⟩
          · obtain ⟨_, hle2, H2⟩ := hF2
            refine  (ow_fieldAddr fd71_0 ty3 rfl rfl (r := o1 + 0 * 4 + 0) rfl ?_)
            exact ⟨rfl, rfl⟩
          refine ⟨kn_op rfl rfl ((wantB_some (j := 6) rfl rfl (d := 10) rfl rfl (u := false) (by exact congrArg Value.bool (decide_eq_false (by omega)))).trans rfl) fun _ hF2 => ?_, ?_⟩
          · obtain ⟨_, hle2, H2⟩ := hF2
            refine  (ow_loadI (v := .int .i64 t.kind) ty3 H2 rfl (At.mono hle2 (At.sub (vs := [.int .i64 t.kind]) hat1 0 rfl)) rfl rfl rfl ?_)
            exact ⟨rfl, rfl⟩
          refine ⟨kn_op rfl rfl ((wantB_some (j := 6) rfl rfl (d := 10) rfl rfl (u := false) (by exact congrArg Value.bool (decide_eq_false (by omega)))).trans rfl) fun _ hF2 => ?_, ?_⟩
          · obtain ⟨_, hle2, H2⟩ := hF2
            refine  (ow_neq rfl rfl ?_)
            exact ⟨rfl, rfl⟩
          refine ⟨kn_op rfl rfl (wantB_none rfl) fun _ hF2 => ?_, ?_⟩
          · obtain ⟨_, hle2, H2⟩ := hF2
            refine  (ow_pick (a := false) (v := .bool (!decide (t.kind = 1))) (congrArg Value.bool (decide_eq_false (by omega))) rfl ?_)
            exact ⟨rfl, rfl⟩
          refine ⟨kn_op rfl rfl (wantB_none rfl) fun _ hF2 => ?_, ?_⟩
          · obtain ⟨_, hle2, H2⟩ := hF2
            refine  (ow_move (v := .bool (!decide (t.kind = 1))) rfl ?_)
            exact ⟨rfl, rfl⟩
          refine ⟨kn_op rfl rfl ((wantB_some (j := 16) rfl rfl (d := 20) rfl rfl (u := false) (by exact congrArg Value.bool (congrArg (a₂ := true) not hg2))).trans rfl) fun _ hF2 => ?_, ?_⟩
          · obtain ⟨_, hle2, H2⟩ := hF2
            refine  (ow_move (v := .pointer (some ⟨gP, 0, none⟩)) rfl ?_)
            exact ⟨rfl, rfl⟩
          refine ⟨kn_op rfl rfl ((wantB_some (j := 16) rfl rfl (d := 20) rfl rfl (u := false) (by exact congrArg Value.bool (congrArg (a₂ := true) not hg2))).trans rfl) fun _ hF2 => ?_, ?_⟩
          · obtain ⟨_, hle2, H2⟩ := hF2
            refine  (ow_nilCheck rfl ?_)
            exact ⟨rfl, rfl⟩
          refine ⟨kn_op rfl rfl ((wantB_some (j := 16) rfl rfl (d := 20) rfl rfl (u := false) (by exact congrArg Value.bool (congrArg (a₂ := true) not hg2))).trans rfl) fun _ hF2 => ?_, ?_⟩
          · obtain ⟨_, hle2, H2⟩ := hF2
            refine  (ow_fieldAddr fd182_0 ty67 rfl rfl (r := 0) rfl ?_)
            exact ⟨rfl, rfl⟩
          refine ⟨kn_op rfl rfl ((wantB_some (j := 16) rfl rfl (d := 20) rfl rfl (u := false) (by exact congrArg Value.bool (congrArg (a₂ := true) not hg2))).trans rfl) fun _ hF2 => ?_, ?_⟩
          · obtain ⟨_, hle2, H2⟩ := hF2
            refine  (ow_load (v := .slice s0A (r.length + 1 : Nat) s0c) ty67 H2 rfl 0 rfl rfl rfl rfl ?_)
            exact ⟨rfl, rfl⟩
          refine ⟨kn_op rfl rfl ((wantB_some (j := 16) rfl rfl (d := 20) rfl rfl (u := false) (by exact congrArg Value.bool (congrArg (a₂ := true) not hg2))).trans rfl) fun _ hF2 => ?_, ?_⟩
          · obtain ⟨_, hle2, H2⟩ := hF2
            refine  (ow_indexAddrA sl67 ty71 hA1 rfl rfl (by omega) (by omega) (r := o1 + 0 * 4) rfl ?_)
            exact ⟨rfl, rfl⟩
          refine ⟨kn_op rfl rfl ((wantB_some (j := 16) rfl rfl (d := 20) rfl rfl (u := false) (by exact congrArg Value.bool (congrArg (a₂ := true) not hg2))).trans rfl) fun _ hF2 => ?_, ?_⟩
          · obtain ⟨_, hle2, H2⟩ := hF2
            refine  (ow_fieldAddr fd71_1 ty9 rfl rfl (r := o1 + 0 * 4 + 1) rfl ?_)
            exact ⟨rfl, rfl⟩
          refine ⟨kn_op rfl rfl ((wantB_some (j := 16) rfl rfl (d := 20) rfl rfl (u := false) (by exact congrArg Value.bool (congrArg (a₂ := true) not hg2))).trans rfl) fun _ hF2 => ?_, ?_⟩
          · obtain ⟨_, hle2, H2⟩ := hF2
            refine  (ow_loadI (v := .string t.text) ty9 H2 rfl (At.mono hle2 (At.sub (vs := [.string t.text]) hat1 1 rfl)) rfl rfl rfl ?_)
            exact ⟨rfl, rfl⟩
          exact trivial
        have H := H.drew
        refine cw_op rfl ((wantB_some (j := 16) rfl rfl (d := 20) rfl rfl (u := false) (by exact congrArg Value.bool (congrArg (a₂ := true) not hg2))).trans rfl) (ow_call en210 rfl (words_c H) ?_)
        rintro _ _ ⟨I1, vw, hI1, H, rfl, hw⟩
        obtain ⟨w0A, w0c, rfl, w0m, w0M, w0⟩ := RepS.open_ hw
        have hat1 := (hat1.mono hI1)
        refine af_some [] (fun w_ => ∃ I2, Le I1 I2 ∧ Hp B I2 w_ [paB gP (.slice s0A (r.length + 1 : Nat) s0c) e q0 q1 q2 q3 q4 q5 q6 q7 q8 q9]) rfl ⟨_, Le.refl _, H.pick [0] (by decide)⟩ ?_ ?_
        · refine ⟨kn_op rfl rfl ((wantB_some (j := 16) rfl rfl (d := 20) rfl rfl (u := false) (by exact congrArg Value.bool (congrArg (a₂ := true) not hg2))).trans rfl) fun _ hF2 => ?_, ?_⟩
          · obtain ⟨_, hle2, H2⟩ := hF2
            refine  (ow_move (v := .pointer (some ⟨gP, 0, none⟩)) rfl ?_)
            exact ⟨rfl, rfl⟩
          refine ⟨kn_op rfl rfl ((wantB_some (j := 16) rfl rfl (d := 20) rfl rfl (u := false) (by exact congrArg Value.bool (congrArg (a₂ := true) not hg2))).trans rfl) fun _ hF2 => ?_, ?_⟩
          · obtain ⟨_, hle2, H2⟩ := hF2
            refine  (ow_nilCheck rfl ?_)
            exact ⟨rfl, rfl⟩
          refine ⟨kn_op rfl rfl ((wantB_some (j := 16) rfl rfl (d := 20) rfl rfl (u := false) (by exact congrArg Value.bool (congrArg (a₂ := true) not hg2))).trans rfl) fun _ hF2 => ?_, ?_⟩
          · obtain ⟨_, hle2, H2⟩ := hF2
            refine  (ow_fieldAddr fd182_0 ty67 rfl rfl (r := 0) rfl ?_)
            exact ⟨rfl, rfl⟩
          refine ⟨kn_op rfl rfl ((wantB_some (j := 16) rfl rfl (d := 20) rfl rfl (u := false) (by exact congrArg Value.bool (congrArg (a₂ := true) not hg2))).trans rfl) fun _ hF2 => ?_, ?_⟩
          · obtain ⟨_, hle2, H2⟩ := hF2
            refine  (ow_load (v := .slice s0A (r.length + 1 : Nat) s0c) ty67 H2 rfl 0 rfl rfl rfl rfl ?_)
            exact ⟨rfl, rfl⟩
          refine ⟨kn_op rfl rfl ((wantB_some (j := 16) rfl rfl (d := 20) rfl rfl (u := false) (by exact congrArg Value.bool (congrArg (a₂ := true) not hg2))).trans rfl) fun _ hF2 => ?_, ?_⟩
          · obtain ⟨_, hle2, H2⟩ := hF2
            refine  (ow_indexAddrA sl67 ty71 hA1 rfl rfl (by omega) (by omega) (r := o1 + 0 * 4) rfl ?_)
            exact ⟨rfl, rfl⟩
          refine ⟨kn_op rfl rfl ((wantB_some (j := 16) rfl rfl (d := 20) rfl rfl (u := false) (by exact congrArg Value.bool (congrArg (a₂ := true) not hg2))).trans rfl) fun _ hF2 => ?_, ?_⟩
          · obtain ⟨_, hle2, H2⟩ := hF2
            refine  (ow_fieldAddr fd71_1 ty9 rfl rfl (r := o1 + 0 * 4 + 1) rfl ?_)
            exact ⟨rfl, rfl⟩
          refine ⟨kn_op rfl rfl ((wantB_some (j := 16) rfl rfl (d := 20) rfl rfl (u := false) (by exact congrArg Value.bool (congrArg (a₂ := true) not hg2))).trans rfl) fun _ hF2 => ?_, ?_⟩
          · obtain ⟨_, hle2, H2⟩ := hF2
            refine  (ow_loadI (v := .string t.text) ty9 H2 rfl (At.mono hle2 (At.sub (vs := [.string t.text]) hat1 1 rfl)) rfl rfl rfl ?_)
            exact ⟨rfl, rfl⟩
          exact trivial
        refine cw_op rfl ((wantB_some (j := 16) rfl rfl (d := 20) rfl rfl (u := false) (by exact congrArg Value.bool (congrArg (a₂ := true) not hg2))).trans rfl) (ow_call en143 rfl (contains_c H w0 t.text) ?_)
        rintro _ _ ⟨rfl, H⟩
        refine af_some [(30, .bool (decide (0 ≤ idx resW t.text)))] (fun w_ => ∃ I2, Le I1 I2 ∧ Hp B I2 w_ [paB gP (.slice s0A (r.length + 1 : Nat) s0c) e q0 q1 q2 q3 q4 q5 q6 q7 q8 q9]) rfl ⟨_, Le.refl _, H.pick [0] (by decide)⟩ ?_ ?_
        · refine ⟨kn_op rfl rfl (wantB_none rfl) fun _ hF2 => ?_, ?_⟩
          · obtain ⟨_, hle2, H2⟩ := hF2
            refine  (ow_pick (a := false) (v := .bool (decide (0 ≤ idx resW t.text))) (congrArg Value.bool (congrArg (a₂ := true) not hg2)) rfl ?_)
            exact ⟨rfl, rfl⟩
          exact trivial
        refine cw_nil ?_
        exact st_live [0, 2, 30] (again _ _ ⟨_, _, rfl, (Hp.back H hI1), by first | rfl | (rw [hg2] <;> rfl) | simp [hg2]⟩)
      · refine st_draw (F := (fun w_ => ∃ I2, Le I I2 ∧ Hp B I2 w_ [paB gP (.slice s0A (r.length + 1 : Nat) s0c) e q0 q1 q2 q3 q4 q5 q6 q7 q8 q9])) (p0 := [0, 1, 2, 3, 4, 5, 6, 7, 8, 9, 10, 11, 12, 13, 14, 15, 16, 18, 19, 20, 21, 22, 23, 24]) (plan := [(17, [], [18, 19, 20, 21, 22, 23, 24]), (25, [26], [])]) [] [] [(28, undef), (27, undef), (26, undef), (25, undef), (24, undef), (23, undef), (22, undef), (20, .bool (!decide (t.kind = 1))), (19, .bool (!decide (t.kind = 1))), (18, .bool (!decide (t.kind = 1))), (17, .int .i64 t.kind), (16, .pointer (some ⟨b1, o1 + 0 * 4 + 0, none⟩)), (15, .pointer (some ⟨b1, o1 + 0 * 4, none⟩)), (14, .slice s0A (r.length + 1 : Nat) s0c), (13, .pointer (some ⟨gP, 0, none⟩)), (12, .pointer (some ⟨gP, 0, none⟩)), (11, .pointer (some ⟨gP, 0, none⟩)), (10, .bool (decide (((r.length + 1 : Nat) : Int) = 0))), (9, .bool (decide (((r.length + 1 : Nat) : Int) = 0))), (8, .int .i64 ((r.length + 1 : Nat) : Int)), (7, .slice s0A (r.length + 1 : Nat) s0c), (6, .pointer (some ⟨gP, 0, none⟩)), (5, .pointer (some ⟨gP, 0, none⟩)), (4, .pointer (some ⟨gP, 0, none⟩))] (by kernel_rfl) rfl ?_ ⟨_, Le.refl _, H.drew.pick [0] (by decide)⟩ ?_
        · refine ⟨kn_op rfl rfl (wantB_none rfl) fun _ hF2 => ?_, ?_⟩
          · obtain ⟨_, hle2, H2⟩ := hF2
            refine  (ow_move (v := .pointer (some ⟨gP, 0, none⟩)) rfl ?_)
            exact ⟨rfl, rfl⟩
          refine ⟨kn_op rfl rfl (wantB_none rfl) fun _ hF2 => ?_, ?_⟩
          · obtain ⟨_, hle2, H2⟩ := hF2
            refine  (ow_nilCheck rfl ?_)
            exact ⟨rfl, rfl⟩
          refine ⟨kn_op rfl rfl (wantB_none rfl) fun _ hF2 => ?_, ?_⟩
          · obtain ⟨_, hle2, H2⟩ := hF2
            refine  (ow_fieldAddr fd182_0 ty67 rfl rfl (r := 0) rfl ?_)
            exact ⟨rfl, rfl⟩
          refine ⟨kn_op rfl rfl (wantB_none rfl) fun _ hF2 => ?_, ?_⟩
          · obtain ⟨_, hle2, H2⟩ := hF2
            refine  (ow_load (v := .slice s0A (r.length + 1 : Nat) s0c) ty67 H2 rfl 0 rfl rfl rfl rfl ?_)
            exact ⟨rfl, rfl⟩
          refine ⟨kn_op rfl rfl (wantB_none rfl) fun _ hF2 => ?_, ?_⟩
          · obtain ⟨_, hle2, H2⟩ := hF2
            refine  (ow_lenS sl67 rfl rfl ?_)
            exact ⟨rfl, rfl⟩
          refine ⟨kn_op rfl rfl (wantB_none rfl) fun _ hF2 => ?_, ?_⟩
          · obtain ⟨_, hle2, H2⟩ := hF2
            refine  (ow_eql rfl rfl ?_)
            exact ⟨rfl, rfl⟩
          refine ⟨kn_op rfl rfl (wantB_none rfl) fun _ hF2 => ?_, ?_⟩
          · obtain ⟨_, hle2, H2⟩ := hF2
            refine  (ow_move (v := .bool (decide (((r.length + 1 : Nat) : Int) = 0))) rfl ?_)
            exact ⟨rfl, rfl⟩
          refine ⟨kn_op rfl rfl ((wantB_some (j := 6) rfl rfl (d := 10) rfl rfl (u := false) (by exact congrArg Value.bool (decide_eq_false (by omega)))).trans rfl) fun _ hF2 => ?_, ?_⟩
          · obtain ⟨_, hle2, H2⟩ := hF2
            refine  (ow_move (v := .pointer (some ⟨gP, 0, none⟩)) rfl ?_)
            exact ⟨rfl, rfl⟩
          refine ⟨kn_op rfl rfl ((wantB_some (j := 6) rfl rfl (d := 10) rfl rfl (u := false) (by exact congrArg Value.bool (decide_eq_false (by omega)))).trans rfl) fun _ hF2 => ?_, ?_⟩
          · obtain ⟨_, hle2, H2⟩ := hF2
            refine  (ow_nilCheck rfl ?_)
            exact ⟨rfl, rfl⟩
          refine ⟨kn_op rfl rfl ((wantB_some (j := 6) rfl rfl (d := 10) rfl rfl (u := false) (by exact congrArg Value.bool (decide_eq_false (by omega)))).trans rfl) fun _ hF2 => ?_, ?_⟩
          · obtain ⟨_, hle2, H2⟩ := hF2
            refine  (ow_fieldAddr fd182_0 ty67 rfl rfl (r := 0) rfl ?_)
            exact ⟨rfl, rfl⟩
          refine ⟨kn_op rfl rfl ((wantB_some (j := 6) rfl rfl (d := 10) rfl rfl (u := false) (by exact congrArg Value.bool (decide_eq_false (by omega)))).trans rfl) fun _ hF2 => ?_, ?_⟩
          · obtain ⟨_, hle2, H2⟩ := hF2
            refine  (ow_load (v := .slice s0A (r.length + 1 : Nat) s0c) ty67 H2 rfl 0 rfl rfl rfl rfl ?_)
            exact ⟨rfl, rfl⟩
          refine ⟨kn_op rfl rfl ((wantB_some (j := 6) rfl rfl (d := 10) rfl rfl (u := false) (by exact congrArg Value.bool (decide_eq_false (by omega)))).trans rfl) fun _ hF2 => ?_, ?_⟩
          · obtain ⟨_, hle2, H2⟩ := hF2
            refine  (ow_indexAddrA sl67 ty71 hA1 rfl rfl (by omega) (by omega) (r := o1 + 0 * 4) rfl ?_)
            exact ⟨rfl, rfl⟩
          refine ⟨kn_op rfl rfl ((wantB_some (j := 6) rfl rfl (d := 10) rfl rfl (u := false) (by exact congrArg Value.bool (decide_eq_false (by omega)))).trans rfl) fun _ hF2 => ?_, ?_⟩
          · obtain ⟨_, hle2, H2⟩ := hF2
            refine  (ow_fieldAddr fd71_0 ty3 rfl rfl (r := o1 + 0 * 4 + 0) rfl ?_)
            exact ⟨rfl, rfl⟩
          refine ⟨kn_op rfl rfl ((wantB_some (j := 6) rfl rfl (d := 10) rfl rfl (u := false) (by exact congrArg Value.bool (decide_eq_false (by omega)))).trans rfl) fun _ hF2 => ?_, ?_⟩
          · obtain ⟨_, hle2, H2⟩ := hF2
            refine  (ow_loadI (v := .int .i64 t.kind) ty3 H2 rfl (At.mono hle2 (At.sub (vs := [.int .i64 t.kind]) hat1 0 rfl)) rfl rfl rfl ?_)
            exact ⟨rfl, rfl⟩
          refine ⟨kn_op rfl rfl ((wantB_some (j := 6) rfl rfl (d := 10) rfl rfl (u := false) (by exact congrArg Value.bool (decide_eq_false (by omega)))).trans rfl) fun _ hF2 => ?_, ?_⟩
          · obtain ⟨_, hle2, H2⟩ := hF2
            refine  (ow_neq rfl rfl ?_)
            exact ⟨rfl, rfl⟩
          refine ⟨kn_op rfl rfl (wantB_none rfl) fun _ hF2 => ?_, ?_⟩
          · obtain ⟨_, hle2, H2⟩ := hF2
            refine  (ow_pick (a := false) (v := .bool (!decide (t.kind = 1))) (congrArg Value.bool (decide_eq_false (by omega))) rfl ?_)
            exact ⟨rfl, rfl⟩
          refine ⟨kn_op rfl rfl (wantB_none rfl) fun _ hF2 => ?_, ?_⟩
          · obtain ⟨_, hle2, H2⟩ := hF2
            refine  (ow_move (v := .bool (!decide (t.kind = 1))) rfl ?_)
            exact ⟨rfl, rfl⟩
          refine ⟨kn_pass rfl rfl ((wantB_some (j := 16) rfl rfl (d := 20) rfl rfl (u := true) (by exact congrArg Value.bool (congrArg (a₂ := false) not hg2))).trans rfl) rfl, ?_⟩
          refine ⟨kn_pass rfl rfl ((wantB_some (j := 16) rfl rfl (d := 20) rfl rfl (u := true) (by exact congrArg Value.bool (congrArg (a₂ := false) not hg2))).trans rfl) rfl, ?_⟩
          refine ⟨kn_pass rfl rfl ((wantB_some (j := 16) rfl rfl (d := 20) rfl rfl (u := true) (by exact congrArg Value.bool (congrArg (a₂ := false) not hg2))).trans rfl) rfl, ?_⟩
          refine ⟨kn_pass rfl rfl ((wantB_some (j := 16) rfl rfl (d := 20) rfl rfl (u := true) (by exact congrArg Value.bool (congrArg (a₂ := false) not hg2))).trans rfl) rfl, ?_⟩
          refine ⟨kn_pass rfl rfl ((wantB_some (j := 16) rfl rfl (d := 20) rfl rfl (u := true) (by exact congrArg Value.bool (congrArg (a₂ := false) not hg2))).trans rfl) rfl, ?_⟩
          refine ⟨kn_pass rfl rfl ((wantB_some (j := 16) rfl rfl (d := 20) rfl rfl (u := true) (by exact congrArg Value.bool (congrArg (a₂ := false) not hg2))).trans rfl) rfl, ?_⟩
          refine ⟨kn_pass rfl rfl ((wantB_some (j := 16) rfl rfl (d := 20) rfl rfl (u := true) (by exact congrArg Value.bool (congrArg (a₂ := false) not hg2))).trans rfl) rfl, ?_⟩
          exact trivial
        have H := H.drew
        refine cw_pass rfl ((wantB_some (j := 16) rfl rfl (d := 20) rfl rfl (u := true) (by exact congrArg Value.bool (congrArg (a₂ := false) not hg2))).trans rfl) ?_
        refine af_some [] (fun w_ => ∃ I2, Le I I2 ∧ Hp B I2 w_ [paB gP (.slice s0A (r.length + 1 : Nat) s0c) e q0 q1 q2 q3 q4 q5 q6 q7 q8 q9]) rfl ⟨_, Le.refl _, H.pick [0] (by decide)⟩ ?_ ?_
        · refine ⟨kn_pass rfl rfl ((wantB_some (j := 16) rfl rfl (d := 20) rfl rfl (u := true) (by exact congrArg Value.bool (congrArg (a₂ := false) not hg2))).trans rfl) rfl, ?_⟩
          refine ⟨kn_pass rfl rfl ((wantB_some (j := 16) rfl rfl (d := 20) rfl rfl (u := true) (by exact congrArg Value.bool (congrArg (a₂ := false) not hg2))).trans rfl) rfl, ?_⟩
          refine ⟨kn_pass rfl rfl ((wantB_some (j := 16) rfl rfl (d := 20) rfl rfl (u := true) (by exact congrArg Value.bool (congrArg (a₂ := false) not hg2))).trans rfl) rfl, ?_⟩
          refine ⟨kn_pass rfl rfl ((wantB_some (j := 16) rfl rfl (d := 20) rfl rfl (u := true) (by exact congrArg Value.bool (congrArg (a₂ := false) not hg2))).trans rfl) rfl, ?_⟩
          refine ⟨kn_pass rfl rfl ((wantB_some (j := 16) rfl rfl (d := 20) rfl rfl (u := true) (by exact congrArg Value.bool (congrArg (a₂ := false) not hg2))).trans rfl) rfl, ?_⟩
          refine ⟨kn_pass rfl rfl ((wantB_some (j := 16) rfl rfl (d := 20) rfl rfl (u := true) (by exact congrArg Value.bool (congrArg (a₂ := false) not hg2))).trans rfl) rfl, ?_⟩
          refine ⟨kn_pass rfl rfl ((wantB_some (j := 16) rfl rfl (d := 20) rfl rfl (u := true) (by exact congrArg Value.bool (congrArg (a₂ := false) not hg2))).trans rfl) rfl, ?_⟩
          exact trivial
        refine cw_pass rfl ((wantB_some (j := 16) rfl rfl (d := 20) rfl rfl (u := true) (by exact congrArg Value.bool (congrArg (a₂ := false) not hg2))).trans rfl) ?_
        refine af_some [(30, .bool true)] (fun w_ => ∃ I2, Le I I2 ∧ Hp B I2 w_ [paB gP (.slice s0A (r.length + 1 : Nat) s0c) e q0 q1 q2 q3 q4 q5 q6 q7 q8 q9]) rfl ⟨_, Le.refl _, H.pick [0] (by decide)⟩ ?_ ?_
        · refine ⟨kn_op rfl rfl (wantB_none rfl) fun _ hF2 => ?_, ?_⟩
          · obtain ⟨_, hle2, H2⟩ := hF2
            refine  (ow_pick (a := true) (v := .bool true) (congrArg Value.bool (congrArg (a₂ := false) not hg2)) rfl ?_)
            exact ⟨rfl, rfl⟩
          exact trivial
        refine cw_nil ?_
        exact st_live [0, 2, 30] (again _ _ ⟨_, _, rfl, H, by first | rfl | (rw [hg2] <;> rfl) | simp [hg2]⟩)
    rintro _ _ ⟨r3, _, rfl, H, rfl⟩
    refine st_cond (!(decide (t.kind = 1)) || (decide (0 ≤ idx resW t.text))) rfl (fun hc4 => ?_) (fun hc4 => ?_)
    · rw [idx_res] at hc4
      have hbad := hc4
      refine st_region ?_
      refine sr_op rfl rfl (ow_move (v := .pointer (some ⟨gP, 0, none⟩)) rfl ?_)
      refine sr_op rfl rfl (ow_callp en133 rfl (fail_c H s0) ?_ ?_)
      · rintro _ _ h_
        exact h_.elim
      rintro _ _ ⟨rfl, H⟩
      exact (hP _ _ ⟨_, _, by rw [nameT_cons, if_neg (by intro h_; simp only [Bool.and_eq_true, Bool.not_eq_true', decide_eq_true_eq] at h_; simp only [Bool.or_eq_true, Bool.not_eq_true', decide_eq_false_iff_not] at hbad; rcases hbad with hbad | hbad <;> simp_all)], rfl, Hp.back H (Le.refl _)⟩).one
    · rw [idx_res] at hc4
      have hgood := hc4
      refine st_skip ?_
      refine st_seq ?_
      refine st_region ?_
      refine sr_op rfl rfl (ow_move (v := .pointer (some ⟨gP, 0, none⟩)) rfl ?_)
      refine sr_op rfl rfl (ow_nilCheck rfl ?_)
      refine sr_op rfl rfl (ow_fieldAddr fd182_0 ty67 rfl rfl (r := 0) rfl ?_)
      refine sr_op rfl rfl (ow_load (v := .slice s0A (r.length + 1 : Nat) s0c) ty67 H rfl 0 rfl rfl rfl rfl ?_)
      refine sr_op rfl rfl (ow_indexAddrA sl67 ty71 hA1 rfl rfl (by omega) (by omega) (r := o1 + 0 * 4) rfl ?_)
      refine sr_op rfl rfl (ow_fieldAddr fd71_1 ty9 rfl rfl (r := o1 + 0 * 4 + 1) rfl ?_)
      refine sr_op rfl rfl (ow_loadI (v := .string t.text) ty9 H rfl (At.sub (vs := [.string t.text]) hat1 1 rfl) rfl rfl rfl ?_)
      refine sr_op rfl rfl (ow_assign (v := .string t.text) rfl ?_)
      refine sr_nil ?_
      refine st_seq ?_
      refine st_region ?_
      refine sr_op rfl rfl (ow_move (v := .pointer (some ⟨gP, 0, none⟩)) rfl ?_)
      refine sr_op rfl rfl (ow_move (v := .pointer (some ⟨gP, 0, none⟩)) rfl ?_)
      refine sr_op rfl rfl (ow_nilCheck rfl ?_)
      refine sr_op rfl rfl (ow_fieldAddr fd182_0 ty67 rfl rfl (r := 0) rfl ?_)
      refine sr_op rfl rfl (ow_load (v := .slice s0A (r.length + 1 : Nat) s0c) ty67 H rfl 0 rfl rfl rfl rfl ?_)
      refine sr_op rfl rfl (ow_cutS (a := 1) (c := (r.length + 1 : Nat)) sl67 ty71 rfl (.inr ⟨_, rfl⟩) (.inl ⟨rfl, rfl⟩) (by omega) (by omega) (by omega) ?_)
      refine sr_op rfl rfl (ow_nilCheck rfl ?_)
      refine sr_op rfl rfl (ow_fieldAddr fd182_0 ty67 rfl rfl (r := 0) rfl ?_)
      refine sr_op rfl rfl (ow_store ty67 H rfl (v := .slice (if s0c = 1 then s0A else Option.map (fun z_ => z_.add (1 * 4)) s0A) ((r.length + 1 : Nat) - 1) (s0c - 1)) rfl [.slice (if s0c = 1 then s0A else Option.map (fun z_ => z_.add (1 * 4)) s0A) ((r.length + 1 : Nat) - 1) (s0c - 1)] rfl rfl rfl 0 rfl rfl (fun _ H => ?_))
      refine sr_nil ?_
      refine st_seq ?_
      refine st_region ?_
      refine sr_op rfl rfl (ow_move (v := .string t.text) rfl ?_)
      refine sr_op rfl rfl (ow_assign (v := .string t.text) rfl ?_)
      refine sr_nil ?_
      refine st_ret hb (hR _ _ (.string t.text) (res_run (vs := [.string t.text]) Tryz.results213 ⟨_, _, rfl, rfl, rfl⟩) ?_)
      exact ⟨t.text, r, _, by
        rw [nameT_cons, if_pos]
        simp only [Bool.or_eq_false_iff, Bool.not_eq_false', decide_eq_true_eq] at hgood
        simp [hgood.1, hgood.2], rfl, d1_1, (by have h_ := RepS.cut s0 1 (r.length + 1 : Nat) (by omega) (by omega); rw [List.take_of_length_le (by omega)] at h_; exact h_), Hp.back H (Le.refl _)⟩
theorem number_pc {B I L w} {gP : Nat} {e : Int} {q0 q1 q2 q3 q4 q5 q6 q7 q8 q9 : Value} {l : List Tk} {v : Value} (H : Hp B I w (paB gP v e q0 q1 q2 q3 q4 q5 q6 q7 q8 q9 :: L)) (hl : RepS encTk I 4 l v) : Calls Tryz.prog 269 #[.pointer (some ⟨gP, 0, none⟩)] w (Rp (fun r w' => ∃ n l' v', numT l = .ok n l' ∧ r = .int .i64 n ∧ I64 n ∧ RepS encTk I 4 l' v' ∧ Hp B I w' (paB gP v' e q0 q1 q2 q3 q4 q5 q6 q7 q8 q9 :: L)) (fun ch w' => badP B I gP e L (numT l) ch w')) := by
  cases l
  · obtain ⟨s0A, s0c, rfl, s0m, s0M, s0⟩ := RepS.open_ hl
    refine calls_st (n := 38) Tryz.func269 rfl rfl rfl ?_
    intro G bF cs hb hfn hR hP
    simp only [ini]
    refine st_seq ?_
    refine st_region ?_
    refine sr_op rfl rfl (ow_assign (v := .int .i64 0) rfl ?_)
    refine sr_nil ?_
    refine st_seq ?_
    refine st_seq ?_
    refine st_region ?_
    refine sr_op rfl rfl (ow_move (v := .pointer (some ⟨gP, 0, none⟩)) rfl ?_)
    refine sr_op rfl rfl (ow_nilCheck rfl ?_)
    refine sr_op rfl rfl (ow_fieldAddr fd182_0 ty67 rfl rfl (r := 0) rfl ?_)
    refine sr_op rfl rfl (ow_load (v := .slice s0A 0 s0c) ty67 H rfl 0 rfl rfl rfl rfl ?_)
    refine sr_op rfl rfl (ow_lenS sl67 rfl rfl ?_)
    refine sr_op rfl rfl (ow_eql rfl rfl ?_)
    refine sr_op rfl rfl (ow_move (v := .bool true) rfl ?_)
    refine sr_pass rfl (j := 6) (d := 10) rfl rfl rfl (u := true) (v := false) rfl rfl ?_
    refine sr_pass rfl (j := 6) (d := 10) rfl rfl rfl (u := true) (v := false) rfl rfl ?_
    refine sr_pass rfl (j := 6) (d := 10) rfl rfl rfl (u := true) (v := false) rfl rfl ?_
    refine sr_pass rfl (j := 6) (d := 10) rfl rfl rfl (u := true) (v := false) rfl rfl ?_
    refine sr_pass rfl (j := 6) (d := 10) rfl rfl rfl (u := true) (v := false) rfl rfl ?_
    refine sr_pass rfl (j := 6) (d := 10) rfl rfl rfl (u := true) (v := false) rfl rfl ?_
    refine sr_pass rfl (j := 6) (d := 10) rfl rfl rfl (u := true) (v := false) rfl rfl ?_
    refine sr_pass rfl (j := 6) (d := 10) rfl rfl rfl (u := true) (v := false) rfl rfl ?_
    refine sr_op rfl rfl (ow_pick (v := .bool true) rfl rfl ?_)
    refine sr_nil ?_
    refine st_yes rfl ?_
    refine st_region ?_
    refine sr_op rfl rfl (ow_move (v := .pointer (some ⟨gP, 0, none⟩)) rfl ?_)
    refine sr_op rfl rfl (ow_callp en133 rfl (fail_c H s0) ?_ ?_)
    · rintro _ _ h_
      exact h_.elim
    rintro _ _ ⟨rfl, H⟩
    exact (hP _ _ ⟨_, _, rfl, rfl, Hp.back H (Le.refl _)⟩).one
  · rename_i t r
    have hlen_ : (t :: r).length = r.length + 1 := rfl
    obtain ⟨s0A, s0c, rfl, s0m, s0M, s0⟩ := RepS.open_ hl
    refine calls_st (n := 38) Tryz.func269 rfl rfl rfl ?_
    intro G bF cs hb hfn hR hP
    simp only [ini]
    refine st_seq ?_
    refine st_region ?_
    refine sr_op rfl rfl (ow_assign (v := .int .i64 0) rfl ?_)
    refine sr_nil ?_
    refine st_seq ?_
    refine st_seq ?_
    refine st_region ?_
    refine sr_op rfl rfl (ow_move (v := .pointer (some ⟨gP, 0, none⟩)) rfl ?_)
    refine sr_op rfl rfl (ow_nilCheck rfl ?_)
    refine sr_op rfl rfl (ow_fieldAddr fd182_0 ty67 rfl rfl (r := 0) rfl ?_)
    refine sr_op rfl rfl (ow_load (v := .slice s0A (r.length + 1 : Nat) s0c) ty67 H rfl 0 rfl rfl rfl rfl ?_)
    refine sr_op rfl rfl (ow_lenS sl67 rfl rfl ?_)
    refine sr_op rfl rfl (ow_eql rfl rfl ?_)
    refine sr_op rfl rfl (ow_move (v := .bool (decide (((r.length + 1 : Nat) : Int) = 0))) rfl ?_)
    refine sr_want rfl (j := 6) (d := 10) rfl rfl rfl (v := false) (congrArg Value.bool (decide_eq_false (by omega))) rfl (ow_move (v := .pointer (some ⟨gP, 0, none⟩)) rfl ?_)
    refine sr_want rfl (j := 6) (d := 10) rfl rfl rfl (v := false) (congrArg Value.bool (decide_eq_false (by omega))) rfl (ow_nilCheck rfl ?_)
    refine sr_want rfl (j := 6) (d := 10) rfl rfl rfl (v := false) (congrArg Value.bool (decide_eq_false (by omega))) rfl (ow_fieldAddr fd182_0 ty67 rfl rfl (r := 0) rfl ?_)
    refine sr_want rfl (j := 6) (d := 10) rfl rfl rfl (v := false) (congrArg Value.bool (decide_eq_false (by omega))) rfl (ow_load (v := .slice s0A (r.length + 1 : Nat) s0c) ty67 H rfl 0 rfl rfl rfl rfl ?_)
    have he1 : (t :: r)[0]? = some t := rfl
    obtain ⟨b1, o1, us1, hA1, hat1, hul1, hr1⟩ := RepS.get s0 he1
    have d1 := hr1
    obtain ⟨rfl, d1_0, d1_1, d1_2, d1_3⟩ := tk_iff.1 hr1
    refine sr_want rfl (j := 6) (d := 10) rfl rfl rfl (v := false) (congrArg Value.bool (decide_eq_false (by omega))) rfl (ow_indexAddrA sl67 ty71 hA1 rfl rfl (by omega) (by omega) (r := o1 + 0 * 4) rfl ?_)
    refine sr_want rfl (j := 6) (d := 10) rfl rfl rfl (v := false) (congrArg Value.bool (decide_eq_false (by omega))) rfl (ow_fieldAddr fd71_0 ty3 rfl rfl (r := o1 + 0 * 4 + 0) rfl ?_)
    refine sr_want rfl (j := 6) (d := 10) rfl rfl rfl (v := false) (congrArg Value.bool (decide_eq_false (by omega))) rfl (ow_loadI (v := .int .i64 t.kind) ty3 H rfl (At.sub (vs := [.int .i64 t.kind]) hat1 0 rfl) rfl rfl rfl ?_)
    refine sr_want rfl (j := 6) (d := 10) rfl rfl rfl (v := false) (congrArg Value.bool (decide_eq_false (by omega))) rfl (ow_neq rfl rfl ?_)
    refine sr_op rfl rfl (ow_pick (a := false) (v := .bool (!decide (t.kind = 2))) (congrArg Value.bool (decide_eq_false (by omega))) rfl ?_)
    refine sr_nil ?_
    refine st_cond (!decide (t.kind = 2)) rfl (fun hc2 => ?_) (fun hc2 => ?_)
    · have hbad := hc2
      refine st_region ?_
      refine sr_op rfl rfl (ow_move (v := .pointer (some ⟨gP, 0, none⟩)) rfl ?_)
      refine sr_op rfl rfl (ow_callp en133 rfl (fail_c H s0) ?_ ?_)
      · rintro _ _ h_
        exact h_.elim
      rintro _ _ ⟨rfl, H⟩
      exact (hP _ _ ⟨_, _, by rw [numT_cons, if_neg (of_decide_eq_false (bnt hbad))], rfl, Hp.back H (Le.refl _)⟩).one
    · have hgood := hc2
      refine st_skip ?_
      refine st_seq ?_
      refine st_region ?_
      refine sr_op rfl rfl (ow_move (v := .pointer (some ⟨gP, 0, none⟩)) rfl ?_)
      refine sr_op rfl rfl (ow_nilCheck rfl ?_)
      refine sr_op rfl rfl (ow_fieldAddr fd182_0 ty67 rfl rfl (r := 0) rfl ?_)
      refine sr_op rfl rfl (ow_load (v := .slice s0A (r.length + 1 : Nat) s0c) ty67 H rfl 0 rfl rfl rfl rfl ?_)
      refine sr_op rfl rfl (ow_indexAddrA sl67 ty71 hA1 rfl rfl (by omega) (by omega) (r := o1 + 0 * 4) rfl ?_)
      refine sr_op rfl rfl (ow_fieldAddr fd71_2 ty3 rfl rfl (r := o1 + 0 * 4 + 2) rfl ?_)
      refine sr_op rfl rfl (ow_loadI (v := .int .i64 t.n) ty3 H rfl (At.sub (vs := [.int .i64 t.n]) hat1 2 rfl) rfl rfl rfl ?_)
      refine sr_op rfl rfl (ow_assign (v := .int .i64 t.n) rfl ?_)
      refine sr_nil ?_
      refine st_seq ?_
      refine st_region ?_
      refine sr_op rfl rfl (ow_move (v := .pointer (some ⟨gP, 0, none⟩)) rfl ?_)
      refine sr_op rfl rfl (ow_move (v := .pointer (some ⟨gP, 0, none⟩)) rfl ?_)
      refine sr_op rfl rfl (ow_nilCheck rfl ?_)
      refine sr_op rfl rfl (ow_fieldAddr fd182_0 ty67 rfl rfl (r := 0) rfl ?_)
      refine sr_op rfl rfl (ow_load (v := .slice s0A (r.length + 1 : Nat) s0c) ty67 H rfl 0 rfl rfl rfl rfl ?_)
      refine sr_op rfl rfl (ow_cutS (a := 1) (c := (r.length + 1 : Nat)) sl67 ty71 rfl (.inr ⟨_, rfl⟩) (.inl ⟨rfl, rfl⟩) (by omega) (by omega) (by omega) ?_)
      refine sr_op rfl rfl (ow_nilCheck rfl ?_)
      refine sr_op rfl rfl (ow_fieldAddr fd182_0 ty67 rfl rfl (r := 0) rfl ?_)
      refine sr_op rfl rfl (ow_store ty67 H rfl (v := .slice (if s0c = 1 then s0A else Option.map (fun z_ => z_.add (1 * 4)) s0A) ((r.length + 1 : Nat) - 1) (s0c - 1)) rfl [.slice (if s0c = 1 then s0A else Option.map (fun z_ => z_.add (1 * 4)) s0A) ((r.length + 1 : Nat) - 1) (s0c - 1)] rfl rfl rfl 0 rfl rfl (fun _ H => ?_))
      refine sr_nil ?_
      refine st_seq ?_
      refine st_region ?_
      refine sr_op rfl rfl (ow_move (v := .int .i64 t.n) rfl ?_)
      refine sr_op rfl rfl (ow_assign (v := .int .i64 t.n) rfl ?_)
      refine sr_nil ?_
      refine st_ret hb (hR _ _ (.int .i64 t.n) (res_run (vs := [.int .i64 t.n]) Tryz.results269 ⟨_, _, rfl, rfl, rfl⟩) ?_)
      exact ⟨t.n, r, _, by rw [numT_cons, if_pos (of_decide_eq_true (bnf hgood))], rfl, d1_2, (by have h_ := RepS.cut s0 1 (r.length + 1 : Nat) (by omega) (by omega); rw [List.take_of_length_le (by omega)] at h_; exact h_), H⟩
end Go.Proofs.YtghmjnbpkobooaaGreatDoor
