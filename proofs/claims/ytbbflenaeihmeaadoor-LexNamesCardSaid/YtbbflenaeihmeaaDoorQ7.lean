/-
  Walks: the statements LexNames and LexWrong.
-/
import Derived.Test.YtbbflenaeihmeaaDoorQ6
import Derived.Test.YtbbflenaeihmeaaDoorL4
set_option linter.unusedVariables false
set_option linter.unusedSimpArgs false
set_option maxRecDepth 10000
set_option maxHeartbeats 4000000
namespace Go.Proofs.YtbbflenaeihmeaaDoor
open Go Go.RowKit

theorem one_ok {s : ByteArray} (hS : S63 s) : ∀ t ∈ [mkTk 1 s 0 0], S63 t.text ∧ I64 t.n := by
  intro t ht
  obtain rfl := List.mem_singleton.1 ht
  exact ⟨hS, i64_0⟩
theorem join_one (s sep : ByteArray) : joinS [s] sep = s := by
  apply bytes_ext
  simp [joinS, Lib.join]
theorem one_join {s : ByteArray} (hz : (s.size : Int) ≤ 1000) : (joinS ([mkTk 1 s 0 0].map spellS) ⟨#[32]⟩).size ≤ 140737488355328 := by
  rw [List.map_singleton, join_one]
  show s.size ≤ _
  omega
theorem one_textY {s : ByteArray} (hn : nameB s = true) : textE [mkTk 1 s 0 0] = (s, 0) := by
  unfold textE
  rw [if_pos (by rw [List.all_cons, List.all_nil, Bool.and_true, valid_name]; exact hn), List.map_singleton, join_one]
  rfl
theorem one_textN {s : ByteArray} (hn : nameB s = false) : textE [mkTk 1 s 0 0] = (⟨#[]⟩, 30) := by
  unfold textE
  rw [if_neg (by rw [List.all_cons, List.all_nil, Bool.and_true, valid_name, hn]; decide)]
theorem LexNames_c {B I L w} (H : Hp B I w L) (s : ByteArray) (hS : S63 s) (hlib : LibAt I) : Calls Tryd.prog 16 #[.string s] w (Rt fun r w' => r = .bool true ∧ Hp B I w' L) := by
  rcases Classical.em (1000 < (s.size : Int)) with hbig | hbig
  rotate_left
  have hcs := names_cases (s := s) (by omega)
  rcases hcs with ⟨hn, hx⟩ | ⟨hn, l, a, e, hx, he⟩ | ⟨hn, l, a, hx, he⟩ | ⟨hn, t, a, hx, he⟩ | ⟨hn, t, a, hx, hk, he⟩
  · refine calls_st (n := 73) Tryd.func16 rfl rfl rfl ?_
    intro G bF cs hb hfn hR hP
    simp only [ini]
    refine st_seq ?_
    refine st_region ?_
    refine sr_op rfl rfl (ow_assign (v := .bool false) rfl ?_)
    refine sr_nil ?_
    refine st_seq ?_
    refine st_seq ?_
    refine st_region ?_
    refine sr_op rfl rfl (ow_call en33 rfl (lexSane_c H hlib) ?_)
    rintro _ _ ⟨rfl, H⟩
    refine sr_op rfl rfl (ow_not rfl ?_)
    refine sr_nil ?_
    refine st_no rfl ?_
    refine st_skip ?_
    refine st_seq ?_
    refine st_seq ?_
    refine st_region ?_
    refine sr_op rfl rfl (ow_move (v := .string s) rfl ?_)
    refine sr_op rfl rfl (ow_lenT un9 rfl rfl ?_)
    refine sr_op rfl rfl (ow_gtr rfl rfl ?_)
    refine sr_nil ?_
    refine st_no (congrArg Value.bool (decide_eq_false hbig)) ?_
    refine st_skip ?_
    refine st_seq ?_
    refine st_region ?_
    refine sr_op rfl rfl (ow_move (v := .string s) rfl ?_)
    refine sr_op rfl rfl (ow_call en34 rfl (Lex_as H hS hlib hx) ?_)
    rintro _ _ ⟨I1, v1, hI1, H, rfl, hl1⟩
    obtain ⟨s1A, s1c, rfl, s1m, s1M, s1⟩ := RepS.open_ hl1
    refine sr_op rfl rfl (ow_move (v := .tuple #[.slice s1A 1 s1c, .int .i64 0, .int .i64 0]) rfl ?_)
    refine sr_op rfl rfl (ow_extract (v := .slice s1A 1 s1c) rfl rfl ?_)
    refine sr_op rfl rfl (ow_extract (v := .int .i64 0) rfl rfl ?_)
    refine sr_op rfl rfl (ow_extract (v := .int .i64 0) rfl rfl ?_)
    refine sr_op rfl rfl (ow_assign (v := .slice s1A 1 s1c) rfl ?_)
    refine sr_op rfl rfl (ow_assign (v := .int .i64 0) rfl ?_)
    refine sr_op rfl rfl (ow_assign (v := .int .i64 0) rfl ?_)
    refine sr_nil ?_
    refine st_seq ?_
    refine st_region ?_
    refine sr_op rfl rfl (ow_move (v := .int .i64 0) rfl ?_)
    refine sr_op rfl rfl (ow_eql rfl rfl ?_)
    refine sr_op rfl rfl (ow_move (v := .bool true) rfl ?_)
    refine sr_want rfl (j := 2) (d := 22) rfl rfl rfl (v := true) rfl rfl (ow_move (v := .slice s1A 1 s1c) rfl ?_)
    refine sr_want rfl (j := 2) (d := 22) rfl rfl rfl (v := true) rfl rfl (ow_lenS sl53 rfl rfl ?_)
    refine sr_want rfl (j := 2) (d := 22) rfl rfl rfl (v := true) rfl rfl (ow_eql rfl rfl ?_)
    refine sr_op rfl rfl (ow_pick (v := .bool true) rfl rfl ?_)
    refine sr_op rfl rfl (ow_move (v := .bool true) rfl ?_)
    refine sr_want rfl (j := 7) (d := 27) rfl rfl rfl (v := true) rfl rfl (ow_move (v := .slice s1A 1 s1c) rfl ?_)
    have he2 : [mkTk 1 s 0 0][0]? = some (mkTk 1 s 0 0) := rfl
    obtain ⟨b2, o2, us2, hA2, hat2, hul2, hr2⟩ := RepS.get s1 he2
    have d2 := hr2
    obtain ⟨rfl, d2_0, d2_1, d2_2, d2_3⟩ := tk_iff.1 hr2
    refine sr_want rfl (j := 7) (d := 27) rfl rfl rfl (v := true) rfl rfl (ow_indexAddrA sl53 ty64 hA2 rfl rfl (by decide) (by decide) (r := o2 + 0 * 4) rfl ?_)
    refine sr_want rfl (j := 7) (d := 27) rfl rfl rfl (v := true) rfl rfl (ow_fieldAddr fd64_0 ty3 rfl rfl (r := o2 + 0 * 4 + 0) rfl ?_)
    refine sr_want rfl (j := 7) (d := 27) rfl rfl rfl (v := true) rfl rfl (ow_loadI (v := .int .i64 1) ty3 H rfl (At.sub (vs := [.int .i64 1]) hat2 0 rfl) rfl rfl rfl ?_)
    refine sr_want rfl (j := 7) (d := 27) rfl rfl rfl (v := true) rfl rfl (ow_eql rfl rfl ?_)
    refine sr_op rfl rfl (ow_pick (v := .bool true) rfl rfl ?_)
    refine sr_op rfl rfl (ow_move (v := .bool true) rfl ?_)
    refine sr_want rfl (j := 14) (d := 34) rfl rfl rfl (v := true) rfl rfl (ow_move (v := .slice s1A 1 s1c) rfl ?_)
    refine sr_want rfl (j := 14) (d := 34) rfl rfl rfl (v := true) rfl rfl (ow_indexAddrA sl53 ty64 hA2 rfl rfl (by decide) (by decide) (r := o2 + 0 * 4) rfl ?_)
    refine sr_want rfl (j := 14) (d := 34) rfl rfl rfl (v := true) rfl rfl (ow_fieldAddr fd64_1 ty9 rfl rfl (r := o2 + 0 * 4 + 1) rfl ?_)
    refine sr_want rfl (j := 14) (d := 34) rfl rfl rfl (v := true) rfl rfl (ow_loadI (v := .string s) ty9 H rfl (At.sub (vs := [.string s]) hat2 1 rfl) rfl rfl rfl ?_)
    refine sr_want rfl (j := 14) (d := 34) rfl rfl rfl (v := true) rfl rfl (ow_move (v := .string s) rfl ?_)
    refine sr_want rfl (j := 14) (d := 34) rfl rfl rfl (v := true) rfl rfl (ow_seq rfl rfl ?_)
    refine sr_op rfl rfl (ow_pick (v := .bool (decide (s = s))) rfl rfl ?_)
    refine sr_op rfl rfl (ow_move (v := .bool (decide (s = s))) rfl ?_)
    refine sr_want rfl (j := 22) (d := 42) rfl rfl rfl (v := true) (congrArg Value.bool (decide_eq_true rfl)) rfl (ow_move (v := .slice s1A 1 s1c) rfl ?_)
    refine sr_want rfl (j := 22) (d := 42) rfl rfl rfl (v := true) (congrArg Value.bool (decide_eq_true rfl)) rfl (ow_indexAddrA sl53 ty64 hA2 rfl rfl (by decide) (by decide) (r := o2 + 0 * 4) rfl ?_)
    refine sr_want rfl (j := 22) (d := 42) rfl rfl rfl (v := true) (congrArg Value.bool (decide_eq_true rfl)) rfl (ow_fieldAddr fd64_3 ty3 rfl rfl (r := o2 + 0 * 4 + 3) rfl ?_)
    refine sr_want rfl (j := 22) (d := 42) rfl rfl rfl (v := true) (congrArg Value.bool (decide_eq_true rfl)) rfl (ow_loadI (v := .int .i64 0) ty3 H rfl (At.sub (vs := [.int .i64 0]) hat2 3 rfl) rfl rfl rfl ?_)
    refine sr_want rfl (j := 22) (d := 42) rfl rfl rfl (v := true) (congrArg Value.bool (decide_eq_true rfl)) rfl (ow_eql rfl rfl ?_)
    refine sr_op rfl rfl (ow_pick (a := true) (v := .bool true) (congrArg Value.bool (decide_eq_true rfl)) rfl ?_)
    refine sr_op rfl rfl (ow_move (v := .bool true) rfl ?_)
    refine sr_want rfl (j := 29) (d := 49) rfl rfl rfl (v := true) rfl rfl (ow_move (v := .slice s1A 1 s1c) rfl ?_)
    refine sr_want rfl (j := 29) (d := 49) rfl rfl rfl (v := true) rfl rfl (ow_indexAddrA sl53 ty64 hA2 rfl rfl (by decide) (by decide) (r := o2 + 0 * 4) rfl ?_)
    refine sr_want rfl (j := 29) (d := 49) rfl rfl rfl (v := true) rfl rfl (ow_fieldAddr fd64_2 ty3 rfl rfl (r := o2 + 0 * 4 + 2) rfl ?_)
    refine sr_want rfl (j := 29) (d := 49) rfl rfl rfl (v := true) rfl rfl (ow_loadI (v := .int .i64 0) ty3 H rfl (At.sub (vs := [.int .i64 0]) hat2 2 rfl) rfl rfl rfl ?_)
    refine sr_want rfl (j := 29) (d := 49) rfl rfl rfl (v := true) rfl rfl (ow_eql rfl rfl ?_)
    refine sr_op rfl rfl (ow_pick (v := .bool true) rfl rfl ?_)
    refine sr_op rfl rfl (ow_assign (v := .bool true) rfl ?_)
    refine sr_nil ?_
    refine st_seq ?_
    refine st_region ?_
    refine sr_op rfl rfl (ow_move (v := .string s) rfl ?_)
    refine sr_op rfl rfl (ow_build (ps := [(0, .int .i64 1), (1, .string s)]) (v := .agg #[.int .i64 1, .string s, .int .i64 0, .int .i64 0]) rfl (fun _ => by kernel_rfl) ?_)
    refine sr_op rfl rfl (ow_buildSlice H (e := 64) (ps := [(0, .agg #[.int .i64 1, .string s, .int .i64 0, .int .i64 0])]) rfl [.int .i64 1, .string s, .int .i64 0, .int .i64 0] (fun _ => by kernel_rfl) (fun g3 _ H => ?_))
    obtain ⟨I4, hI4, H, hl4⟩ := lit_done (enc := encTk) (sz := 4) (n := 1) [(mkTk 1 s 0 0)] rfl (by omega) H ⟨((tk_iff (t := mkTk 1 s 0 0)).2 ⟨rfl, i64_1, hS, i64_0, i64_0⟩), rfl, rfl⟩
    have hlib := ((hlib.mono hI1).mono hI4)
    refine sr_op rfl rfl (ow_call en38 rfl (Text_as H hl4 hlib (by simp) (one_join (by omega)) (one_ok hS) (one_textY hn)) ?_)
    rintro _ _ ⟨rfl, H⟩
    refine sr_op rfl rfl (ow_move (v := .tuple #[.string s, .int .i64 0]) rfl ?_)
    refine sr_op rfl rfl (ow_extract (v := .string s) rfl rfl ?_)
    refine sr_op rfl rfl (ow_extract (v := .int .i64 0) rfl rfl ?_)
    refine sr_op rfl rfl (ow_assign (v := .string s) rfl ?_)
    refine sr_op rfl rfl (ow_assign (v := .int .i64 0) rfl ?_)
    refine sr_nil ?_
    refine st_seq ?_
    refine st_region ?_
    refine sr_op rfl rfl (ow_move (v := .string s) rfl ?_)
    refine sr_op rfl rfl (ow_call en42 rfl (Name_as H s hS hn) ?_)
    rintro _ _ ⟨rfl, H⟩
    refine sr_op rfl rfl (ow_move (v := .bool true) rfl ?_)
    refine sr_op rfl rfl (ow_beq Tryd.underlying4 rfl rfl ?_)
    refine sr_op rfl rfl (ow_move (v := .bool (decide (true = true))) rfl ?_)
    refine sr_want rfl (j := 4) (d := 67) rfl rfl rfl (v := true) (congrArg Value.bool (decide_eq_true rfl)) rfl (ow_move (v := .bool true) rfl ?_)
    refine sr_want rfl (j := 4) (d := 67) rfl rfl rfl (v := true) (congrArg Value.bool (decide_eq_true rfl)) rfl (ow_move (v := .int .i64 0) rfl ?_)
    refine sr_want rfl (j := 4) (d := 67) rfl rfl rfl (v := true) (congrArg Value.bool (decide_eq_true rfl)) rfl (ow_eql rfl rfl ?_)
    refine sr_want rfl (j := 4) (d := 67) rfl rfl rfl (v := true) (congrArg Value.bool (decide_eq_true rfl)) rfl (ow_beq Tryd.underlying4 rfl rfl ?_)
    refine sr_op rfl rfl (ow_pick (a := true) (v := .bool (decide (true = true))) (congrArg Value.bool (decide_eq_true rfl)) rfl ?_)
    refine sr_op rfl rfl (ow_assign (v := .bool (decide (true = true))) rfl ?_)
    refine sr_nil ?_
    refine st_ret hb (hR _ _ (.bool (decide (true = true))) (res_run (vs := [.bool (decide (true = true))]) Tryd.results16 ⟨_, _, rfl, rfl, rfl⟩) ?_)
    exact ⟨_, rfl, congrArg Value.bool (decide_eq_true rfl), (Hp.back H (hI1.trans hI4))⟩
  · refine calls_st (n := 73) Tryd.func16 rfl rfl rfl ?_
    intro G bF cs hb hfn hR hP
    simp only [ini]
    refine st_seq ?_
    refine st_region ?_
    refine sr_op rfl rfl (ow_assign (v := .bool false) rfl ?_)
    refine sr_nil ?_
    refine st_seq ?_
    refine st_seq ?_
    refine st_region ?_
    refine sr_op rfl rfl (ow_call en33 rfl (lexSane_c H hlib) ?_)
    rintro _ _ ⟨rfl, H⟩
    refine sr_op rfl rfl (ow_not rfl ?_)
    refine sr_nil ?_
    refine st_no rfl ?_
    refine st_skip ?_
    refine st_seq ?_
    refine st_seq ?_
    refine st_region ?_
    refine sr_op rfl rfl (ow_move (v := .string s) rfl ?_)
    refine sr_op rfl rfl (ow_lenT un9 rfl rfl ?_)
    refine sr_op rfl rfl (ow_gtr rfl rfl ?_)
    refine sr_nil ?_
    refine st_no (congrArg Value.bool (decide_eq_false hbig)) ?_
    refine st_skip ?_
    refine st_seq ?_
    refine st_region ?_
    refine sr_op rfl rfl (ow_move (v := .string s) rfl ?_)
    refine sr_op rfl rfl (ow_call en34 rfl (Lex_as H hS hlib hx) ?_)
    rintro _ _ ⟨I1, v1, hI1, H, rfl, hl1⟩
    obtain ⟨s1A, s1c, rfl, s1m, s1M, s1⟩ := RepS.open_ hl1
    refine sr_op rfl rfl (ow_move (v := .tuple #[.slice s1A l.length s1c, .int .i64 a, .int .i64 e]) rfl ?_)
    refine sr_op rfl rfl (ow_extract (v := .slice s1A l.length s1c) rfl rfl ?_)
    refine sr_op rfl rfl (ow_extract (v := .int .i64 a) rfl rfl ?_)
    refine sr_op rfl rfl (ow_extract (v := .int .i64 e) rfl rfl ?_)
    refine sr_op rfl rfl (ow_assign (v := .slice s1A l.length s1c) rfl ?_)
    refine sr_op rfl rfl (ow_assign (v := .int .i64 a) rfl ?_)
    refine sr_op rfl rfl (ow_assign (v := .int .i64 e) rfl ?_)
    refine sr_nil ?_
    refine st_seq ?_
    refine st_region ?_
    refine sr_op rfl rfl (ow_move (v := .int .i64 e) rfl ?_)
    refine sr_op rfl rfl (ow_eql rfl rfl ?_)
    refine sr_op rfl rfl (ow_move (v := .bool (decide (e = 0))) rfl ?_)
    refine sr_pass rfl (j := 2) (d := 22) rfl rfl rfl (u := false) (v := true) (congrArg Value.bool (decide_eq_false he)) rfl ?_
    refine sr_pass rfl (j := 2) (d := 22) rfl rfl rfl (u := false) (v := true) (congrArg Value.bool (decide_eq_false he)) rfl ?_
    refine sr_pass rfl (j := 2) (d := 22) rfl rfl rfl (u := false) (v := true) (congrArg Value.bool (decide_eq_false he)) rfl ?_
    refine sr_op rfl rfl (ow_pick (a := false) (v := .bool false) (congrArg Value.bool (decide_eq_false he)) rfl ?_)
    refine sr_op rfl rfl (ow_move (v := .bool false) rfl ?_)
    refine sr_pass rfl (j := 7) (d := 27) rfl rfl rfl (u := false) (v := true) rfl rfl ?_
    refine sr_pass rfl (j := 7) (d := 27) rfl rfl rfl (u := false) (v := true) rfl rfl ?_
    refine sr_pass rfl (j := 7) (d := 27) rfl rfl rfl (u := false) (v := true) rfl rfl ?_
    refine sr_pass rfl (j := 7) (d := 27) rfl rfl rfl (u := false) (v := true) rfl rfl ?_
    refine sr_pass rfl (j := 7) (d := 27) rfl rfl rfl (u := false) (v := true) rfl rfl ?_
    refine sr_op rfl rfl (ow_pick (v := .bool false) rfl rfl ?_)
    refine sr_op rfl rfl (ow_move (v := .bool false) rfl ?_)
    refine sr_pass rfl (j := 14) (d := 34) rfl rfl rfl (u := false) (v := true) rfl rfl ?_
    refine sr_pass rfl (j := 14) (d := 34) rfl rfl rfl (u := false) (v := true) rfl rfl ?_
    refine sr_pass rfl (j := 14) (d := 34) rfl rfl rfl (u := false) (v := true) rfl rfl ?_
    refine sr_pass rfl (j := 14) (d := 34) rfl rfl rfl (u := false) (v := true) rfl rfl ?_
    refine sr_pass rfl (j := 14) (d := 34) rfl rfl rfl (u := false) (v := true) rfl rfl ?_
    refine sr_pass rfl (j := 14) (d := 34) rfl rfl rfl (u := false) (v := true) rfl rfl ?_
    refine sr_op rfl rfl (ow_pick (v := .bool false) rfl rfl ?_)
    refine sr_op rfl rfl (ow_move (v := .bool false) rfl ?_)
    refine sr_pass rfl (j := 22) (d := 42) rfl rfl rfl (u := false) (v := true) rfl rfl ?_
    refine sr_pass rfl (j := 22) (d := 42) rfl rfl rfl (u := false) (v := true) rfl rfl ?_
    refine sr_pass rfl (j := 22) (d := 42) rfl rfl rfl (u := false) (v := true) rfl rfl ?_
    refine sr_pass rfl (j := 22) (d := 42) rfl rfl rfl (u := false) (v := true) rfl rfl ?_
    refine sr_pass rfl (j := 22) (d := 42) rfl rfl rfl (u := false) (v := true) rfl rfl ?_
    refine sr_op rfl rfl (ow_pick (v := .bool false) rfl rfl ?_)
    refine sr_op rfl rfl (ow_move (v := .bool false) rfl ?_)
    refine sr_pass rfl (j := 29) (d := 49) rfl rfl rfl (u := false) (v := true) rfl rfl ?_
    refine sr_pass rfl (j := 29) (d := 49) rfl rfl rfl (u := false) (v := true) rfl rfl ?_
    refine sr_pass rfl (j := 29) (d := 49) rfl rfl rfl (u := false) (v := true) rfl rfl ?_
    refine sr_pass rfl (j := 29) (d := 49) rfl rfl rfl (u := false) (v := true) rfl rfl ?_
    refine sr_pass rfl (j := 29) (d := 49) rfl rfl rfl (u := false) (v := true) rfl rfl ?_
    refine sr_op rfl rfl (ow_pick (v := .bool false) rfl rfl ?_)
    refine sr_op rfl rfl (ow_assign (v := .bool false) rfl ?_)
    refine sr_nil ?_
    refine st_seq ?_
    refine st_region ?_
    refine sr_op rfl rfl (ow_move (v := .string s) rfl ?_)
    refine sr_op rfl rfl (ow_build (ps := [(0, .int .i64 1), (1, .string s)]) (v := .agg #[.int .i64 1, .string s, .int .i64 0, .int .i64 0]) rfl (fun _ => by kernel_rfl) ?_)
    refine sr_op rfl rfl (ow_buildSlice H (e := 64) (ps := [(0, .agg #[.int .i64 1, .string s, .int .i64 0, .int .i64 0])]) rfl [.int .i64 1, .string s, .int .i64 0, .int .i64 0] (fun _ => by kernel_rfl) (fun g2 _ H => ?_))
    obtain ⟨I3, hI3, H, hl3⟩ := lit_done (enc := encTk) (sz := 4) (n := 1) [(mkTk 1 s 0 0)] rfl (by omega) H ⟨((tk_iff (t := mkTk 1 s 0 0)).2 ⟨rfl, i64_1, hS, i64_0, i64_0⟩), rfl, rfl⟩
    have hlib := ((hlib.mono hI1).mono hI3)
    refine sr_op rfl rfl (ow_call en38 rfl (Text_as H hl3 hlib (by simp) (one_join (by omega)) (one_ok hS) (one_textN hn)) ?_)
    rintro _ _ ⟨rfl, H⟩
    refine sr_op rfl rfl (ow_move (v := .tuple #[.string ⟨#[]⟩, .int .i64 30]) rfl ?_)
    refine sr_op rfl rfl (ow_extract (v := .string ⟨#[]⟩) rfl rfl ?_)
    refine sr_op rfl rfl (ow_extract (v := .int .i64 30) rfl rfl ?_)
    refine sr_op rfl rfl (ow_assign (v := .string ⟨#[]⟩) rfl ?_)
    refine sr_op rfl rfl (ow_assign (v := .int .i64 30) rfl ?_)
    refine sr_nil ?_
    refine st_seq ?_
    refine st_region ?_
    refine sr_op rfl rfl (ow_move (v := .string s) rfl ?_)
    refine sr_op rfl rfl (ow_call en42 rfl (Name_as H s hS hn) ?_)
    rintro _ _ ⟨rfl, H⟩
    refine sr_op rfl rfl (ow_move (v := .bool false) rfl ?_)
    refine sr_op rfl rfl (ow_beq Tryd.underlying4 rfl rfl ?_)
    refine sr_op rfl rfl (ow_move (v := .bool (decide (false = false))) rfl ?_)
    refine sr_want rfl (j := 4) (d := 67) rfl rfl rfl (v := true) (congrArg Value.bool (decide_eq_true rfl)) rfl (ow_move (v := .bool false) rfl ?_)
    refine sr_want rfl (j := 4) (d := 67) rfl rfl rfl (v := true) (congrArg Value.bool (decide_eq_true rfl)) rfl (ow_move (v := .int .i64 30) rfl ?_)
    refine sr_want rfl (j := 4) (d := 67) rfl rfl rfl (v := true) (congrArg Value.bool (decide_eq_true rfl)) rfl (ow_eql rfl rfl ?_)
    refine sr_want rfl (j := 4) (d := 67) rfl rfl rfl (v := true) (congrArg Value.bool (decide_eq_true rfl)) rfl (ow_beq Tryd.underlying4 rfl rfl ?_)
    refine sr_op rfl rfl (ow_pick (a := true) (v := .bool (decide (false = false))) (congrArg Value.bool (decide_eq_true rfl)) rfl ?_)
    refine sr_op rfl rfl (ow_assign (v := .bool (decide (false = false))) rfl ?_)
    refine sr_nil ?_
    refine st_ret hb (hR _ _ (.bool (decide (false = false))) (res_run (vs := [.bool (decide (false = false))]) Tryd.results16 ⟨_, _, rfl, rfl, rfl⟩) ?_)
    exact ⟨_, rfl, congrArg Value.bool (decide_eq_true rfl), (Hp.back H (hI1.trans hI3))⟩
  · refine calls_st (n := 73) Tryd.func16 rfl rfl rfl ?_
    intro G bF cs hb hfn hR hP
    simp only [ini]
    refine st_seq ?_
    refine st_region ?_
    refine sr_op rfl rfl (ow_assign (v := .bool false) rfl ?_)
    refine sr_nil ?_
    refine st_seq ?_
    refine st_seq ?_
    refine st_region ?_
    refine sr_op rfl rfl (ow_call en33 rfl (lexSane_c H hlib) ?_)
    rintro _ _ ⟨rfl, H⟩
    refine sr_op rfl rfl (ow_not rfl ?_)
    refine sr_nil ?_
    refine st_no rfl ?_
    refine st_skip ?_
    refine st_seq ?_
    refine st_seq ?_
    refine st_region ?_
    refine sr_op rfl rfl (ow_move (v := .string s) rfl ?_)
    refine sr_op rfl rfl (ow_lenT un9 rfl rfl ?_)
    refine sr_op rfl rfl (ow_gtr rfl rfl ?_)
    refine sr_nil ?_
    refine st_no (congrArg Value.bool (decide_eq_false hbig)) ?_
    refine st_skip ?_
    refine st_seq ?_
    refine st_region ?_
    refine sr_op rfl rfl (ow_move (v := .string s) rfl ?_)
    refine sr_op rfl rfl (ow_call en34 rfl (Lex_as H hS hlib hx) ?_)
    rintro _ _ ⟨I1, v1, hI1, H, rfl, hl1⟩
    obtain ⟨s1A, s1c, rfl, s1m, s1M, s1⟩ := RepS.open_ hl1
    refine sr_op rfl rfl (ow_move (v := .tuple #[.slice s1A l.length s1c, .int .i64 a, .int .i64 0]) rfl ?_)
    refine sr_op rfl rfl (ow_extract (v := .slice s1A l.length s1c) rfl rfl ?_)
    refine sr_op rfl rfl (ow_extract (v := .int .i64 a) rfl rfl ?_)
    refine sr_op rfl rfl (ow_extract (v := .int .i64 0) rfl rfl ?_)
    refine sr_op rfl rfl (ow_assign (v := .slice s1A l.length s1c) rfl ?_)
    refine sr_op rfl rfl (ow_assign (v := .int .i64 a) rfl ?_)
    refine sr_op rfl rfl (ow_assign (v := .int .i64 0) rfl ?_)
    refine sr_nil ?_
    refine st_seq ?_
    refine st_region ?_
    refine sr_op rfl rfl (ow_move (v := .int .i64 0) rfl ?_)
    refine sr_op rfl rfl (ow_eql rfl rfl ?_)
    refine sr_op rfl rfl (ow_move (v := .bool true) rfl ?_)
    refine sr_want rfl (j := 2) (d := 22) rfl rfl rfl (v := true) rfl rfl (ow_move (v := .slice s1A l.length s1c) rfl ?_)
    refine sr_want rfl (j := 2) (d := 22) rfl rfl rfl (v := true) rfl rfl (ow_lenS sl53 rfl rfl ?_)
    refine sr_want rfl (j := 2) (d := 22) rfl rfl rfl (v := true) rfl rfl (ow_eql rfl rfl ?_)
    refine sr_op rfl rfl (ow_pick (v := .bool (decide ((l.length : Int) = 1))) rfl rfl ?_)
    refine sr_op rfl rfl (ow_move (v := .bool (decide ((l.length : Int) = 1))) rfl ?_)
    refine sr_pass rfl (j := 7) (d := 27) rfl rfl rfl (u := false) (v := true) (congrArg Value.bool (decide_eq_false he)) rfl ?_
    refine sr_pass rfl (j := 7) (d := 27) rfl rfl rfl (u := false) (v := true) (congrArg Value.bool (decide_eq_false he)) rfl ?_
    refine sr_pass rfl (j := 7) (d := 27) rfl rfl rfl (u := false) (v := true) (congrArg Value.bool (decide_eq_false he)) rfl ?_
    refine sr_pass rfl (j := 7) (d := 27) rfl rfl rfl (u := false) (v := true) (congrArg Value.bool (decide_eq_false he)) rfl ?_
    refine sr_pass rfl (j := 7) (d := 27) rfl rfl rfl (u := false) (v := true) (congrArg Value.bool (decide_eq_false he)) rfl ?_
    refine sr_op rfl rfl (ow_pick (a := false) (v := .bool false) (congrArg Value.bool (decide_eq_false he)) rfl ?_)
    refine sr_op rfl rfl (ow_move (v := .bool false) rfl ?_)
    refine sr_pass rfl (j := 14) (d := 34) rfl rfl rfl (u := false) (v := true) rfl rfl ?_
    refine sr_pass rfl (j := 14) (d := 34) rfl rfl rfl (u := false) (v := true) rfl rfl ?_
    refine sr_pass rfl (j := 14) (d := 34) rfl rfl rfl (u := false) (v := true) rfl rfl ?_
    refine sr_pass rfl (j := 14) (d := 34) rfl rfl rfl (u := false) (v := true) rfl rfl ?_
    refine sr_pass rfl (j := 14) (d := 34) rfl rfl rfl (u := false) (v := true) rfl rfl ?_
    refine sr_pass rfl (j := 14) (d := 34) rfl rfl rfl (u := false) (v := true) rfl rfl ?_
    refine sr_op rfl rfl (ow_pick (v := .bool false) rfl rfl ?_)
    refine sr_op rfl rfl (ow_move (v := .bool false) rfl ?_)
    refine sr_pass rfl (j := 22) (d := 42) rfl rfl rfl (u := false) (v := true) rfl rfl ?_
    refine sr_pass rfl (j := 22) (d := 42) rfl rfl rfl (u := false) (v := true) rfl rfl ?_
    refine sr_pass rfl (j := 22) (d := 42) rfl rfl rfl (u := false) (v := true) rfl rfl ?_
    refine sr_pass rfl (j := 22) (d := 42) rfl rfl rfl (u := false) (v := true) rfl rfl ?_
    refine sr_pass rfl (j := 22) (d := 42) rfl rfl rfl (u := false) (v := true) rfl rfl ?_
    refine sr_op rfl rfl (ow_pick (v := .bool false) rfl rfl ?_)
    refine sr_op rfl rfl (ow_move (v := .bool false) rfl ?_)
    refine sr_pass rfl (j := 29) (d := 49) rfl rfl rfl (u := false) (v := true) rfl rfl ?_
    refine sr_pass rfl (j := 29) (d := 49) rfl rfl rfl (u := false) (v := true) rfl rfl ?_
    refine sr_pass rfl (j := 29) (d := 49) rfl rfl rfl (u := false) (v := true) rfl rfl ?_
    refine sr_pass rfl (j := 29) (d := 49) rfl rfl rfl (u := false) (v := true) rfl rfl ?_
    refine sr_pass rfl (j := 29) (d := 49) rfl rfl rfl (u := false) (v := true) rfl rfl ?_
    refine sr_op rfl rfl (ow_pick (v := .bool false) rfl rfl ?_)
    refine sr_op rfl rfl (ow_assign (v := .bool false) rfl ?_)
    refine sr_nil ?_
    refine st_seq ?_
    refine st_region ?_
    refine sr_op rfl rfl (ow_move (v := .string s) rfl ?_)
    refine sr_op rfl rfl (ow_build (ps := [(0, .int .i64 1), (1, .string s)]) (v := .agg #[.int .i64 1, .string s, .int .i64 0, .int .i64 0]) rfl (fun _ => by kernel_rfl) ?_)
    refine sr_op rfl rfl (ow_buildSlice H (e := 64) (ps := [(0, .agg #[.int .i64 1, .string s, .int .i64 0, .int .i64 0])]) rfl [.int .i64 1, .string s, .int .i64 0, .int .i64 0] (fun _ => by kernel_rfl) (fun g2 _ H => ?_))
    obtain ⟨I3, hI3, H, hl3⟩ := lit_done (enc := encTk) (sz := 4) (n := 1) [(mkTk 1 s 0 0)] rfl (by omega) H ⟨((tk_iff (t := mkTk 1 s 0 0)).2 ⟨rfl, i64_1, hS, i64_0, i64_0⟩), rfl, rfl⟩
    have hlib := ((hlib.mono hI1).mono hI3)
    refine sr_op rfl rfl (ow_call en38 rfl (Text_as H hl3 hlib (by simp) (one_join (by omega)) (one_ok hS) (one_textN hn)) ?_)
    rintro _ _ ⟨rfl, H⟩
    refine sr_op rfl rfl (ow_move (v := .tuple #[.string ⟨#[]⟩, .int .i64 30]) rfl ?_)
    refine sr_op rfl rfl (ow_extract (v := .string ⟨#[]⟩) rfl rfl ?_)
    refine sr_op rfl rfl (ow_extract (v := .int .i64 30) rfl rfl ?_)
    refine sr_op rfl rfl (ow_assign (v := .string ⟨#[]⟩) rfl ?_)
    refine sr_op rfl rfl (ow_assign (v := .int .i64 30) rfl ?_)
    refine sr_nil ?_
    refine st_seq ?_
    refine st_region ?_
    refine sr_op rfl rfl (ow_move (v := .string s) rfl ?_)
    refine sr_op rfl rfl (ow_call en42 rfl (Name_as H s hS hn) ?_)
    rintro _ _ ⟨rfl, H⟩
    refine sr_op rfl rfl (ow_move (v := .bool false) rfl ?_)
    refine sr_op rfl rfl (ow_beq Tryd.underlying4 rfl rfl ?_)
    refine sr_op rfl rfl (ow_move (v := .bool (decide (false = false))) rfl ?_)
    refine sr_want rfl (j := 4) (d := 67) rfl rfl rfl (v := true) (congrArg Value.bool (decide_eq_true rfl)) rfl (ow_move (v := .bool false) rfl ?_)
    refine sr_want rfl (j := 4) (d := 67) rfl rfl rfl (v := true) (congrArg Value.bool (decide_eq_true rfl)) rfl (ow_move (v := .int .i64 30) rfl ?_)
    refine sr_want rfl (j := 4) (d := 67) rfl rfl rfl (v := true) (congrArg Value.bool (decide_eq_true rfl)) rfl (ow_eql rfl rfl ?_)
    refine sr_want rfl (j := 4) (d := 67) rfl rfl rfl (v := true) (congrArg Value.bool (decide_eq_true rfl)) rfl (ow_beq Tryd.underlying4 rfl rfl ?_)
    refine sr_op rfl rfl (ow_pick (a := true) (v := .bool (decide (false = false))) (congrArg Value.bool (decide_eq_true rfl)) rfl ?_)
    refine sr_op rfl rfl (ow_assign (v := .bool (decide (false = false))) rfl ?_)
    refine sr_nil ?_
    refine st_ret hb (hR _ _ (.bool (decide (false = false))) (res_run (vs := [.bool (decide (false = false))]) Tryd.results16 ⟨_, _, rfl, rfl, rfl⟩) ?_)
    exact ⟨_, rfl, congrArg Value.bool (decide_eq_true rfl), (Hp.back H (hI1.trans hI3))⟩
  · refine calls_st (n := 73) Tryd.func16 rfl rfl rfl ?_
    intro G bF cs hb hfn hR hP
    simp only [ini]
    refine st_seq ?_
    refine st_region ?_
    refine sr_op rfl rfl (ow_assign (v := .bool false) rfl ?_)
    refine sr_nil ?_
    refine st_seq ?_
    refine st_seq ?_
    refine st_region ?_
    refine sr_op rfl rfl (ow_call en33 rfl (lexSane_c H hlib) ?_)
    rintro _ _ ⟨rfl, H⟩
    refine sr_op rfl rfl (ow_not rfl ?_)
    refine sr_nil ?_
    refine st_no rfl ?_
    refine st_skip ?_
    refine st_seq ?_
    refine st_seq ?_
    refine st_region ?_
    refine sr_op rfl rfl (ow_move (v := .string s) rfl ?_)
    refine sr_op rfl rfl (ow_lenT un9 rfl rfl ?_)
    refine sr_op rfl rfl (ow_gtr rfl rfl ?_)
    refine sr_nil ?_
    refine st_no (congrArg Value.bool (decide_eq_false hbig)) ?_
    refine st_skip ?_
    refine st_seq ?_
    refine st_region ?_
    refine sr_op rfl rfl (ow_move (v := .string s) rfl ?_)
    refine sr_op rfl rfl (ow_call en34 rfl (Lex_as H hS hlib hx) ?_)
    rintro _ _ ⟨I1, v1, hI1, H, rfl, hl1⟩
    obtain ⟨s1A, s1c, rfl, s1m, s1M, s1⟩ := RepS.open_ hl1
    refine sr_op rfl rfl (ow_move (v := .tuple #[.slice s1A 1 s1c, .int .i64 a, .int .i64 0]) rfl ?_)
    refine sr_op rfl rfl (ow_extract (v := .slice s1A 1 s1c) rfl rfl ?_)
    refine sr_op rfl rfl (ow_extract (v := .int .i64 a) rfl rfl ?_)
    refine sr_op rfl rfl (ow_extract (v := .int .i64 0) rfl rfl ?_)
    refine sr_op rfl rfl (ow_assign (v := .slice s1A 1 s1c) rfl ?_)
    refine sr_op rfl rfl (ow_assign (v := .int .i64 a) rfl ?_)
    refine sr_op rfl rfl (ow_assign (v := .int .i64 0) rfl ?_)
    refine sr_nil ?_
    refine st_seq ?_
    refine st_region ?_
    refine sr_op rfl rfl (ow_move (v := .int .i64 0) rfl ?_)
    refine sr_op rfl rfl (ow_eql rfl rfl ?_)
    refine sr_op rfl rfl (ow_move (v := .bool true) rfl ?_)
    refine sr_want rfl (j := 2) (d := 22) rfl rfl rfl (v := true) rfl rfl (ow_move (v := .slice s1A 1 s1c) rfl ?_)
    refine sr_want rfl (j := 2) (d := 22) rfl rfl rfl (v := true) rfl rfl (ow_lenS sl53 rfl rfl ?_)
    refine sr_want rfl (j := 2) (d := 22) rfl rfl rfl (v := true) rfl rfl (ow_eql rfl rfl ?_)
    refine sr_op rfl rfl (ow_pick (v := .bool true) rfl rfl ?_)
    refine sr_op rfl rfl (ow_move (v := .bool true) rfl ?_)
    refine sr_want rfl (j := 7) (d := 27) rfl rfl rfl (v := true) rfl rfl (ow_move (v := .slice s1A 1 s1c) rfl ?_)
    have he2 : [t][0]? = some t := rfl
    obtain ⟨b2, o2, us2, hA2, hat2, hul2, hr2⟩ := RepS.get s1 he2
    have d2 := hr2
    obtain ⟨rfl, d2_0, d2_1, d2_2, d2_3⟩ := tk_iff.1 hr2
    refine sr_want rfl (j := 7) (d := 27) rfl rfl rfl (v := true) rfl rfl (ow_indexAddrA sl53 ty64 hA2 rfl rfl (by decide) (by decide) (r := o2 + 0 * 4) rfl ?_)
    refine sr_want rfl (j := 7) (d := 27) rfl rfl rfl (v := true) rfl rfl (ow_fieldAddr fd64_0 ty3 rfl rfl (r := o2 + 0 * 4 + 0) rfl ?_)
    refine sr_want rfl (j := 7) (d := 27) rfl rfl rfl (v := true) rfl rfl (ow_loadI (v := .int .i64 t.kind) ty3 H rfl (At.sub (vs := [.int .i64 t.kind]) hat2 0 rfl) rfl rfl rfl ?_)
    refine sr_want rfl (j := 7) (d := 27) rfl rfl rfl (v := true) rfl rfl (ow_eql rfl rfl ?_)
    refine sr_op rfl rfl (ow_pick (v := .bool (decide (t.kind = 1))) rfl rfl ?_)
    refine sr_op rfl rfl (ow_move (v := .bool (decide (t.kind = 1))) rfl ?_)
    refine sr_pass rfl (j := 14) (d := 34) rfl rfl rfl (u := false) (v := true) (congrArg Value.bool (decide_eq_false he)) rfl ?_
    refine sr_pass rfl (j := 14) (d := 34) rfl rfl rfl (u := false) (v := true) (congrArg Value.bool (decide_eq_false he)) rfl ?_
    refine sr_pass rfl (j := 14) (d := 34) rfl rfl rfl (u := false) (v := true) (congrArg Value.bool (decide_eq_false he)) rfl ?_
    refine sr_pass rfl (j := 14) (d := 34) rfl rfl rfl (u := false) (v := true) (congrArg Value.bool (decide_eq_false he)) rfl ?_
    refine sr_pass rfl (j := 14) (d := 34) rfl rfl rfl (u := false) (v := true) (congrArg Value.bool (decide_eq_false he)) rfl ?_
    refine sr_pass rfl (j := 14) (d := 34) rfl rfl rfl (u := false) (v := true) (congrArg Value.bool (decide_eq_false he)) rfl ?_
    refine sr_op rfl rfl (ow_pick (a := false) (v := .bool false) (congrArg Value.bool (decide_eq_false he)) rfl ?_)
    refine sr_op rfl rfl (ow_move (v := .bool false) rfl ?_)
    refine sr_pass rfl (j := 22) (d := 42) rfl rfl rfl (u := false) (v := true) rfl rfl ?_
    refine sr_pass rfl (j := 22) (d := 42) rfl rfl rfl (u := false) (v := true) rfl rfl ?_
    refine sr_pass rfl (j := 22) (d := 42) rfl rfl rfl (u := false) (v := true) rfl rfl ?_
    refine sr_pass rfl (j := 22) (d := 42) rfl rfl rfl (u := false) (v := true) rfl rfl ?_
    refine sr_pass rfl (j := 22) (d := 42) rfl rfl rfl (u := false) (v := true) rfl rfl ?_
    refine sr_op rfl rfl (ow_pick (v := .bool false) rfl rfl ?_)
    refine sr_op rfl rfl (ow_move (v := .bool false) rfl ?_)
    refine sr_pass rfl (j := 29) (d := 49) rfl rfl rfl (u := false) (v := true) rfl rfl ?_
    refine sr_pass rfl (j := 29) (d := 49) rfl rfl rfl (u := false) (v := true) rfl rfl ?_
    refine sr_pass rfl (j := 29) (d := 49) rfl rfl rfl (u := false) (v := true) rfl rfl ?_
    refine sr_pass rfl (j := 29) (d := 49) rfl rfl rfl (u := false) (v := true) rfl rfl ?_
    refine sr_pass rfl (j := 29) (d := 49) rfl rfl rfl (u := false) (v := true) rfl rfl ?_
    refine sr_op rfl rfl (ow_pick (v := .bool false) rfl rfl ?_)
    refine sr_op rfl rfl (ow_assign (v := .bool false) rfl ?_)
    refine sr_nil ?_
    refine st_seq ?_
    refine st_region ?_
    refine sr_op rfl rfl (ow_move (v := .string s) rfl ?_)
    refine sr_op rfl rfl (ow_build (ps := [(0, .int .i64 1), (1, .string s)]) (v := .agg #[.int .i64 1, .string s, .int .i64 0, .int .i64 0]) rfl (fun _ => by kernel_rfl) ?_)
    refine sr_op rfl rfl (ow_buildSlice H (e := 64) (ps := [(0, .agg #[.int .i64 1, .string s, .int .i64 0, .int .i64 0])]) rfl [.int .i64 1, .string s, .int .i64 0, .int .i64 0] (fun _ => by kernel_rfl) (fun g3 _ H => ?_))
    obtain ⟨I4, hI4, H, hl4⟩ := lit_done (enc := encTk) (sz := 4) (n := 1) [(mkTk 1 s 0 0)] rfl (by omega) H ⟨((tk_iff (t := mkTk 1 s 0 0)).2 ⟨rfl, i64_1, hS, i64_0, i64_0⟩), rfl, rfl⟩
    have hlib := ((hlib.mono hI1).mono hI4)
    refine sr_op rfl rfl (ow_call en38 rfl (Text_as H hl4 hlib (by simp) (one_join (by omega)) (one_ok hS) (one_textN hn)) ?_)
    rintro _ _ ⟨rfl, H⟩
    refine sr_op rfl rfl (ow_move (v := .tuple #[.string ⟨#[]⟩, .int .i64 30]) rfl ?_)
    refine sr_op rfl rfl (ow_extract (v := .string ⟨#[]⟩) rfl rfl ?_)
    refine sr_op rfl rfl (ow_extract (v := .int .i64 30) rfl rfl ?_)
    refine sr_op rfl rfl (ow_assign (v := .string ⟨#[]⟩) rfl ?_)
    refine sr_op rfl rfl (ow_assign (v := .int .i64 30) rfl ?_)
    refine sr_nil ?_
    refine st_seq ?_
    refine st_region ?_
    refine sr_op rfl rfl (ow_move (v := .string s) rfl ?_)
    refine sr_op rfl rfl (ow_call en42 rfl (Name_as H s hS hn) ?_)
    rintro _ _ ⟨rfl, H⟩
    refine sr_op rfl rfl (ow_move (v := .bool false) rfl ?_)
    refine sr_op rfl rfl (ow_beq Tryd.underlying4 rfl rfl ?_)
    refine sr_op rfl rfl (ow_move (v := .bool (decide (false = false))) rfl ?_)
    refine sr_want rfl (j := 4) (d := 67) rfl rfl rfl (v := true) (congrArg Value.bool (decide_eq_true rfl)) rfl (ow_move (v := .bool false) rfl ?_)
    refine sr_want rfl (j := 4) (d := 67) rfl rfl rfl (v := true) (congrArg Value.bool (decide_eq_true rfl)) rfl (ow_move (v := .int .i64 30) rfl ?_)
    refine sr_want rfl (j := 4) (d := 67) rfl rfl rfl (v := true) (congrArg Value.bool (decide_eq_true rfl)) rfl (ow_eql rfl rfl ?_)
    refine sr_want rfl (j := 4) (d := 67) rfl rfl rfl (v := true) (congrArg Value.bool (decide_eq_true rfl)) rfl (ow_beq Tryd.underlying4 rfl rfl ?_)
    refine sr_op rfl rfl (ow_pick (a := true) (v := .bool (decide (false = false))) (congrArg Value.bool (decide_eq_true rfl)) rfl ?_)
    refine sr_op rfl rfl (ow_assign (v := .bool (decide (false = false))) rfl ?_)
    refine sr_nil ?_
    refine st_ret hb (hR _ _ (.bool (decide (false = false))) (res_run (vs := [.bool (decide (false = false))]) Tryd.results16 ⟨_, _, rfl, rfl, rfl⟩) ?_)
    exact ⟨_, rfl, congrArg Value.bool (decide_eq_true rfl), (Hp.back H (hI1.trans hI4))⟩
  · refine calls_st (n := 73) Tryd.func16 rfl rfl rfl ?_
    intro G bF cs hb hfn hR hP
    simp only [ini]
    refine st_seq ?_
    refine st_region ?_
    refine sr_op rfl rfl (ow_assign (v := .bool false) rfl ?_)
    refine sr_nil ?_
    refine st_seq ?_
    refine st_seq ?_
    refine st_region ?_
    refine sr_op rfl rfl (ow_call en33 rfl (lexSane_c H hlib) ?_)
    rintro _ _ ⟨rfl, H⟩
    refine sr_op rfl rfl (ow_not rfl ?_)
    refine sr_nil ?_
    refine st_no rfl ?_
    refine st_skip ?_
    refine st_seq ?_
    refine st_seq ?_
    refine st_region ?_
    refine sr_op rfl rfl (ow_move (v := .string s) rfl ?_)
    refine sr_op rfl rfl (ow_lenT un9 rfl rfl ?_)
    refine sr_op rfl rfl (ow_gtr rfl rfl ?_)
    refine sr_nil ?_
    refine st_no (congrArg Value.bool (decide_eq_false hbig)) ?_
    refine st_skip ?_
    refine st_seq ?_
    refine st_region ?_
    refine sr_op rfl rfl (ow_move (v := .string s) rfl ?_)
    refine sr_op rfl rfl (ow_call en34 rfl (Lex_as H hS hlib hx) ?_)
    rintro _ _ ⟨I1, v1, hI1, H, rfl, hl1⟩
    obtain ⟨s1A, s1c, rfl, s1m, s1M, s1⟩ := RepS.open_ hl1
    refine sr_op rfl rfl (ow_move (v := .tuple #[.slice s1A 1 s1c, .int .i64 a, .int .i64 0]) rfl ?_)
    refine sr_op rfl rfl (ow_extract (v := .slice s1A 1 s1c) rfl rfl ?_)
    refine sr_op rfl rfl (ow_extract (v := .int .i64 a) rfl rfl ?_)
    refine sr_op rfl rfl (ow_extract (v := .int .i64 0) rfl rfl ?_)
    refine sr_op rfl rfl (ow_assign (v := .slice s1A 1 s1c) rfl ?_)
    refine sr_op rfl rfl (ow_assign (v := .int .i64 a) rfl ?_)
    refine sr_op rfl rfl (ow_assign (v := .int .i64 0) rfl ?_)
    refine sr_nil ?_
    refine st_seq ?_
    refine st_region ?_
    refine sr_op rfl rfl (ow_move (v := .int .i64 0) rfl ?_)
    refine sr_op rfl rfl (ow_eql rfl rfl ?_)
    refine sr_op rfl rfl (ow_move (v := .bool true) rfl ?_)
    refine sr_want rfl (j := 2) (d := 22) rfl rfl rfl (v := true) rfl rfl (ow_move (v := .slice s1A 1 s1c) rfl ?_)
    refine sr_want rfl (j := 2) (d := 22) rfl rfl rfl (v := true) rfl rfl (ow_lenS sl53 rfl rfl ?_)
    refine sr_want rfl (j := 2) (d := 22) rfl rfl rfl (v := true) rfl rfl (ow_eql rfl rfl ?_)
    refine sr_op rfl rfl (ow_pick (v := .bool true) rfl rfl ?_)
    refine sr_op rfl rfl (ow_move (v := .bool true) rfl ?_)
    refine sr_want rfl (j := 7) (d := 27) rfl rfl rfl (v := true) rfl rfl (ow_move (v := .slice s1A 1 s1c) rfl ?_)
    have he2 : [t][0]? = some t := rfl
    obtain ⟨b2, o2, us2, hA2, hat2, hul2, hr2⟩ := RepS.get s1 he2
    have d2 := hr2
    obtain ⟨rfl, d2_0, d2_1, d2_2, d2_3⟩ := tk_iff.1 hr2
    refine sr_want rfl (j := 7) (d := 27) rfl rfl rfl (v := true) rfl rfl (ow_indexAddrA sl53 ty64 hA2 rfl rfl (by decide) (by decide) (r := o2 + 0 * 4) rfl ?_)
    refine sr_want rfl (j := 7) (d := 27) rfl rfl rfl (v := true) rfl rfl (ow_fieldAddr fd64_0 ty3 rfl rfl (r := o2 + 0 * 4 + 0) rfl ?_)
    refine sr_want rfl (j := 7) (d := 27) rfl rfl rfl (v := true) rfl rfl (ow_loadI (v := .int .i64 t.kind) ty3 H rfl (At.sub (vs := [.int .i64 t.kind]) hat2 0 rfl) rfl rfl rfl ?_)
    refine sr_want rfl (j := 7) (d := 27) rfl rfl rfl (v := true) rfl rfl (ow_eql rfl rfl ?_)
    refine sr_op rfl rfl (ow_pick (v := .bool (decide (t.kind = 1))) rfl rfl ?_)
    refine sr_op rfl rfl (ow_move (v := .bool (decide (t.kind = 1))) rfl ?_)
    refine sr_want rfl (j := 14) (d := 34) rfl rfl rfl (v := true) (congrArg Value.bool (decide_eq_true hk)) rfl (ow_move (v := .slice s1A 1 s1c) rfl ?_)
    refine sr_want rfl (j := 14) (d := 34) rfl rfl rfl (v := true) (congrArg Value.bool (decide_eq_true hk)) rfl (ow_indexAddrA sl53 ty64 hA2 rfl rfl (by decide) (by decide) (r := o2 + 0 * 4) rfl ?_)
    refine sr_want rfl (j := 14) (d := 34) rfl rfl rfl (v := true) (congrArg Value.bool (decide_eq_true hk)) rfl (ow_fieldAddr fd64_1 ty9 rfl rfl (r := o2 + 0 * 4 + 1) rfl ?_)
    refine sr_want rfl (j := 14) (d := 34) rfl rfl rfl (v := true) (congrArg Value.bool (decide_eq_true hk)) rfl (ow_loadI (v := .string t.text) ty9 H rfl (At.sub (vs := [.string t.text]) hat2 1 rfl) rfl rfl rfl ?_)
    refine sr_want rfl (j := 14) (d := 34) rfl rfl rfl (v := true) (congrArg Value.bool (decide_eq_true hk)) rfl (ow_move (v := .string s) rfl ?_)
    refine sr_want rfl (j := 14) (d := 34) rfl rfl rfl (v := true) (congrArg Value.bool (decide_eq_true hk)) rfl (ow_seq rfl rfl ?_)
    refine sr_op rfl rfl (ow_pick (a := true) (v := .bool (decide (t.text = s))) (congrArg Value.bool (decide_eq_true hk)) rfl ?_)
    refine sr_op rfl rfl (ow_move (v := .bool (decide (t.text = s))) rfl ?_)
    refine sr_pass rfl (j := 22) (d := 42) rfl rfl rfl (u := false) (v := true) (congrArg Value.bool (decide_eq_false he)) rfl ?_
    refine sr_pass rfl (j := 22) (d := 42) rfl rfl rfl (u := false) (v := true) (congrArg Value.bool (decide_eq_false he)) rfl ?_
    refine sr_pass rfl (j := 22) (d := 42) rfl rfl rfl (u := false) (v := true) (congrArg Value.bool (decide_eq_false he)) rfl ?_
    refine sr_pass rfl (j := 22) (d := 42) rfl rfl rfl (u := false) (v := true) (congrArg Value.bool (decide_eq_false he)) rfl ?_
    refine sr_pass rfl (j := 22) (d := 42) rfl rfl rfl (u := false) (v := true) (congrArg Value.bool (decide_eq_false he)) rfl ?_
    refine sr_op rfl rfl (ow_pick (a := false) (v := .bool false) (congrArg Value.bool (decide_eq_false he)) rfl ?_)
    refine sr_op rfl rfl (ow_move (v := .bool false) rfl ?_)
    refine sr_pass rfl (j := 29) (d := 49) rfl rfl rfl (u := false) (v := true) rfl rfl ?_
    refine sr_pass rfl (j := 29) (d := 49) rfl rfl rfl (u := false) (v := true) rfl rfl ?_
    refine sr_pass rfl (j := 29) (d := 49) rfl rfl rfl (u := false) (v := true) rfl rfl ?_
    refine sr_pass rfl (j := 29) (d := 49) rfl rfl rfl (u := false) (v := true) rfl rfl ?_
    refine sr_pass rfl (j := 29) (d := 49) rfl rfl rfl (u := false) (v := true) rfl rfl ?_
    refine sr_op rfl rfl (ow_pick (v := .bool false) rfl rfl ?_)
    refine sr_op rfl rfl (ow_assign (v := .bool false) rfl ?_)
    refine sr_nil ?_
    refine st_seq ?_
    refine st_region ?_
    refine sr_op rfl rfl (ow_move (v := .string s) rfl ?_)
    refine sr_op rfl rfl (ow_build (ps := [(0, .int .i64 1), (1, .string s)]) (v := .agg #[.int .i64 1, .string s, .int .i64 0, .int .i64 0]) rfl (fun _ => by kernel_rfl) ?_)
    refine sr_op rfl rfl (ow_buildSlice H (e := 64) (ps := [(0, .agg #[.int .i64 1, .string s, .int .i64 0, .int .i64 0])]) rfl [.int .i64 1, .string s, .int .i64 0, .int .i64 0] (fun _ => by kernel_rfl) (fun g3 _ H => ?_))
    obtain ⟨I4, hI4, H, hl4⟩ := lit_done (enc := encTk) (sz := 4) (n := 1) [(mkTk 1 s 0 0)] rfl (by omega) H ⟨((tk_iff (t := mkTk 1 s 0 0)).2 ⟨rfl, i64_1, hS, i64_0, i64_0⟩), rfl, rfl⟩
    have hlib := ((hlib.mono hI1).mono hI4)
    refine sr_op rfl rfl (ow_call en38 rfl (Text_as H hl4 hlib (by simp) (one_join (by omega)) (one_ok hS) (one_textN hn)) ?_)
    rintro _ _ ⟨rfl, H⟩
    refine sr_op rfl rfl (ow_move (v := .tuple #[.string ⟨#[]⟩, .int .i64 30]) rfl ?_)
    refine sr_op rfl rfl (ow_extract (v := .string ⟨#[]⟩) rfl rfl ?_)
    refine sr_op rfl rfl (ow_extract (v := .int .i64 30) rfl rfl ?_)
    refine sr_op rfl rfl (ow_assign (v := .string ⟨#[]⟩) rfl ?_)
    refine sr_op rfl rfl (ow_assign (v := .int .i64 30) rfl ?_)
    refine sr_nil ?_
    refine st_seq ?_
    refine st_region ?_
    refine sr_op rfl rfl (ow_move (v := .string s) rfl ?_)
    refine sr_op rfl rfl (ow_call en42 rfl (Name_as H s hS hn) ?_)
    rintro _ _ ⟨rfl, H⟩
    refine sr_op rfl rfl (ow_move (v := .bool false) rfl ?_)
    refine sr_op rfl rfl (ow_beq Tryd.underlying4 rfl rfl ?_)
    refine sr_op rfl rfl (ow_move (v := .bool (decide (false = false))) rfl ?_)
    refine sr_want rfl (j := 4) (d := 67) rfl rfl rfl (v := true) (congrArg Value.bool (decide_eq_true rfl)) rfl (ow_move (v := .bool false) rfl ?_)
    refine sr_want rfl (j := 4) (d := 67) rfl rfl rfl (v := true) (congrArg Value.bool (decide_eq_true rfl)) rfl (ow_move (v := .int .i64 30) rfl ?_)
    refine sr_want rfl (j := 4) (d := 67) rfl rfl rfl (v := true) (congrArg Value.bool (decide_eq_true rfl)) rfl (ow_eql rfl rfl ?_)
    refine sr_want rfl (j := 4) (d := 67) rfl rfl rfl (v := true) (congrArg Value.bool (decide_eq_true rfl)) rfl (ow_beq Tryd.underlying4 rfl rfl ?_)
    refine sr_op rfl rfl (ow_pick (a := true) (v := .bool (decide (false = false))) (congrArg Value.bool (decide_eq_true rfl)) rfl ?_)
    refine sr_op rfl rfl (ow_assign (v := .bool (decide (false = false))) rfl ?_)
    refine sr_nil ?_
    refine st_ret hb (hR _ _ (.bool (decide (false = false))) (res_run (vs := [.bool (decide (false = false))]) Tryd.results16 ⟨_, _, rfl, rfl, rfl⟩) ?_)
    exact ⟨_, rfl, congrArg Value.bool (decide_eq_true rfl), (Hp.back H (hI1.trans hI4))⟩
  · refine calls_st (n := 73) Tryd.func16 rfl rfl rfl ?_
    intro G bF cs hb hfn hR hP
    simp only [ini]
    refine st_seq ?_
    refine st_region ?_
    refine sr_op rfl rfl (ow_assign (v := .bool false) rfl ?_)
    refine sr_nil ?_
    refine st_seq ?_
    refine st_seq ?_
    refine st_region ?_
    refine sr_op rfl rfl (ow_call en33 rfl (lexSane_c H hlib) ?_)
    rintro _ _ ⟨rfl, H⟩
    refine sr_op rfl rfl (ow_not rfl ?_)
    refine sr_nil ?_
    refine st_no rfl ?_
    refine st_skip ?_
    refine st_seq ?_
    refine st_seq ?_
    refine st_region ?_
    refine sr_op rfl rfl (ow_move (v := .string s) rfl ?_)
    refine sr_op rfl rfl (ow_lenT un9 rfl rfl ?_)
    refine sr_op rfl rfl (ow_gtr rfl rfl ?_)
    refine sr_nil ?_
    refine st_yes (congrArg Value.bool (decide_eq_true hbig)) ?_
    refine st_seq ?_
    refine st_region ?_
    refine sr_op rfl rfl (ow_assign (v := .bool true) rfl ?_)
    refine sr_nil ?_
    refine st_ret hb (hR _ _ (.bool true) (res_run (vs := [.bool true]) Tryd.results16 ⟨_, _, rfl, rfl, rfl⟩) ?_)
    exact ⟨_, rfl, rfl, H⟩
end Go.Proofs.YtbbflenaeihmeaaDoor
