/-
  Walks: the statement LexWrong.
-/
import Derived.Test.YtbbflenaeihmeaaDoorQ6
import Derived.Test.YtbbflenaeihmeaaDoorL5
set_option linter.unusedVariables false
set_option linter.unusedSimpArgs false
set_option maxRecDepth 10000
set_option maxHeartbeats 4000000
namespace Go.Proofs.YtbbflenaeihmeaaDoor
open Go Go.RowKit

theorem s63_of {s : ByteArray} (h : s.size ≤ 140737488355328) : S63 s := by
  unfold S63
  omega
theorem s63_cut {s : ByteArray} {a b : Nat} (h : s.size ≤ 140737488355328) : S63 (s.extract a b) := by
  unfold S63
  rw [ByteArray.size_extract]
  omega
theorem s63_cat {s t : ByteArray} {u : UInt8} (h : (s.size : Int) + (t.size : Int) ≤ 3000) : S63 ((s ++ ⟨#[u]⟩) ++ t) := by
  unfold S63
  rw [app_size, app_size]
  show s.size + 1 + t.size ≤ _
  omega
theorem LexWrong_c {B I L w} (H : Hp B I w L) (src more : ByteArray) (hS : src.size ≤ 140737488355328) (hM : more.size ≤ 140737488355328) (hlib : LibAt I) : Calls Tryd.prog 15 #[.string src, .string more] w (Rt fun r w' => r = .bool true ∧ Hp B I w' L) := by
  rcases Classical.em (3000 < (src.size : Int) + (more.size : Int)) with hbig | hbig
  rotate_left
  have hcs := wrong_cases (src := src) (more := more) (by omega)
  rcases hcs with ⟨l, hx⟩ | ⟨n, l, hx, hn, hx1, hx2, hx3⟩

  · refine calls_st (n := 95) Tryd.func15 rfl rfl rfl ?_
    intro G bF cs hb hfn hR hP
    simp only [ini]
    refine st_seq ?_
    refine st_region ?_
    refine sr_op rfl rfl (ow_assign (v := .bool false) rfl ?_)
    refine sr_nil ?_
    refine st_seq ?_
    refine st_seq ?_
    refine st_region ?_
    refine sr_op rfl rfl (ow_call en33 rfl (lexSane_c H hlib) ?_)
    rintro _ _ ⟨rfl, H⟩
    refine sr_op rfl rfl (ow_not rfl ?_)
    refine sr_nil ?_
    refine st_no rfl ?_
    refine st_skip ?_
    refine st_seq ?_
    refine st_seq ?_
    refine st_region ?_
    refine sr_op rfl rfl (ow_move (v := .string src) rfl ?_)
    refine sr_op rfl rfl (ow_lenT un9 rfl rfl ?_)
    refine sr_op rfl rfl (ow_move (v := .string more) rfl ?_)
    refine sr_op rfl rfl (ow_lenT un9 rfl rfl ?_)
    refine sr_op rfl rfl (ow_add (r := (src.size : Int) + (more.size : Int)) rfl rfl (wrap_i64 (by omega) (by omega)) ?_)
    refine sr_op rfl rfl (ow_gtr rfl rfl ?_)
    refine sr_nil ?_
    refine st_no (congrArg Value.bool (decide_eq_false hbig)) ?_
    refine st_skip ?_
    refine st_seq ?_
    refine st_region ?_
    refine sr_op rfl rfl (ow_move (v := .string src) rfl ?_)
    refine sr_op rfl rfl (ow_call en34 rfl (Lex_as H (s63_of hS) hlib hx) ?_)
    rintro _ _ ⟨I1, v1, hI1, H, rfl, hl1⟩
    obtain ⟨s1A, s1c, rfl, s1m, s1M, s1⟩ := RepS.open_ hl1
    refine sr_op rfl rfl (ow_move (v := .tuple #[.slice s1A l.length s1c, .int .i64 0, .int .i64 0]) rfl ?_)
    refine sr_op rfl rfl (ow_extract (v := .slice s1A l.length s1c) rfl rfl ?_)
    refine sr_op rfl rfl (ow_extract (v := .int .i64 0) rfl rfl ?_)
    refine sr_op rfl rfl (ow_extract (v := .int .i64 0) rfl rfl ?_)
    refine sr_op rfl rfl (ow_assign (v := .slice s1A l.length s1c) rfl ?_)
    refine sr_op rfl rfl (ow_assign (v := .int .i64 0) rfl ?_)
    refine sr_op rfl rfl (ow_assign (v := .int .i64 0) rfl ?_)
    refine sr_nil ?_
    refine st_seq ?_
    refine st_seq ?_
    refine st_region ?_
    refine sr_op rfl rfl (ow_move (v := .int .i64 0) rfl ?_)
    refine sr_op rfl rfl (ow_eql rfl rfl ?_)
    refine sr_nil ?_
    refine st_yes rfl ?_
    refine st_seq ?_
    refine st_region ?_
    refine sr_op rfl rfl (ow_move (v := .int .i64 0) rfl ?_)
    refine sr_op rfl rfl (ow_eql rfl rfl ?_)
    refine sr_op rfl rfl (ow_assign (v := .bool true) rfl ?_)
    refine sr_nil ?_
    refine st_ret hb (hR _ _ (.bool true) (res_run (vs := [.bool true]) Tryd.results15 ⟨_, _, rfl, rfl, rfl⟩) ?_)
    exact ⟨_, rfl, rfl, (Hp.back H hI1)⟩
  · refine calls_st (n := 95) Tryd.func15 rfl rfl rfl ?_
    intro G bF cs hb hfn hR hP
    simp only [ini]
    refine st_seq ?_
    refine st_region ?_
    refine sr_op rfl rfl (ow_assign (v := .bool false) rfl ?_)
    refine sr_nil ?_
    refine st_seq ?_
    refine st_seq ?_
    refine st_region ?_
    refine sr_op rfl rfl (ow_call en33 rfl (lexSane_c H hlib) ?_)
    rintro _ _ ⟨rfl, H⟩
    refine sr_op rfl rfl (ow_not rfl ?_)
    refine sr_nil ?_
    refine st_no rfl ?_
    refine st_skip ?_
    refine st_seq ?_
    refine st_seq ?_
    refine st_region ?_
    refine sr_op rfl rfl (ow_move (v := .string src) rfl ?_)
    refine sr_op rfl rfl (ow_lenT un9 rfl rfl ?_)
    refine sr_op rfl rfl (ow_move (v := .string more) rfl ?_)
    refine sr_op rfl rfl (ow_lenT un9 rfl rfl ?_)
    refine sr_op rfl rfl (ow_add (r := (src.size : Int) + (more.size : Int)) rfl rfl (wrap_i64 (by omega) (by omega)) ?_)
    refine sr_op rfl rfl (ow_gtr rfl rfl ?_)
    refine sr_nil ?_
    refine st_no (congrArg Value.bool (decide_eq_false hbig)) ?_
    refine st_skip ?_
    refine st_seq ?_
    refine st_region ?_
    refine sr_op rfl rfl (ow_move (v := .string src) rfl ?_)
    refine sr_op rfl rfl (ow_call en34 rfl (Lex_as H (s63_of hS) hlib hx) ?_)
    rintro _ _ ⟨I1, v1, hI1, H, rfl, hl1⟩
    obtain ⟨s1A, s1c, rfl, s1m, s1M, s1⟩ := RepS.open_ hl1
    refine sr_op rfl rfl (ow_move (v := .tuple #[.slice s1A (([] : List Tk).length) s1c, .int .i64 (n : Int), .int .i64 30]) rfl ?_)
    refine sr_op rfl rfl (ow_extract (v := .slice s1A (([] : List Tk).length) s1c) rfl rfl ?_)
    refine sr_op rfl rfl (ow_extract (v := .int .i64 (n : Int)) rfl rfl ?_)
    refine sr_op rfl rfl (ow_extract (v := .int .i64 30) rfl rfl ?_)
    refine sr_op rfl rfl (ow_assign (v := .slice s1A (([] : List Tk).length) s1c) rfl ?_)
    refine sr_op rfl rfl (ow_assign (v := .int .i64 (n : Int)) rfl ?_)
    refine sr_op rfl rfl (ow_assign (v := .int .i64 30) rfl ?_)
    refine sr_nil ?_
    refine st_seq ?_
    refine st_seq ?_
    refine st_region ?_
    refine sr_op rfl rfl (ow_move (v := .int .i64 30) rfl ?_)
    refine sr_op rfl rfl (ow_eql rfl rfl ?_)
    refine sr_nil ?_
    refine st_no rfl ?_
    refine st_skip ?_
    refine st_seq ?_
    refine st_seq ?_
    refine st_region ?_
    refine sr_op rfl rfl (ow_move (v := .int .i64 30) rfl ?_)
    refine sr_op rfl rfl (ow_neq rfl rfl ?_)
    refine sr_op rfl rfl (ow_move (v := .bool false) rfl ?_)
    refine sr_want rfl (j := 2) (d := 37) rfl rfl rfl (v := false) rfl rfl (ow_move (v := .int .i64 (n : Int)) rfl ?_)
    refine sr_want rfl (j := 2) (d := 37) rfl rfl rfl (v := false) rfl rfl (ow_lss rfl rfl ?_)
    refine sr_op rfl rfl (ow_pick (v := .bool (decide ((n : Int) < 0))) rfl rfl ?_)
    refine sr_op rfl rfl (ow_move (v := .bool (decide ((n : Int) < 0))) rfl ?_)
    refine sr_want rfl (j := 6) (d := 41) rfl rfl rfl (v := false) (congrArg Value.bool (decide_eq_false (by omega))) rfl (ow_move (v := .int .i64 (n : Int)) rfl ?_)
    refine sr_want rfl (j := 6) (d := 41) rfl rfl rfl (v := false) (congrArg Value.bool (decide_eq_false (by omega))) rfl (ow_move (v := .string src) rfl ?_)
    refine sr_want rfl (j := 6) (d := 41) rfl rfl rfl (v := false) (congrArg Value.bool (decide_eq_false (by omega))) rfl (ow_lenT un9 rfl rfl ?_)
    refine sr_want rfl (j := 6) (d := 41) rfl rfl rfl (v := false) (congrArg Value.bool (decide_eq_false (by omega))) rfl (ow_geq rfl rfl ?_)
    refine sr_op rfl rfl (ow_pick (a := false) (v := .bool (decide ((src.size : Int) ≤ (n : Int)))) (congrArg Value.bool (decide_eq_false (by omega))) rfl ?_)
    refine sr_nil ?_
    refine st_no (congrArg Value.bool (decide_eq_false (by omega))) ?_
    refine st_skip ?_
    refine st_seq ?_
    refine st_region ?_
    refine sr_op rfl rfl (ow_move (v := .string src) rfl ?_)
    refine sr_op rfl rfl (ow_move (v := .int .i64 (n : Int)) rfl ?_)
    refine sr_op rfl rfl (ow_cutT (a := 0) (c := n) un9 rfl (.inl ⟨rfl, rfl⟩) (.inr ⟨_, rfl⟩) (by omega) (by first | omega | (simp at hg; omega)) ?_)
    have hlib := (hlib.mono hI1)
    refine sr_op rfl rfl (ow_call en34 rfl (Lex_as H (s63_cut hS) hlib hx1) ?_)
    rintro _ _ ⟨I2, v2, hI2, H, rfl, hl2⟩
    obtain ⟨s2A, s2c, rfl, s2m, s2M, s2⟩ := RepS.open_ hl2
    refine sr_op rfl rfl (ow_move (v := .tuple #[.slice s2A l.length s2c, .int .i64 0, .int .i64 0]) rfl ?_)
    refine sr_op rfl rfl (ow_extract (v := .slice s2A l.length s2c) rfl rfl ?_)
    refine sr_op rfl rfl (ow_extract (v := .int .i64 0) rfl rfl ?_)
    refine sr_op rfl rfl (ow_extract (v := .int .i64 0) rfl rfl ?_)
    refine sr_op rfl rfl (ow_assign (v := .slice s2A l.length s2c) rfl ?_)
    refine sr_op rfl rfl (ow_assign (v := .int .i64 0) rfl ?_)
    refine sr_op rfl rfl (ow_assign (v := .int .i64 0) rfl ?_)
    refine sr_nil ?_
    refine st_seq ?_
    refine st_region ?_
    refine sr_op rfl rfl (ow_move (v := .string src) rfl ?_)
    refine sr_op rfl rfl (ow_cat rfl rfl (by show src.size + 1 ≤ _; omega) ?_)
    refine sr_op rfl rfl (ow_move (v := .string more) rfl ?_)
    refine sr_op rfl rfl (ow_cat rfl rfl (by rw [app_size]; show src.size + 1 + more.size ≤ _; omega) ?_)
    have hlib := (hlib.mono hI2)
    refine sr_op rfl rfl (ow_call en34 rfl (Lex_as H (s63_cat (by omega)) hlib hx2) ?_)
    rintro _ _ ⟨I3, v3, hI3, H, rfl, hl3⟩
    obtain ⟨s3A, s3c, rfl, s3m, s3M, s3⟩ := RepS.open_ hl3
    refine sr_op rfl rfl (ow_move (v := .tuple #[.slice s3A (([] : List Tk).length) s3c, .int .i64 (n : Int), .int .i64 30]) rfl ?_)
    refine sr_op rfl rfl (ow_extract (v := .slice s3A (([] : List Tk).length) s3c) rfl rfl ?_)
    refine sr_op rfl rfl (ow_extract (v := .int .i64 (n : Int)) rfl rfl ?_)
    refine sr_op rfl rfl (ow_extract (v := .int .i64 30) rfl rfl ?_)
    refine sr_op rfl rfl (ow_assign (v := .slice s3A (([] : List Tk).length) s3c) rfl ?_)
    refine sr_op rfl rfl (ow_assign (v := .int .i64 (n : Int)) rfl ?_)
    refine sr_op rfl rfl (ow_assign (v := .int .i64 30) rfl ?_)
    refine sr_nil ?_
    refine st_seq ?_
    refine st_region ?_
    refine sr_op rfl rfl (ow_move (v := .string src) rfl ?_)
    refine sr_op rfl rfl (ow_move (v := .int .i64 (n : Int)) rfl ?_)
    refine sr_op rfl rfl (ow_cutT (a := n) (c := src.size) un9 rfl (.inr ⟨_, rfl⟩) (.inl ⟨rfl, rfl⟩) (by omega) (by first | omega | (simp at hg; omega)) ?_)
    have hlib := (hlib.mono hI3)
    refine sr_op rfl rfl (ow_call en34 rfl (Lex_as H (s63_cut hS) hlib hx3) ?_)
    rintro _ _ ⟨I4, v4, hI4, H, rfl, hl4⟩
    obtain ⟨s4A, s4c, rfl, s4m, s4M, s4⟩ := RepS.open_ hl4
    refine sr_op rfl rfl (ow_move (v := .tuple #[.slice s4A (([] : List Tk).length) s4c, .int .i64 0, .int .i64 30]) rfl ?_)
    refine sr_op rfl rfl (ow_extract (v := .slice s4A (([] : List Tk).length) s4c) rfl rfl ?_)
    refine sr_op rfl rfl (ow_extract (v := .int .i64 0) rfl rfl ?_)
    refine sr_op rfl rfl (ow_extract (v := .int .i64 30) rfl rfl ?_)
    refine sr_op rfl rfl (ow_assign (v := .slice s4A (([] : List Tk).length) s4c) rfl ?_)
    refine sr_op rfl rfl (ow_assign (v := .int .i64 0) rfl ?_)
    refine sr_op rfl rfl (ow_assign (v := .int .i64 30) rfl ?_)
    refine sr_nil ?_
    refine st_seq ?_
    refine st_region ?_
    refine sr_op rfl rfl (ow_move (v := .int .i64 0) rfl ?_)
    refine sr_op rfl rfl (ow_eql rfl rfl ?_)
    refine sr_op rfl rfl (ow_move (v := .bool true) rfl ?_)
    refine sr_want rfl (j := 2) (d := 74) rfl rfl rfl (v := true) rfl rfl (ow_move (v := .int .i64 0) rfl ?_)
    refine sr_want rfl (j := 2) (d := 74) rfl rfl rfl (v := true) rfl rfl (ow_eql rfl rfl ?_)
    refine sr_op rfl rfl (ow_pick (v := .bool true) rfl rfl ?_)
    refine sr_op rfl rfl (ow_move (v := .bool true) rfl ?_)
    refine sr_want rfl (j := 6) (d := 78) rfl rfl rfl (v := true) rfl rfl (ow_move (v := .int .i64 30) rfl ?_)
    refine sr_want rfl (j := 6) (d := 78) rfl rfl rfl (v := true) rfl rfl (ow_eql rfl rfl ?_)
    refine sr_op rfl rfl (ow_pick (v := .bool true) rfl rfl ?_)
    refine sr_op rfl rfl (ow_move (v := .bool true) rfl ?_)
    refine sr_want rfl (j := 10) (d := 82) rfl rfl rfl (v := true) rfl rfl (ow_move (v := .int .i64 (n : Int)) rfl ?_)
    refine sr_want rfl (j := 10) (d := 82) rfl rfl rfl (v := true) rfl rfl (ow_move (v := .int .i64 (n : Int)) rfl ?_)
    refine sr_want rfl (j := 10) (d := 82) rfl rfl rfl (v := true) rfl rfl (ow_eql rfl rfl ?_)
    refine sr_op rfl rfl (ow_pick (v := .bool (decide ((n : Int) = (n : Int)))) rfl rfl ?_)
    refine sr_op rfl rfl (ow_move (v := .bool (decide ((n : Int) = (n : Int)))) rfl ?_)
    refine sr_want rfl (j := 15) (d := 87) rfl rfl rfl (v := true) (congrArg Value.bool (decide_eq_true rfl)) rfl (ow_move (v := .int .i64 30) rfl ?_)
    refine sr_want rfl (j := 15) (d := 87) rfl rfl rfl (v := true) (congrArg Value.bool (decide_eq_true rfl)) rfl (ow_eql rfl rfl ?_)
    refine sr_op rfl rfl (ow_pick (a := true) (v := .bool true) (congrArg Value.bool (decide_eq_true rfl)) rfl ?_)
    refine sr_op rfl rfl (ow_move (v := .bool true) rfl ?_)
    refine sr_want rfl (j := 19) (d := 91) rfl rfl rfl (v := true) rfl rfl (ow_move (v := .int .i64 0) rfl ?_)
    refine sr_want rfl (j := 19) (d := 91) rfl rfl rfl (v := true) rfl rfl (ow_eql rfl rfl ?_)
    refine sr_op rfl rfl (ow_pick (v := .bool true) rfl rfl ?_)
    refine sr_op rfl rfl (ow_assign (v := .bool true) rfl ?_)
    refine sr_nil ?_
    refine st_ret hb (hR _ _ (.bool true) (res_run (vs := [.bool true]) Tryd.results15 ⟨_, _, rfl, rfl, rfl⟩) ?_)
    exact ⟨_, rfl, rfl, (Hp.back H (((hI1.trans hI2).trans hI3).trans hI4))⟩
  · refine calls_st (n := 95) Tryd.func15 rfl rfl rfl ?_
    intro G bF cs hb hfn hR hP
    simp only [ini]
    refine st_seq ?_
    refine st_region ?_
    refine sr_op rfl rfl (ow_assign (v := .bool false) rfl ?_)
    refine sr_nil ?_
    refine st_seq ?_
    refine st_seq ?_
    refine st_region ?_
    refine sr_op rfl rfl (ow_call en33 rfl (lexSane_c H hlib) ?_)
    rintro _ _ ⟨rfl, H⟩
    refine sr_op rfl rfl (ow_not rfl ?_)
    refine sr_nil ?_
    refine st_no rfl ?_
    refine st_skip ?_
    refine st_seq ?_
    refine st_seq ?_
    refine st_region ?_
    refine sr_op rfl rfl (ow_move (v := .string src) rfl ?_)
    refine sr_op rfl rfl (ow_lenT un9 rfl rfl ?_)
    refine sr_op rfl rfl (ow_move (v := .string more) rfl ?_)
    refine sr_op rfl rfl (ow_lenT un9 rfl rfl ?_)
    refine sr_op rfl rfl (ow_add (r := (src.size : Int) + (more.size : Int)) rfl rfl (wrap_i64 (by omega) (by omega)) ?_)
    refine sr_op rfl rfl (ow_gtr rfl rfl ?_)
    refine sr_nil ?_
    refine st_yes (congrArg Value.bool (decide_eq_true hbig)) ?_
    refine st_seq ?_
    refine st_region ?_
    refine sr_op rfl rfl (ow_assign (v := .bool true) rfl ?_)
    refine sr_nil ?_
    refine st_ret hb (hR _ _ (.bool true) (res_run (vs := [.bool true]) Tryd.results15 ⟨_, _, rfl, rfl, rfl⟩) ?_)
    exact ⟨_, rfl, rfl, H⟩
end Go.Proofs.YtbbflenaeihmeaaDoor
