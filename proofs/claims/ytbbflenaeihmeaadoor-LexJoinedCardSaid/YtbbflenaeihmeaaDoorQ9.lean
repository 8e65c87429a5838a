/-
  Walks: the statement LexJoined.
-/
import Derived.Test.YtbbflenaeihmeaaDoorQ6
import Derived.Test.YtbbflenaeihmeaaDoorL6
import Derived.Test.YtbbflenaeihmeaaDoorBB
set_option linter.unusedVariables false
set_option linter.unusedSimpArgs false
set_option maxRecDepth 10000
set_option maxHeartbeats 4000000
namespace Go.Proofs.YtbbflenaeihmeaaDoor
open Go Go.RowKit

theorem s63_of {s : ByteArray} (h : s.size ≤ 140737488355328) : S63 s := by
  unfold S63
  omega
theorem s63_cat {s t : ByteArray} {u : UInt8} (h : (s.size : Int) + (t.size : Int) ≤ 3000) : S63 ((s ++ ⟨#[u]⟩) ++ t) := by
  unfold S63
  rw [app_size, app_size]
  show s.size + 1 + t.size ≤ _
  omega
theorem pair_refl {q : Tk → Tk → Bool} (hq : ∀ x, q x x = true) : ∀ l : List Tk, pairB q l l = true
  | [] => rfl
  | x :: l => by simp only [pairB, hq x, pair_refl hq l, Bool.and_self]
theorem sameTs_refl (l : List Tk) : sameTs l l = true := pair_refl (fun x => by simp [sameTk]) l
theorem eqTs_refl (l : List Tk) : eqTs l l = true := by
  unfold eqTs atsB
  rw [sameTs_refl, pair_refl (fun x => by simp) l]
  rfl
theorem LexJoined_c {B I L w} (H : Hp B I w L) (a b : ByteArray) (hS : a.size ≤ 140737488355328) (hM : b.size ≤ 140737488355328) (hlib : LibAt I) : Calls Tryd.prog 13 #[.string a, .string b] w (Rt fun r w' => r = .bool true ∧ Hp B I w' L) := by
  rcases Classical.em (3000 < (a.size : Int) + (b.size : Int)) with hbig | hbig
  rotate_left
  have hcs := joined_cases (a := a) (b := b) (by omega)
  rcases hcs with ⟨n, hx, hx2⟩ | ⟨l, n, hx, hx1, hn, hx2⟩ | ⟨l, m, hx, hx1, hll, hml, hpl, hx2⟩
  · refine calls_st (n := 114) Tryd.func13 rfl rfl rfl ?_
    intro G bF cs hb hfn hR hP
    simp only [ini]
    refine st_seq ?_
    refine st_region ?_
    refine sr_op rfl rfl (ow_assign (v := .bool false) rfl ?_)
    refine sr_nil ?_
    refine st_seq ?_
    refine st_seq ?_
    refine st_region ?_
    refine sr_op rfl rfl (ow_call en33 rfl (lexSane_c H hlib) ?_)
    rintro _ _ ⟨rfl, H⟩
    refine sr_op rfl rfl (ow_not rfl ?_)
    refine sr_nil ?_
    refine st_no rfl ?_
    refine st_skip ?_
    refine st_seq ?_
    refine st_seq ?_
    refine st_region ?_
    refine sr_op rfl rfl (ow_move (v := .string a) rfl ?_)
    refine sr_op rfl rfl (ow_lenT un9 rfl rfl ?_)
    refine sr_op rfl rfl (ow_move (v := .string b) rfl ?_)
    refine sr_op rfl rfl (ow_lenT un9 rfl rfl ?_)
    refine sr_op rfl rfl (ow_add (r := (a.size : Int) + (b.size : Int)) rfl rfl (wrap_i64 (by omega) (by omega)) ?_)
    refine sr_op rfl rfl (ow_gtr rfl rfl ?_)
    refine sr_nil ?_
    refine st_no (congrArg Value.bool (decide_eq_false hbig)) ?_
    refine st_skip ?_
    refine st_seq ?_
    refine st_region ?_
    refine sr_op rfl rfl (ow_move (v := .string a) rfl ?_)
    refine sr_op rfl rfl (ow_call en34 rfl (Lex_as H (s63_of hS) hlib hx) ?_)
    rintro _ _ ⟨I1, v1, hI1, H, rfl, hl1⟩
    obtain ⟨s1A, s1c, rfl, s1m, s1M, s1⟩ := RepS.open_ hl1
    refine sr_op rfl rfl (ow_move (v := .tuple #[.slice s1A 0 s1c, .int .i64 (n : Int), .int .i64 30]) rfl ?_)
    refine sr_op rfl rfl (ow_extract (v := .slice s1A 0 s1c) rfl rfl ?_)
    refine sr_op rfl rfl (ow_extract (v := .int .i64 (n : Int)) rfl rfl ?_)
    refine sr_op rfl rfl (ow_extract (v := .int .i64 30) rfl rfl ?_)
    refine sr_op rfl rfl (ow_assign (v := .slice s1A 0 s1c) rfl ?_)
    refine sr_op rfl rfl (ow_assign (v := .int .i64 (n : Int)) rfl ?_)
    refine sr_op rfl rfl (ow_assign (v := .int .i64 30) rfl ?_)
    refine sr_nil ?_
    refine st_seq ?_
    refine st_region ?_
    refine sr_op rfl rfl (ow_move (v := .string b) rfl ?_)
    have hlib := (hlib.mono hI1)
    refine sr_op rfl rfl (ow_call en34 rfl (Lex_c H b (s63_of hM) hlib) ?_)
    rintro _ _ ⟨I2, v2, hI2, H, rfl, hl2⟩
    obtain ⟨s2A, s2c, rfl, s2m, s2M, s2⟩ := RepS.open_ hl2
    refine sr_op rfl rfl (ow_move (v := .tuple #[.slice s2A (((lexE b).1).length) s2c, .int .i64 ((lexE b).2.1), .int .i64 ((lexE b).2.2)]) rfl ?_)
    refine sr_op rfl rfl (ow_extract (v := .slice s2A (((lexE b).1).length) s2c) rfl rfl ?_)
    refine sr_op rfl rfl (ow_extract (v := .int .i64 ((lexE b).2.1)) rfl rfl ?_)
    refine sr_op rfl rfl (ow_extract (v := .int .i64 ((lexE b).2.2)) rfl rfl ?_)
    refine sr_op rfl rfl (ow_assign (v := .slice s2A (((lexE b).1).length) s2c) rfl ?_)
    refine sr_op rfl rfl (ow_assign (v := .int .i64 ((lexE b).2.1)) rfl ?_)
    refine sr_op rfl rfl (ow_assign (v := .int .i64 ((lexE b).2.2)) rfl ?_)
    refine sr_nil ?_
    refine st_seq ?_
    refine st_region ?_
    refine sr_op rfl rfl (ow_move (v := .string a) rfl ?_)
    refine sr_op rfl rfl (ow_cat rfl rfl (by show a.size + 1 ≤ _; omega) ?_)
    refine sr_op rfl rfl (ow_move (v := .string b) rfl ?_)
    refine sr_op rfl rfl (ow_cat rfl rfl (by rw [app_size]; show a.size + 1 + b.size ≤ _; omega) ?_)
    have hlib := (hlib.mono hI2)
    refine sr_op rfl rfl (ow_call en34 rfl (Lex_as H (s63_cat (by omega)) hlib hx2) ?_)
    rintro _ _ ⟨I3, v3, hI3, H, rfl, hl3⟩
    obtain ⟨s3A, s3c, rfl, s3m, s3M, s3⟩ := RepS.open_ hl3
    refine sr_op rfl rfl (ow_move (v := .tuple #[.slice s3A 0 s3c, .int .i64 (n : Int), .int .i64 30]) rfl ?_)
    refine sr_op rfl rfl (ow_extract (v := .slice s3A 0 s3c) rfl rfl ?_)
    refine sr_op rfl rfl (ow_extract (v := .int .i64 (n : Int)) rfl rfl ?_)
    refine sr_op rfl rfl (ow_extract (v := .int .i64 30) rfl rfl ?_)
    refine sr_op rfl rfl (ow_assign (v := .slice s3A 0 s3c) rfl ?_)
    refine sr_op rfl rfl (ow_assign (v := .int .i64 (n : Int)) rfl ?_)
    refine sr_op rfl rfl (ow_assign (v := .int .i64 30) rfl ?_)
    refine sr_nil ?_
    refine st_seq ?_
    refine st_block ?_
    refine st_seq ?_
    refine st_region ?_
    refine sr_op rfl rfl (ow_move (v := .int .i64 30) rfl ?_)
    refine sr_op rfl rfl (ow_neq rfl rfl ?_)
    refine sr_op rfl rfl (ow_assign (v := .bool true) rfl ?_)
    refine sr_nil ?_
    refine st_yes rfl ?_
    refine st_seq ?_
    refine st_region ?_
    refine sr_op rfl rfl (ow_move (v := .int .i64 30) rfl ?_)
    refine sr_op rfl rfl (ow_move (v := .int .i64 30) rfl ?_)
    refine sr_op rfl rfl (ow_eql rfl rfl ?_)
    refine sr_op rfl rfl (ow_move (v := .bool true) rfl ?_)
    refine sr_want rfl (j := 3) (d := 52) rfl rfl rfl (v := true) rfl rfl (ow_move (v := .int .i64 (n : Int)) rfl ?_)
    refine sr_want rfl (j := 3) (d := 52) rfl rfl rfl (v := true) rfl rfl (ow_move (v := .int .i64 (n : Int)) rfl ?_)
    refine sr_want rfl (j := 3) (d := 52) rfl rfl rfl (v := true) rfl rfl (ow_eql rfl rfl ?_)
    refine sr_op rfl rfl (ow_pick (v := .bool (decide ((n : Int) = (n : Int)))) rfl rfl ?_)
    refine sr_op rfl rfl (ow_move (v := .bool (decide ((n : Int) = (n : Int)))) rfl ?_)
    refine sr_want rfl (j := 8) (d := 57) rfl rfl rfl (v := true) (congrArg Value.bool (decide_eq_true rfl)) rfl (ow_move (v := .slice s3A 0 s3c) rfl ?_)
    refine sr_want rfl (j := 8) (d := 57) rfl rfl rfl (v := true) (congrArg Value.bool (decide_eq_true rfl)) rfl (ow_lenS sl53 rfl rfl ?_)
    refine sr_want rfl (j := 8) (d := 57) rfl rfl rfl (v := true) (congrArg Value.bool (decide_eq_true rfl)) rfl (ow_eql rfl rfl ?_)
    refine sr_op rfl rfl (ow_pick (a := true) (v := .bool true) (congrArg Value.bool (decide_eq_true rfl)) rfl ?_)
    refine sr_op rfl rfl (ow_assign (v := .bool true) rfl ?_)
    refine sr_nil ?_
    refine st_ret hb (hR _ _ (.bool true) (res_run (vs := [.bool true]) Tryd.results13 ⟨_, _, rfl, rfl, rfl⟩) ?_)
    exact ⟨_, rfl, rfl, (Hp.back H ((hI1.trans hI2).trans hI3))⟩
  · refine calls_st (n := 114) Tryd.func13 rfl rfl rfl ?_
    intro G bF cs hb hfn hR hP
    simp only [ini]
    refine st_seq ?_
    refine st_region ?_
    refine sr_op rfl rfl (ow_assign (v := .bool false) rfl ?_)
    refine sr_nil ?_
    refine st_seq ?_
    refine st_seq ?_
    refine st_region ?_
    refine sr_op rfl rfl (ow_call en33 rfl (lexSane_c H hlib) ?_)
    rintro _ _ ⟨rfl, H⟩
    refine sr_op rfl rfl (ow_not rfl ?_)
    refine sr_nil ?_
    refine st_no rfl ?_
    refine st_skip ?_
    refine st_seq ?_
    refine st_seq ?_
    refine st_region ?_
    refine sr_op rfl rfl (ow_move (v := .string a) rfl ?_)
    refine sr_op rfl rfl (ow_lenT un9 rfl rfl ?_)
    refine sr_op rfl rfl (ow_move (v := .string b) rfl ?_)
    refine sr_op rfl rfl (ow_lenT un9 rfl rfl ?_)
    refine sr_op rfl rfl (ow_add (r := (a.size : Int) + (b.size : Int)) rfl rfl (wrap_i64 (by omega) (by omega)) ?_)
    refine sr_op rfl rfl (ow_gtr rfl rfl ?_)
    refine sr_nil ?_
    refine st_no (congrArg Value.bool (decide_eq_false hbig)) ?_
    refine st_skip ?_
    refine st_seq ?_
    refine st_region ?_
    refine sr_op rfl rfl (ow_move (v := .string a) rfl ?_)
    refine sr_op rfl rfl (ow_call en34 rfl (Lex_as H (s63_of hS) hlib hx) ?_)
    rintro _ _ ⟨I1, v1, hI1, H, rfl, hl1⟩
    obtain ⟨s1A, s1c, rfl, s1m, s1M, s1⟩ := RepS.open_ hl1
    refine sr_op rfl rfl (ow_move (v := .tuple #[.slice s1A l.length s1c, .int .i64 0, .int .i64 0]) rfl ?_)
    refine sr_op rfl rfl (ow_extract (v := .slice s1A l.length s1c) rfl rfl ?_)
    refine sr_op rfl rfl (ow_extract (v := .int .i64 0) rfl rfl ?_)
    refine sr_op rfl rfl (ow_extract (v := .int .i64 0) rfl rfl ?_)
    refine sr_op rfl rfl (ow_assign (v := .slice s1A l.length s1c) rfl ?_)
    refine sr_op rfl rfl (ow_assign (v := .int .i64 0) rfl ?_)
    refine sr_op rfl rfl (ow_assign (v := .int .i64 0) rfl ?_)
    refine sr_nil ?_
    refine st_seq ?_
    refine st_region ?_
    refine sr_op rfl rfl (ow_move (v := .string b) rfl ?_)
    have hlib := (hlib.mono hI1)
    refine sr_op rfl rfl (ow_call en34 rfl (Lex_as H (s63_of hM) hlib hx1) ?_)
    rintro _ _ ⟨I2, v2, hI2, H, rfl, hl2⟩
    obtain ⟨s2A, s2c, rfl, s2m, s2M, s2⟩ := RepS.open_ hl2
    refine sr_op rfl rfl (ow_move (v := .tuple #[.slice s2A 0 s2c, .int .i64 (n : Int), .int .i64 30]) rfl ?_)
    refine sr_op rfl rfl (ow_extract (v := .slice s2A 0 s2c) rfl rfl ?_)
    refine sr_op rfl rfl (ow_extract (v := .int .i64 (n : Int)) rfl rfl ?_)
    refine sr_op rfl rfl (ow_extract (v := .int .i64 30) rfl rfl ?_)
    refine sr_op rfl rfl (ow_assign (v := .slice s2A 0 s2c) rfl ?_)
    refine sr_op rfl rfl (ow_assign (v := .int .i64 (n : Int)) rfl ?_)
    refine sr_op rfl rfl (ow_assign (v := .int .i64 30) rfl ?_)
    refine sr_nil ?_
    refine st_seq ?_
    refine st_region ?_
    refine sr_op rfl rfl (ow_move (v := .string a) rfl ?_)
    refine sr_op rfl rfl (ow_cat rfl rfl (by show a.size + 1 ≤ _; omega) ?_)
    refine sr_op rfl rfl (ow_move (v := .string b) rfl ?_)
    refine sr_op rfl rfl (ow_cat rfl rfl (by rw [app_size]; show a.size + 1 + b.size ≤ _; omega) ?_)
    have hlib := (hlib.mono hI2)
    refine sr_op rfl rfl (ow_call en34 rfl (Lex_as H (s63_cat (by omega)) hlib hx2) ?_)
    rintro _ _ ⟨I3, v3, hI3, H, rfl, hl3⟩
    obtain ⟨s3A, s3c, rfl, s3m, s3M, s3⟩ := RepS.open_ hl3
    refine sr_op rfl rfl (ow_move (v := .tuple #[.slice s3A 0 s3c, .int .i64 (((n : Int) + (a.size : Int)) + 1), .int .i64 30]) rfl ?_)
    refine sr_op rfl rfl (ow_extract (v := .slice s3A 0 s3c) rfl rfl ?_)
    refine sr_op rfl rfl (ow_extract (v := .int .i64 (((n : Int) + (a.size : Int)) + 1)) rfl rfl ?_)
    refine sr_op rfl rfl (ow_extract (v := .int .i64 30) rfl rfl ?_)
    refine sr_op rfl rfl (ow_assign (v := .slice s3A 0 s3c) rfl ?_)
    refine sr_op rfl rfl (ow_assign (v := .int .i64 (((n : Int) + (a.size : Int)) + 1)) rfl ?_)
    refine sr_op rfl rfl (ow_assign (v := .int .i64 30) rfl ?_)
    refine sr_nil ?_
    refine st_seq ?_
    refine st_block ?_
    refine st_seq ?_
    refine st_region ?_
    refine sr_op rfl rfl (ow_move (v := .int .i64 0) rfl ?_)
    refine sr_op rfl rfl (ow_neq rfl rfl ?_)
    refine sr_op rfl rfl (ow_assign (v := .bool false) rfl ?_)
    refine sr_nil ?_
    refine st_no rfl ?_
    refine st_seq ?_
    refine st_region ?_
    refine sr_op rfl rfl (ow_move (v := .int .i64 30) rfl ?_)
    refine sr_op rfl rfl (ow_neq rfl rfl ?_)
    refine sr_op rfl rfl (ow_assign (v := .bool true) rfl ?_)
    refine sr_nil ?_
    refine st_yes rfl ?_
    refine st_seq ?_
    refine st_region ?_
    refine sr_op rfl rfl (ow_move (v := .int .i64 30) rfl ?_)
    refine sr_op rfl rfl (ow_move (v := .int .i64 30) rfl ?_)
    refine sr_op rfl rfl (ow_eql rfl rfl ?_)
    refine sr_op rfl rfl (ow_move (v := .bool true) rfl ?_)
    refine sr_want rfl (j := 3) (d := 68) rfl rfl rfl (v := true) rfl rfl (ow_move (v := .int .i64 (((n : Int) + (a.size : Int)) + 1)) rfl ?_)
    refine sr_want rfl (j := 3) (d := 68) rfl rfl rfl (v := true) rfl rfl (ow_move (v := .int .i64 (n : Int)) rfl ?_)
    refine sr_want rfl (j := 3) (d := 68) rfl rfl rfl (v := true) rfl rfl (ow_move (v := .string a) rfl ?_)
    refine sr_want rfl (j := 3) (d := 68) rfl rfl rfl (v := true) rfl rfl (ow_lenT un9 rfl rfl ?_)
    refine sr_want rfl (j := 3) (d := 68) rfl rfl rfl (v := true) rfl rfl (ow_add (r := (n : Int) + (a.size : Int)) rfl rfl (wrap_i64 (by omega) (by omega)) ?_)
    refine sr_want rfl (j := 3) (d := 68) rfl rfl rfl (v := true) rfl rfl (ow_add (r := ((n : Int) + (a.size : Int)) + 1) rfl rfl (wrap_i64 (by omega) (by omega)) ?_)
    refine sr_want rfl (j := 3) (d := 68) rfl rfl rfl (v := true) rfl rfl (ow_eql rfl rfl ?_)
    refine sr_op rfl rfl (ow_pick (v := .bool (decide ((((n : Int) + (a.size : Int)) + 1) = (((n : Int) + (a.size : Int)) + 1)))) rfl rfl ?_)
    refine sr_op rfl rfl (ow_move (v := .bool (decide ((((n : Int) + (a.size : Int)) + 1) = (((n : Int) + (a.size : Int)) + 1)))) rfl ?_)
    refine sr_want rfl (j := 12) (d := 77) rfl rfl rfl (v := true) (congrArg Value.bool (decide_eq_true rfl)) rfl (ow_move (v := .slice s3A 0 s3c) rfl ?_)
    refine sr_want rfl (j := 12) (d := 77) rfl rfl rfl (v := true) (congrArg Value.bool (decide_eq_true rfl)) rfl (ow_lenS sl53 rfl rfl ?_)
    refine sr_want rfl (j := 12) (d := 77) rfl rfl rfl (v := true) (congrArg Value.bool (decide_eq_true rfl)) rfl (ow_eql rfl rfl ?_)
    refine sr_op rfl rfl (ow_pick (a := true) (v := .bool true) (congrArg Value.bool (decide_eq_true rfl)) rfl ?_)
    refine sr_op rfl rfl (ow_assign (v := .bool true) rfl ?_)
    refine sr_nil ?_
    refine st_ret hb (hR _ _ (.bool true) (res_run (vs := [.bool true]) Tryd.results13 ⟨_, _, rfl, rfl, rfl⟩) ?_)
    exact ⟨_, rfl, rfl, (Hp.back H ((hI1.trans hI2).trans hI3))⟩
  · refine calls_st (n := 114) Tryd.func13 rfl rfl rfl ?_
    intro G bF cs hb hfn hR hP
    simp only [ini]
    refine st_seq ?_
    refine st_region ?_
    refine sr_op rfl rfl (ow_assign (v := .bool false) rfl ?_)
    refine sr_nil ?_
    refine st_seq ?_
    refine st_seq ?_
    refine st_region ?_
    refine sr_op rfl rfl (ow_call en33 rfl (lexSane_c H hlib) ?_)
    rintro _ _ ⟨rfl, H⟩
    refine sr_op rfl rfl (ow_not rfl ?_)
    refine sr_nil ?_
    refine st_no rfl ?_
    refine st_skip ?_
    refine st_seq ?_
    refine st_seq ?_
    refine st_region ?_
    refine sr_op rfl rfl (ow_move (v := .string a) rfl ?_)
    refine sr_op rfl rfl (ow_lenT un9 rfl rfl ?_)
    refine sr_op rfl rfl (ow_move (v := .string b) rfl ?_)
    refine sr_op rfl rfl (ow_lenT un9 rfl rfl ?_)
    refine sr_op rfl rfl (ow_add (r := (a.size : Int) + (b.size : Int)) rfl rfl (wrap_i64 (by omega) (by omega)) ?_)
    refine sr_op rfl rfl (ow_gtr rfl rfl ?_)
    refine sr_nil ?_
    refine st_no (congrArg Value.bool (decide_eq_false hbig)) ?_
    refine st_skip ?_
    refine st_seq ?_
    refine st_region ?_
    refine sr_op rfl rfl (ow_move (v := .string a) rfl ?_)
    refine sr_op rfl rfl (ow_call en34 rfl (Lex_as H (s63_of hS) hlib hx) ?_)
    rintro _ _ ⟨I1, v1, hI1, H, rfl, hl1⟩
    obtain ⟨s1A, s1c, rfl, s1m, s1M, s1⟩ := RepS.open_ hl1
    refine sr_op rfl rfl (ow_move (v := .tuple #[.slice s1A l.length s1c, .int .i64 0, .int .i64 0]) rfl ?_)
    refine sr_op rfl rfl (ow_extract (v := .slice s1A l.length s1c) rfl rfl ?_)
    refine sr_op rfl rfl (ow_extract (v := .int .i64 0) rfl rfl ?_)
    refine sr_op rfl rfl (ow_extract (v := .int .i64 0) rfl rfl ?_)
    refine sr_op rfl rfl (ow_assign (v := .slice s1A l.length s1c) rfl ?_)
    refine sr_op rfl rfl (ow_assign (v := .int .i64 0) rfl ?_)
    refine sr_op rfl rfl (ow_assign (v := .int .i64 0) rfl ?_)
    refine sr_nil ?_
    refine st_seq ?_
    refine st_region ?_
    refine sr_op rfl rfl (ow_move (v := .string b) rfl ?_)
    have hlib := (hlib.mono hI1)
    refine sr_op rfl rfl (ow_call en34 rfl (Lex_as H (s63_of hM) hlib hx1) ?_)
    rintro _ _ ⟨I2, v2, hI2, H, rfl, hl2⟩
    obtain ⟨s2A, s2c, rfl, s2m, s2M, s2⟩ := RepS.open_ hl2
    refine sr_op rfl rfl (ow_move (v := .tuple #[.slice s2A m.length s2c, .int .i64 0, .int .i64 0]) rfl ?_)
    refine sr_op rfl rfl (ow_extract (v := .slice s2A m.length s2c) rfl rfl ?_)
    refine sr_op rfl rfl (ow_extract (v := .int .i64 0) rfl rfl ?_)
    refine sr_op rfl rfl (ow_extract (v := .int .i64 0) rfl rfl ?_)
    refine sr_op rfl rfl (ow_assign (v := .slice s2A m.length s2c) rfl ?_)
    refine sr_op rfl rfl (ow_assign (v := .int .i64 0) rfl ?_)
    refine sr_op rfl rfl (ow_assign (v := .int .i64 0) rfl ?_)
    refine sr_nil ?_
    refine st_seq ?_
    refine st_region ?_
    refine sr_op rfl rfl (ow_move (v := .string a) rfl ?_)
    refine sr_op rfl rfl (ow_cat rfl rfl (by show a.size + 1 ≤ _; omega) ?_)
    refine sr_op rfl rfl (ow_move (v := .string b) rfl ?_)
    refine sr_op rfl rfl (ow_cat rfl rfl (by rw [app_size]; show a.size + 1 + b.size ≤ _; omega) ?_)
    have hlib := (hlib.mono hI2)
    refine sr_op rfl rfl (ow_call en34 rfl (Lex_as H (s63_cat (by omega)) hlib hx2) ?_)
    rintro _ _ ⟨I3, v3, hI3, H, rfl, hl3⟩
    obtain ⟨s3A, s3c, rfl, s3m, s3M, s3⟩ := RepS.open_ hl3
    refine sr_op rfl rfl (ow_move (v := .tuple #[.slice s3A ((l ++ m.map (atT (a.size + 1))).length) s3c, .int .i64 0, .int .i64 0]) rfl ?_)
    refine sr_op rfl rfl (ow_extract (v := .slice s3A ((l ++ m.map (atT (a.size + 1))).length) s3c) rfl rfl ?_)
    refine sr_op rfl rfl (ow_extract (v := .int .i64 0) rfl rfl ?_)
    refine sr_op rfl rfl (ow_extract (v := .int .i64 0) rfl rfl ?_)
    refine sr_op rfl rfl (ow_assign (v := .slice s3A ((l ++ m.map (atT (a.size + 1))).length) s3c) rfl ?_)
    refine sr_op rfl rfl (ow_assign (v := .int .i64 0) rfl ?_)
    refine sr_op rfl rfl (ow_assign (v := .int .i64 0) rfl ?_)
    refine sr_nil ?_
    refine st_seq ?_
    refine st_block ?_
    refine st_seq ?_
    refine st_region ?_
    refine sr_op rfl rfl (ow_move (v := .int .i64 0) rfl ?_)
    refine sr_op rfl rfl (ow_neq rfl rfl ?_)
    refine sr_op rfl rfl (ow_assign (v := .bool false) rfl ?_)
    refine sr_nil ?_
    refine st_no rfl ?_
    refine st_seq ?_
    refine st_region ?_
    refine sr_op rfl rfl (ow_move (v := .int .i64 0) rfl ?_)
    refine sr_op rfl rfl (ow_neq rfl rfl ?_)
    refine sr_op rfl rfl (ow_assign (v := .bool false) rfl ?_)
    refine sr_nil ?_
    refine st_no rfl ?_
    refine st_skip ?_
    refine st_inBlock ?_
    refine st_seq ?_
    refine st_region ?_
    refine sr_op rfl rfl (ow_buildSlice H (e := 64) (ps := []) rfl [] (fun _ => by kernel_rfl) (fun g4 _ H => ?_))
    refine sr_op rfl rfl (ow_move (v := .slice s1A l.length s1c) rfl ?_)
    have s1 := ((s1.mono hI2).mono hI3)
    refine sr_op rfl rfl (ow_appendF (l := l) (enc := encTk) sl53 ty64 rfl rfl (g := g4) (L := L) H rfl rfl rfl s1 (fun _ _ => rfl) (by omega) (by omega) (fun va5 cs5 _ H ha_ => ?_))
    obtain ⟨Aa5, na5, ca5, rfl⟩ := Acc.form ha_
    refine sr_op rfl rfl (ow_assign (v := .slice Aa5 na5 ca5) rfl ?_)
    refine sr_nil ?_
    refine st_seq ?_
    refine st_seq ?_
    refine st_region ?_
    refine sr_op rfl rfl (ow_move (v := .slice s2A m.length s2c) rfl ?_)
    refine sr_op rfl rfl (ow_lenS sl53 rfl rfl ?_)
    refine sr_op rfl rfl (ow_move (v := .int .i64 0) rfl ?_)
    refine sr_nil ?_
    refine st_block ?_
    refine st_loop ?_
    refine st_live [0, 4, 11, 12, 13, 14, 85, 86, 87] ?_
    refine st_ind (fun d_ m_ w_ => ∃ (i : Nat) (J6 : Im) (Aa_ : Option Addr) (na_ ca_ : Nat) (cs_ : List Value) (r_ : Sl), d_ = m.length - i ∧ m_ = (0, .string a) :: (4, .bool false) :: (11, .slice s3A ((l ++ m.map (atT (a.size + 1))).length) s3c) :: (12, .int .i64 0) :: (13, .int .i64 0) :: (14, .slice Aa_ na_ ca_) :: (85, .slice s2A m.length s2c) :: (86, .int .i64 (m.length : Int)) :: (87, .int .i64 (i : Int)) :: r_ ∧ Hp B J6 w_ ((rowL (.slice Aa_ na_ ca_) cs_ 64 ++ L)) ∧ Le I3 J6 ∧ Acc J6 4 (.slice Aa_ na_ ca_) cs_ ((l ++ (m.take i).map (atT (a.size + 1))).map encTk) ∧ i ≤ m.length) _ ⟨0, I3, Aa5, na5, ca5, cs5, _, rfl, rfl, H, Le.refl _, by simpa using ha_, Nat.zero_le _⟩ ?_
    rintro _ _ _ ⟨i, J6, Aa_, na_, ca_, cs_, r7, rfl, rfl, H, hJ6, ha_, hi⟩ ih8
    refine st_seq ?_
    refine st_region ?_
    refine sr_op rfl rfl (ow_lss rfl rfl ?_)
    refine sr_nil ?_
    refine st_seq ?_
    refine st_cond (decide ((i : Int) < (m.length : Int))) rfl (fun hc9 => ?_) (fun hc9 => ?_)
    · have hc9 := of_decide_eq_true hc9
      refine st_skip ?_
      refine st_seq ?_
      refine st_block ?_
      refine st_seq ?_
      refine st_region ?_
      have s2 := ((s2.mono hI3).mono hJ6)
      obtain ⟨e10, he10⟩ : ∃ q_, m[i]? = some q_ := ⟨_, List.getElem?_eq_getElem (by omega)⟩
      obtain ⟨b10, o10, us10, hA10, hat10, hul10, hr10⟩ := RepS.get s2 he10
      have d10 := hr10
      obtain ⟨rfl, d10_0, d10_1, d10_2, d10_3⟩ := tk_iff.1 hr10
      refine sr_op rfl rfl (ow_indexAddrA sl53 ty64 hA10 rfl rfl (by omega) (by omega) (r := o10 + i * 4) rfl ?_)
      refine sr_op rfl rfl (ow_loadI (v := .agg #[.int .i64 e10.kind, .string e10.text, .int .i64 e10.n, .int .i64 e10.at_]) ty64 H rfl hat10 rfl rfl rfl ?_)
      refine sr_op rfl rfl (ow_alloc ty64 H [.int .i64 0, .string ⟨#[]⟩, .int .i64 0, .int .i64 0] rfl (fun g11 _ H => ?_))
      refine sr_op rfl rfl (ow_store ty64 H rfl (v := .agg #[.int .i64 e10.kind, .string e10.text, .int .i64 e10.n, .int .i64 e10.at_]) rfl [.int .i64 e10.kind, .string e10.text, .int .i64 e10.n, .int .i64 e10.at_] rfl rfl rfl 0 rfl rfl (fun _ H => ?_))
      refine sr_nil ?_
      refine st_seq ?_
      refine st_region ?_
      refine sr_op rfl rfl (ow_fieldAddr fd64_3 ty3 rfl rfl (r := 3) rfl ?_)
      refine sr_op rfl rfl (ow_load (v := .int .i64 e10.at_) ty3 H rfl 0 rfl rfl rfl rfl ?_)
      refine sr_op rfl rfl (ow_move (v := .string a) rfl ?_)
      refine sr_op rfl rfl (ow_lenT un9 rfl rfl ?_)
      refine sr_op rfl rfl (ow_add (r := ((a.size + 1 : Nat) : Int)) rfl rfl (inc_i64 (by omega)) ?_)
      refine sr_op rfl rfl (ow_add (r := e10.at_ + ((a.size + 1 : Nat) : Int)) rfl rfl (wrap_i64 (by have h_ := hpl _ (List.mem_of_getElem? he10); omega) (by have h_ := hpl _ (List.mem_of_getElem? he10); omega)) ?_)
      refine sr_op rfl rfl (ow_fieldAddr fd64_3 ty3 rfl rfl (r := 3) rfl ?_)
      refine sr_op rfl rfl (ow_store ty3 H rfl (v := .int .i64 (e10.at_ + ((a.size + 1 : Nat) : Int))) rfl [.int .i64 (e10.at_ + ((a.size + 1 : Nat) : Int))] rfl rfl rfl 0 rfl rfl (fun _ H => ?_))
      refine sr_nil ?_
      refine st_region ?_
      refine sr_op rfl rfl (ow_move (v := .slice Aa_ na_ ca_) rfl ?_)
      refine sr_op rfl rfl (ow_load (v := .agg #[.int .i64 e10.kind, .string e10.text, .int .i64 e10.n, .int .i64 (e10.at_ + ((a.size + 1 : Nat) : Int))]) ty64 H rfl 0 rfl rfl rfl rfl ?_)
      refine sr_op rfl rfl (ow_buildSlice H (e := 64) (ps := [(0, .agg #[.int .i64 e10.kind, .string e10.text, .int .i64 e10.n, .int .i64 (e10.at_ + ((a.size + 1 : Nat) : Int))])]) rfl [.int .i64 e10.kind, .string e10.text, .int .i64 e10.n, .int .i64 (e10.at_ + ((a.size + 1 : Nat) : Int))] (fun _ => by kernel_rfl) (fun g12 _ H => ?_))
      refine sr_op rfl rfl (ow_append1 sl53 ty64 rfl rfl [(g11, Ob [.int .i64 e10.kind, .string e10.text, .int .i64 e10.n, .int .i64 (e10.at_ + ((a.size + 1 : Nat) : Int))] 64)] (v := .slice Aa_ na_ ca_) (cs := cs_) (L := L) H ha_ rfl rfl ((by
            have h_ := hpl _ (List.mem_of_getElem? he10)
            exact (tk_iff (t := atT (a.size + 1) e10)).2 ⟨rfl, d10_0, d10_1, d10_2, by unfold I64; simp only [atT, mkTk]; omega⟩)) (rfl) (rfl) (by simp only [List.length_map, List.length_take, List.length_append, List.length_singleton, List.length_cons, List.length_nil] at *; omega) (by simp only [List.length_map, List.length_take, List.length_append, List.length_singleton, List.length_cons, List.length_nil] at *; omega) (fun va13 cs14 _ H ha_ => ?_))
      obtain ⟨Aa15, na15, ca15, rfl⟩ := Acc.form ha_
      refine sr_op rfl rfl (ow_assign (v := .slice Aa15 na15 ca15) rfl ?_)
      refine sr_nil ?_
      refine st_inBlock ?_
      refine st_region ?_
      refine sr_op rfl rfl (ow_add (r := ((i + 1 : Nat) : Int)) rfl rfl (inc_i64 (by omega)) ?_)
      refine sr_op rfl rfl (ow_move (v := .int .i64 ((i + 1 : Nat) : Int)) rfl ?_)
      refine sr_nil ?_
      exact st_inLoop (st_live [0, 4, 11, 12, 13, 14, 85, 86, 87] (ih8 _ _ _ (by omega) ⟨i + 1, J6, _, _, _, _, _, rfl, rfl, H.drop 1, (hJ6), by rw [take_some he10, List.map_append (f := atT (a.size + 1)), ← List.append_assoc, List.map_append (f := encTk)]; exact ha_, by omega⟩))
    · have hc9 := of_decide_eq_false hc9
      refine st_exit rfl ?_
      refine st_seq ?_
      refine st_region ?_
      refine sr_op rfl rfl (ow_move (v := .int .i64 0) rfl ?_)
      refine sr_op rfl rfl (ow_eql rfl rfl ?_)
      refine sr_op rfl rfl (ow_move (v := .bool true) rfl ?_)
      refine sr_want rfl (j := 2) (d := 105) rfl rfl rfl (v := true) rfl rfl (ow_move (v := .int .i64 0) rfl ?_)
      refine sr_want rfl (j := 2) (d := 105) rfl rfl rfl (v := true) rfl rfl (ow_eql rfl rfl ?_)
      refine sr_op rfl rfl (ow_pick (v := .bool true) rfl rfl ?_)
      refine sr_op rfl rfl (ow_move (v := .bool true) rfl ?_)
      refine sr_want rfl (j := 6) (d := 109) rfl rfl rfl (v := true) rfl rfl (ow_move (v := .slice s3A ((l ++ m.map (atT (a.size + 1))).length) s3c) rfl ?_)
      refine sr_want rfl (j := 6) (d := 109) rfl rfl rfl (v := true) rfl rfl (ow_move (v := .slice Aa_ na_ ca_) rfl ?_)
      have hi9 : i = m.length := by omega
      subst hi9
      obtain ⟨I9, hI9, H9, hr_⟩ := Acc.done ha_ H
      change RepS encTk I9 4 (l ++ (m.take m.length).map (atT (a.size + 1))) (.slice Aa_ na_ ca_) at hr_
      rw [List.take_of_length_le (Nat.le_refl _)] at hr_
      have H := H9
      have s3 := ((s3.mono hJ6).mono hI9)
      refine sr_want rfl (j := 6) (d := 109) rfl rfl rfl (v := true) rfl rfl (ow_call en36 rfl (Equal_as H s3 hr_ (eqTs_refl _)) ?_)
      rintro _ _ ⟨rfl, H⟩
      refine sr_op rfl rfl (ow_pick (v := .bool true) rfl rfl ?_)
      refine sr_op rfl rfl (ow_assign (v := .bool true) rfl ?_)
      refine sr_nil ?_
      refine st_ret hb (hR _ _ (.bool true) (res_run (vs := [.bool true]) Tryd.results13 ⟨_, _, rfl, rfl, rfl⟩) ?_)
      exact ⟨_, rfl, rfl, (Hp.back H ((((hI1.trans hI2).trans hI3).trans hJ6).trans hI9))⟩
  · refine calls_st (n := 114) Tryd.func13 rfl rfl rfl ?_
    intro G bF cs hb hfn hR hP
    simp only [ini]
    refine st_seq ?_
    refine st_region ?_
    refine sr_op rfl rfl (ow_assign (v := .bool false) rfl ?_)
    refine sr_nil ?_
    refine st_seq ?_
    refine st_seq ?_
    refine st_region ?_
    refine sr_op rfl rfl (ow_call en33 rfl (lexSane_c H hlib) ?_)
    rintro _ _ ⟨rfl, H⟩
    refine sr_op rfl rfl (ow_not rfl ?_)
    refine sr_nil ?_
    refine st_no rfl ?_
    refine st_skip ?_
    refine st_seq ?_
    refine st_seq ?_
    refine st_region ?_
    refine sr_op rfl rfl (ow_move (v := .string a) rfl ?_)
    refine sr_op rfl rfl (ow_lenT un9 rfl rfl ?_)
    refine sr_op rfl rfl (ow_move (v := .string b) rfl ?_)
    refine sr_op rfl rfl (ow_lenT un9 rfl rfl ?_)
    refine sr_op rfl rfl (ow_add (r := (a.size : Int) + (b.size : Int)) rfl rfl (wrap_i64 (by omega) (by omega)) ?_)
    refine sr_op rfl rfl (ow_gtr rfl rfl ?_)
    refine sr_nil ?_
    refine st_yes (congrArg Value.bool (decide_eq_true hbig)) ?_
    refine st_seq ?_
    refine st_region ?_
    refine sr_op rfl rfl (ow_assign (v := .bool true) rfl ?_)
    refine sr_nil ?_
    refine st_ret hb (hR _ _ (.bool true) (res_run (vs := [.bool true]) Tryd.results13 ⟨_, _, rfl, rfl, rfl⟩) ?_)
    exact ⟨_, rfl, rfl, H⟩
end Go.Proofs.YtbbflenaeihmeaaDoor
