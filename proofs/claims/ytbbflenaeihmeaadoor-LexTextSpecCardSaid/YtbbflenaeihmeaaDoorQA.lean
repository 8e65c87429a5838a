/-
  Walks: the statement LexBack.
-/
import Derived.Test.YtbbflenaeihmeaaDoorQ6
import Derived.Test.YtbbflenaeihmeaaDoorL7
set_option linter.unusedVariables false
set_option linter.unusedSimpArgs false
set_option maxRecDepth 10000
set_option maxHeartbeats 4000000
namespace Go.Proofs.YtbbflenaeihmeaaDoor
open Go Go.RowKit

theorem s63_of {s : ByteArray} (h : s.size ≤ 140737488355328) : S63 s := by
  unfold S63
  omega
theorem s63_cost {l : List Tk} (h : costT l ≤ 1000000) : S63 (joinS (l.map spellS) ⟨#[32]⟩) := by
  have := join_size l
  unfold S63
  omega
theorem join_cost_le {l : List Tk} (h : costT l ≤ 1000000) : (joinS (l.map spellS) ⟨#[32]⟩).size ≤ 140737488355328 := by
  have := join_size l
  omega
theorem toks_sz {I : Im} {l : List Tk} {v : Value} (h : RepS encTk I 4 l v) : ∀ t ∈ l, S63 t.text ∧ I64 t.n := by
  intro t ht
  obtain ⟨A, c, rfl, hm, hM, h⟩ := RepS.open_ h
  obtain ⟨i, hi⟩ := List.getElem?_of_mem ht
  obtain ⟨b, o, us, hA, hat, hul, hr⟩ := RepS.get h hi
  obtain ⟨_, _, h1, h2, _⟩ := tk_iff.1 hr
  exact ⟨h1, h2⟩
theorem cost_few : ∀ {l : List Tk}, (∀ t ∈ l, I64 t.n) → costT l ≤ sumT l + 21 * l.length
  | [], _ => Nat.le_refl _
  | t :: l, h => by
    have ih := cost_few (l := l) fun q hq => h q (List.mem_cons_of_mem _ hq)
    have hi := itoa_size t.n (h t (List.mem_cons_self ..))
    have hs : (spellS t).size ≤ t.text.size + 20 := by
      unfold spellS
      split
      · omega
      · omega
    simp only [costT, sumT, List.length_cons]
    omega
theorem few_len {l : List Tk} (h : fewT l = true) : l.length ≤ 200 ∧ sumT l ≤ 2000 := by
  simp only [fewT, Bool.and_eq_true, decide_eq_true_eq] at h
  omega
theorem textE_ok {l : List Tk} (h : l.all validB = true) : textE l = (joinS (l.map spellS) ⟨#[32]⟩, 0) := by
  unfold textE
  rw [if_pos h]
theorem textE_no {l : List Tk} (h : l.all validB = false) : textE l = (⟨#[]⟩, 30) := by
  unfold textE
  rw [if_neg (by rw [h]; decide)]
theorem LexBack_c {B I L w} (H : Hp B I w L) {l : List Tk} {v : Value} (hl : RepS encTk I 4 l v) (src : ByteArray) (hS : src.size ≤ 140737488355328) (hbt : ∀ t ∈ l, t.text.size ≤ 140737488355328) (hlib : LibAt I) : Calls Tryd.prog 11 #[v, .string src] w (Rt fun r w' => r = .bool true ∧ Hp B I w' L) := by
  have htz := toks_sz hl
  rcases Bool.eq_false_or_eq_true (fewT l) with hfw | hfw
  rcases Classical.em (3000 < (src.size : Int)) with hbig | hbig
  rotate_left
  obtain ⟨hl1, hl2⟩ := few_len hfw
  have hco : costT l ≤ 1000000 := by
    have := cost_few (l := l) fun t ht => (htz t ht).2
    omega
  have hcs := back_src (src := src) (by omega)
  rcases Bool.eq_false_or_eq_true (l.all validB) with hv | hv
  obtain ⟨m, hm, hsm⟩ := text_lex hv (by have := cost_valid hv; omega)
  rcases hcs with ⟨a, hx⟩ | ⟨x, y, hx, hxl, hxv, hxc, hy, hxy⟩
  rotate_left 2
  rcases hcs with ⟨a, hx⟩ | ⟨x, y, hx, hxl, hxv, hxc, hy, hxy⟩
  rotate_left 4
  · obtain ⟨s0A, s0c, rfl, s0m, s0M, s0⟩ := RepS.open_ hl
    refine calls_st (n := 86) Tryd.func11 rfl rfl rfl ?_
    intro G bF cs hb hfn hR hP
    simp only [ini]
    refine st_seq ?_
    refine st_region ?_
    refine sr_op rfl rfl (ow_assign (v := .bool false) rfl ?_)
    refine sr_nil ?_
    refine st_seq ?_
    refine st_seq ?_
    refine st_region ?_
    refine sr_op rfl rfl (ow_call en33 rfl (lexSane_c H hlib) ?_)
    rintro _ _ ⟨rfl, H⟩
    refine sr_op rfl rfl (ow_not rfl ?_)
    refine sr_nil ?_
    refine st_no rfl ?_
    refine st_skip ?_
    refine st_seq ?_
    refine st_seq ?_
    refine st_region ?_
    refine sr_op rfl rfl (ow_move (v := .slice s0A l.length s0c) rfl ?_)
    refine sr_op rfl rfl (ow_call en37 rfl (FewT_c H s0 hbt) ?_)
    rintro _ _ ⟨rfl, H⟩
    refine sr_op rfl rfl (ow_not rfl ?_)
    refine sr_op rfl rfl (ow_move (v := .bool (!(fewT l))) rfl ?_)
    refine sr_want rfl (j := 3) (d := 23) rfl rfl rfl (v := false) (congrArg Value.bool (congrArg (a₂ := true) not hfw)) rfl (ow_move (v := .string src) rfl ?_)
    refine sr_want rfl (j := 3) (d := 23) rfl rfl rfl (v := false) (congrArg Value.bool (congrArg (a₂ := true) not hfw)) rfl (ow_lenT un9 rfl rfl ?_)
    refine sr_want rfl (j := 3) (d := 23) rfl rfl rfl (v := false) (congrArg Value.bool (congrArg (a₂ := true) not hfw)) rfl (ow_gtr rfl rfl ?_)
    refine sr_op rfl rfl (ow_pick (a := false) (v := .bool (decide (3000 < (src.size : Int)))) (congrArg Value.bool (congrArg (a₂ := true) not hfw)) rfl ?_)
    refine sr_nil ?_
    refine st_no (congrArg Value.bool (decide_eq_false hbig)) ?_
    refine st_skip ?_
    refine st_seq ?_
    refine st_region ?_
    refine sr_op rfl rfl (ow_move (v := .slice s0A l.length s0c) rfl ?_)
    refine sr_op rfl rfl (ow_call en38 rfl (Text_as H s0 hlib (by omega) (join_cost_le (l := l) hco) htz (textE_ok hv)) ?_)
    rintro _ _ ⟨rfl, H⟩
    refine sr_op rfl rfl (ow_move (v := .tuple #[.string (joinS (l.map spellS) ⟨#[32]⟩), .int .i64 0]) rfl ?_)
    refine sr_op rfl rfl (ow_extract (v := .string (joinS (l.map spellS) ⟨#[32]⟩)) rfl rfl ?_)
    refine sr_op rfl rfl (ow_extract (v := .int .i64 0) rfl rfl ?_)
    refine sr_op rfl rfl (ow_assign (v := .string (joinS (l.map spellS) ⟨#[32]⟩)) rfl ?_)
    refine sr_op rfl rfl (ow_assign (v := .int .i64 0) rfl ?_)
    refine sr_nil ?_
    refine st_seq ?_
    refine st_seq ?_
    refine st_region ?_
    refine sr_op rfl rfl (ow_move (v := .int .i64 0) rfl ?_)
    refine sr_op rfl rfl (ow_eql rfl rfl ?_)
    refine sr_nil ?_
    refine st_yes rfl ?_
    refine st_seq ?_
    refine st_region ?_
    refine sr_op rfl rfl (ow_move (v := .string (joinS (l.map spellS) ⟨#[32]⟩)) rfl ?_)
    refine sr_op rfl rfl (ow_call en34 rfl (Lex_as H (s63_cost hco) hlib hm) ?_)
    rintro _ _ ⟨I1, v1, hI1, H, rfl, hl1⟩
    obtain ⟨s1A, s1c, rfl, s1m, s1M, s1⟩ := RepS.open_ hl1
    refine sr_op rfl rfl (ow_move (v := .tuple #[.slice s1A m.length s1c, .int .i64 0, .int .i64 0]) rfl ?_)
    refine sr_op rfl rfl (ow_extract (v := .slice s1A m.length s1c) rfl rfl ?_)
    refine sr_op rfl rfl (ow_extract (v := .int .i64 0) rfl rfl ?_)
    refine sr_op rfl rfl (ow_extract (v := .int .i64 0) rfl rfl ?_)
    refine sr_op rfl rfl (ow_assign (v := .slice s1A m.length s1c) rfl ?_)
    refine sr_op rfl rfl (ow_assign (v := .int .i64 0) rfl ?_)
    refine sr_op rfl rfl (ow_assign (v := .int .i64 0) rfl ?_)
    refine sr_nil ?_
    refine st_seq ?_
    refine st_region ?_
    refine sr_op rfl rfl (ow_move (v := .int .i64 0) rfl ?_)
    refine sr_op rfl rfl (ow_neq rfl rfl ?_)
    refine sr_op rfl rfl (ow_move (v := .bool false) rfl ?_)
    refine sr_want rfl (j := 2) (d := 43) rfl rfl rfl (v := false) rfl rfl (ow_move (v := .int .i64 0) rfl ?_)
    refine sr_want rfl (j := 2) (d := 43) rfl rfl rfl (v := false) rfl rfl (ow_neq rfl rfl ?_)
    refine sr_op rfl rfl (ow_pick (v := .bool false) rfl rfl ?_)
    refine sr_op rfl rfl (ow_move (v := .bool false) rfl ?_)
    refine sr_want rfl (j := 6) (d := 47) rfl rfl rfl (v := false) rfl rfl (ow_move (v := .slice s0A l.length s0c) rfl ?_)
    refine sr_want rfl (j := 6) (d := 47) rfl rfl rfl (v := false) rfl rfl (ow_move (v := .slice s1A m.length s1c) rfl ?_)
    have s0 := (s0.mono hI1)
    refine sr_want rfl (j := 6) (d := 47) rfl rfl rfl (v := false) rfl rfl (ow_call en40 rfl (lexSame_as H s0 s1 hsm) ?_)
    rintro _ _ ⟨rfl, H⟩
    refine sr_want rfl (j := 6) (d := 47) rfl rfl rfl (v := false) rfl rfl (ow_not rfl ?_)
    refine sr_op rfl rfl (ow_pick (v := .bool !true) rfl rfl ?_)
    refine sr_nil ?_
    refine st_no rfl ?_
    refine st_skip ?_
    refine st_seq ?_
    refine st_region ?_
    refine sr_op rfl rfl (ow_move (v := .string src) rfl ?_)
    have hlib := (hlib.mono hI1)
    refine sr_op rfl rfl (ow_call en34 rfl (Lex_as H (s63_of hS) hlib hx) ?_)
    rintro _ _ ⟨I2, v2, hI2, H, rfl, hl2⟩
    obtain ⟨s2A, s2c, rfl, s2m, s2M, s2⟩ := RepS.open_ hl2
    refine sr_op rfl rfl (ow_move (v := .tuple #[.slice s2A 0 s2c, .int .i64 a, .int .i64 30]) rfl ?_)
    refine sr_op rfl rfl (ow_extract (v := .slice s2A 0 s2c) rfl rfl ?_)
    refine sr_op rfl rfl (ow_extract (v := .int .i64 a) rfl rfl ?_)
    refine sr_op rfl rfl (ow_extract (v := .int .i64 30) rfl rfl ?_)
    refine sr_op rfl rfl (ow_assign (v := .slice s2A 0 s2c) rfl ?_)
    refine sr_op rfl rfl (ow_assign (v := .int .i64 a) rfl ?_)
    refine sr_op rfl rfl (ow_assign (v := .int .i64 30) rfl ?_)
    refine sr_nil ?_
    refine st_seq ?_
    refine st_seq ?_
    refine st_region ?_
    refine sr_op rfl rfl (ow_move (v := .int .i64 30) rfl ?_)
    refine sr_op rfl rfl (ow_neq rfl rfl ?_)
    refine sr_nil ?_
    refine st_yes rfl ?_
    refine st_seq ?_
    refine st_region ?_
    refine sr_op rfl rfl (ow_move (v := .slice s2A 0 s2c) rfl ?_)
    refine sr_op rfl rfl (ow_lenS sl53 rfl rfl ?_)
    refine sr_op rfl rfl (ow_eql rfl rfl ?_)
    refine sr_op rfl rfl (ow_assign (v := .bool true) rfl ?_)
    refine sr_nil ?_
    refine st_ret hb (hR _ _ (.bool true) (res_run (vs := [.bool true]) Tryd.results11 ⟨_, _, rfl, rfl, rfl⟩) ?_)
    exact ⟨_, rfl, rfl, (Hp.back H (hI1.trans hI2))⟩
  · obtain ⟨s0A, s0c, rfl, s0m, s0M, s0⟩ := RepS.open_ hl
    refine calls_st (n := 86) Tryd.func11 rfl rfl rfl ?_
    intro G bF cs hb hfn hR hP
    simp only [ini]
    refine st_seq ?_
    refine st_region ?_
    refine sr_op rfl rfl (ow_assign (v := .bool false) rfl ?_)
    refine sr_nil ?_
    refine st_seq ?_
    refine st_seq ?_
    refine st_region ?_
    refine sr_op rfl rfl (ow_call en33 rfl (lexSane_c H hlib) ?_)
    rintro _ _ ⟨rfl, H⟩
    refine sr_op rfl rfl (ow_not rfl ?_)
    refine sr_nil ?_
    refine st_no rfl ?_
    refine st_skip ?_
    refine st_seq ?_
    refine st_seq ?_
    refine st_region ?_
    refine sr_op rfl rfl (ow_move (v := .slice s0A l.length s0c) rfl ?_)
    refine sr_op rfl rfl (ow_call en37 rfl (FewT_c H s0 hbt) ?_)
    rintro _ _ ⟨rfl, H⟩
    refine sr_op rfl rfl (ow_not rfl ?_)
    refine sr_op rfl rfl (ow_move (v := .bool (!(fewT l))) rfl ?_)
    refine sr_want rfl (j := 3) (d := 23) rfl rfl rfl (v := false) (congrArg Value.bool (congrArg (a₂ := true) not hfw)) rfl (ow_move (v := .string src) rfl ?_)
    refine sr_want rfl (j := 3) (d := 23) rfl rfl rfl (v := false) (congrArg Value.bool (congrArg (a₂ := true) not hfw)) rfl (ow_lenT un9 rfl rfl ?_)
    refine sr_want rfl (j := 3) (d := 23) rfl rfl rfl (v := false) (congrArg Value.bool (congrArg (a₂ := true) not hfw)) rfl (ow_gtr rfl rfl ?_)
    refine sr_op rfl rfl (ow_pick (a := false) (v := .bool (decide (3000 < (src.size : Int)))) (congrArg Value.bool (congrArg (a₂ := true) not hfw)) rfl ?_)
    refine sr_nil ?_
    refine st_no (congrArg Value.bool (decide_eq_false hbig)) ?_
    refine st_skip ?_
    refine st_seq ?_
    refine st_region ?_
    refine sr_op rfl rfl (ow_move (v := .slice s0A l.length s0c) rfl ?_)
    refine sr_op rfl rfl (ow_call en38 rfl (Text_as H s0 hlib (by omega) (join_cost_le (l := l) hco) htz (textE_ok hv)) ?_)
    rintro _ _ ⟨rfl, H⟩
    refine sr_op rfl rfl (ow_move (v := .tuple #[.string (joinS (l.map spellS) ⟨#[32]⟩), .int .i64 0]) rfl ?_)
    refine sr_op rfl rfl (ow_extract (v := .string (joinS (l.map spellS) ⟨#[32]⟩)) rfl rfl ?_)
    refine sr_op rfl rfl (ow_extract (v := .int .i64 0) rfl rfl ?_)
    refine sr_op rfl rfl (ow_assign (v := .string (joinS (l.map spellS) ⟨#[32]⟩)) rfl ?_)
    refine sr_op rfl rfl (ow_assign (v := .int .i64 0) rfl ?_)
    refine sr_nil ?_
    refine st_seq ?_
    refine st_seq ?_
    refine st_region ?_
    refine sr_op rfl rfl (ow_move (v := .int .i64 0) rfl ?_)
    refine sr_op rfl rfl (ow_eql rfl rfl ?_)
    refine sr_nil ?_
    refine st_yes rfl ?_
    refine st_seq ?_
    refine st_region ?_
    refine sr_op rfl rfl (ow_move (v := .string (joinS (l.map spellS) ⟨#[32]⟩)) rfl ?_)
    refine sr_op rfl rfl (ow_call en34 rfl (Lex_as H (s63_cost hco) hlib hm) ?_)
    rintro _ _ ⟨I1, v1, hI1, H, rfl, hl1⟩
    obtain ⟨s1A, s1c, rfl, s1m, s1M, s1⟩ := RepS.open_ hl1
    refine sr_op rfl rfl (ow_move (v := .tuple #[.slice s1A m.length s1c, .int .i64 0, .int .i64 0]) rfl ?_)
    refine sr_op rfl rfl (ow_extract (v := .slice s1A m.length s1c) rfl rfl ?_)
    refine sr_op rfl rfl (ow_extract (v := .int .i64 0) rfl rfl ?_)
    refine sr_op rfl rfl (ow_extract (v := .int .i64 0) rfl rfl ?_)
    refine sr_op rfl rfl (ow_assign (v := .slice s1A m.length s1c) rfl ?_)
    refine sr_op rfl rfl (ow_assign (v := .int .i64 0) rfl ?_)
    refine sr_op rfl rfl (ow_assign (v := .int .i64 0) rfl ?_)
    refine sr_nil ?_
    refine st_seq ?_
    refine st_region ?_
    refine sr_op rfl rfl (ow_move (v := .int .i64 0) rfl ?_)
    refine sr_op rfl rfl (ow_neq rfl rfl ?_)
    refine sr_op rfl rfl (ow_move (v := .bool false) rfl ?_)
    refine sr_want rfl (j := 2) (d := 43) rfl rfl rfl (v := false) rfl rfl (ow_move (v := .int .i64 0) rfl ?_)
    refine sr_want rfl (j := 2) (d := 43) rfl rfl rfl (v := false) rfl rfl (ow_neq rfl rfl ?_)
    refine sr_op rfl rfl (ow_pick (v := .bool false) rfl rfl ?_)
    refine sr_op rfl rfl (ow_move (v := .bool false) rfl ?_)
    refine sr_want rfl (j := 6) (d := 47) rfl rfl rfl (v := false) rfl rfl (ow_move (v := .slice s0A l.length s0c) rfl ?_)
    refine sr_want rfl (j := 6) (d := 47) rfl rfl rfl (v := false) rfl rfl (ow_move (v := .slice s1A m.length s1c) rfl ?_)
    have s0 := (s0.mono hI1)
    refine sr_want rfl (j := 6) (d := 47) rfl rfl rfl (v := false) rfl rfl (ow_call en40 rfl (lexSame_as H s0 s1 hsm) ?_)
    rintro _ _ ⟨rfl, H⟩
    refine sr_want rfl (j := 6) (d := 47) rfl rfl rfl (v := false) rfl rfl (ow_not rfl ?_)
    refine sr_op rfl rfl (ow_pick (v := .bool !true) rfl rfl ?_)
    refine sr_nil ?_
    refine st_no rfl ?_
    refine st_skip ?_
    refine st_seq ?_
    refine st_region ?_
    refine sr_op rfl rfl (ow_move (v := .string src) rfl ?_)
    have hlib := (hlib.mono hI1)
    refine sr_op rfl rfl (ow_call en34 rfl (Lex_as H (s63_of hS) hlib hx) ?_)
    rintro _ _ ⟨I2, v2, hI2, H, rfl, hl2⟩
    obtain ⟨s2A, s2c, rfl, s2m, s2M, s2⟩ := RepS.open_ hl2
    refine sr_op rfl rfl (ow_move (v := .tuple #[.slice s2A x.length s2c, .int .i64 0, .int .i64 0]) rfl ?_)
    refine sr_op rfl rfl (ow_extract (v := .slice s2A x.length s2c) rfl rfl ?_)
    refine sr_op rfl rfl (ow_extract (v := .int .i64 0) rfl rfl ?_)
    refine sr_op rfl rfl (ow_extract (v := .int .i64 0) rfl rfl ?_)
    refine sr_op rfl rfl (ow_assign (v := .slice s2A x.length s2c) rfl ?_)
    refine sr_op rfl rfl (ow_assign (v := .int .i64 0) rfl ?_)
    refine sr_op rfl rfl (ow_assign (v := .int .i64 0) rfl ?_)
    refine sr_nil ?_
    refine st_seq ?_
    refine st_seq ?_
    refine st_region ?_
    refine sr_op rfl rfl (ow_move (v := .int .i64 0) rfl ?_)
    refine sr_op rfl rfl (ow_neq rfl rfl ?_)
    refine sr_nil ?_
    refine st_no rfl ?_
    refine st_skip ?_
    refine st_seq ?_
    refine st_region ?_
    refine sr_op rfl rfl (ow_move (v := .slice s2A x.length s2c) rfl ?_)
    have hlib := (hlib.mono hI2)
    refine sr_op rfl rfl (ow_call en38 rfl (Text_as H s2 hlib (by omega) (join_cost_le (l := x) (by omega)) (toks_sz s2) (textE_ok hxv)) ?_)
    rintro _ _ ⟨rfl, H⟩
    refine sr_op rfl rfl (ow_move (v := .tuple #[.string (joinS (x.map spellS) ⟨#[32]⟩), .int .i64 0]) rfl ?_)
    refine sr_op rfl rfl (ow_extract (v := .string (joinS (x.map spellS) ⟨#[32]⟩)) rfl rfl ?_)
    refine sr_op rfl rfl (ow_extract (v := .int .i64 0) rfl rfl ?_)
    refine sr_op rfl rfl (ow_assign (v := .string (joinS (x.map spellS) ⟨#[32]⟩)) rfl ?_)
    refine sr_op rfl rfl (ow_assign (v := .int .i64 0) rfl ?_)
    refine sr_nil ?_
    refine st_seq ?_
    refine st_region ?_
    refine sr_op rfl rfl (ow_move (v := .string (joinS (x.map spellS) ⟨#[32]⟩)) rfl ?_)
    refine sr_op rfl rfl (ow_call en34 rfl (Lex_as H (s63_cost (by omega)) hlib hy) ?_)
    rintro _ _ ⟨I3, v3, hI3, H, rfl, hl3⟩
    obtain ⟨s3A, s3c, rfl, s3m, s3M, s3⟩ := RepS.open_ hl3
    refine sr_op rfl rfl (ow_move (v := .tuple #[.slice s3A y.length s3c, .int .i64 0, .int .i64 0]) rfl ?_)
    refine sr_op rfl rfl (ow_extract (v := .slice s3A y.length s3c) rfl rfl ?_)
    refine sr_op rfl rfl (ow_extract (v := .int .i64 0) rfl rfl ?_)
    refine sr_op rfl rfl (ow_extract (v := .int .i64 0) rfl rfl ?_)
    refine sr_op rfl rfl (ow_assign (v := .slice s3A y.length s3c) rfl ?_)
    refine sr_op rfl rfl (ow_assign (v := .int .i64 0) rfl ?_)
    refine sr_op rfl rfl (ow_assign (v := .int .i64 0) rfl ?_)
    refine sr_nil ?_
    refine st_seq ?_
    refine st_region ?_
    refine sr_op rfl rfl (ow_move (v := .int .i64 0) rfl ?_)
    refine sr_op rfl rfl (ow_eql rfl rfl ?_)
    refine sr_op rfl rfl (ow_move (v := .bool true) rfl ?_)
    refine sr_want rfl (j := 2) (d := 77) rfl rfl rfl (v := true) rfl rfl (ow_move (v := .int .i64 0) rfl ?_)
    refine sr_want rfl (j := 2) (d := 77) rfl rfl rfl (v := true) rfl rfl (ow_eql rfl rfl ?_)
    refine sr_op rfl rfl (ow_pick (v := .bool true) rfl rfl ?_)
    refine sr_op rfl rfl (ow_move (v := .bool true) rfl ?_)
    refine sr_want rfl (j := 6) (d := 81) rfl rfl rfl (v := true) rfl rfl (ow_move (v := .slice s2A x.length s2c) rfl ?_)
    refine sr_want rfl (j := 6) (d := 81) rfl rfl rfl (v := true) rfl rfl (ow_move (v := .slice s3A y.length s3c) rfl ?_)
    have s2 := (s2.mono hI3)
    refine sr_want rfl (j := 6) (d := 81) rfl rfl rfl (v := true) rfl rfl (ow_call en40 rfl (lexSame_as H s2 s3 hxy) ?_)
    rintro _ _ ⟨rfl, H⟩
    refine sr_op rfl rfl (ow_pick (v := .bool true) rfl rfl ?_)
    refine sr_op rfl rfl (ow_assign (v := .bool true) rfl ?_)
    refine sr_nil ?_
    refine st_ret hb (hR _ _ (.bool true) (res_run (vs := [.bool true]) Tryd.results11 ⟨_, _, rfl, rfl, rfl⟩) ?_)
    exact ⟨_, rfl, rfl, (Hp.back H ((hI1.trans hI2).trans hI3))⟩
  · obtain ⟨s0A, s0c, rfl, s0m, s0M, s0⟩ := RepS.open_ hl
    refine calls_st (n := 86) Tryd.func11 rfl rfl rfl ?_
    intro G bF cs hb hfn hR hP
    simp only [ini]
    refine st_seq ?_
    refine st_region ?_
    refine sr_op rfl rfl (ow_assign (v := .bool false) rfl ?_)
    refine sr_nil ?_
    refine st_seq ?_
    refine st_seq ?_
    refine st_region ?_
    refine sr_op rfl rfl (ow_call en33 rfl (lexSane_c H hlib) ?_)
    rintro _ _ ⟨rfl, H⟩
    refine sr_op rfl rfl (ow_not rfl ?_)
    refine sr_nil ?_
    refine st_no rfl ?_
    refine st_skip ?_
    refine st_seq ?_
    refine st_seq ?_
    refine st_region ?_
    refine sr_op rfl rfl (ow_move (v := .slice s0A l.length s0c) rfl ?_)
    refine sr_op rfl rfl (ow_call en37 rfl (FewT_c H s0 hbt) ?_)
    rintro _ _ ⟨rfl, H⟩
    refine sr_op rfl rfl (ow_not rfl ?_)
    refine sr_op rfl rfl (ow_move (v := .bool (!(fewT l))) rfl ?_)
    refine sr_want rfl (j := 3) (d := 23) rfl rfl rfl (v := false) (congrArg Value.bool (congrArg (a₂ := true) not hfw)) rfl (ow_move (v := .string src) rfl ?_)
    refine sr_want rfl (j := 3) (d := 23) rfl rfl rfl (v := false) (congrArg Value.bool (congrArg (a₂ := true) not hfw)) rfl (ow_lenT un9 rfl rfl ?_)
    refine sr_want rfl (j := 3) (d := 23) rfl rfl rfl (v := false) (congrArg Value.bool (congrArg (a₂ := true) not hfw)) rfl (ow_gtr rfl rfl ?_)
    refine sr_op rfl rfl (ow_pick (a := false) (v := .bool (decide (3000 < (src.size : Int)))) (congrArg Value.bool (congrArg (a₂ := true) not hfw)) rfl ?_)
    refine sr_nil ?_
    refine st_no (congrArg Value.bool (decide_eq_false hbig)) ?_
    refine st_skip ?_
    refine st_seq ?_
    refine st_region ?_
    refine sr_op rfl rfl (ow_move (v := .slice s0A l.length s0c) rfl ?_)
    refine sr_op rfl rfl (ow_call en38 rfl (Text_as H s0 hlib (by omega) (join_cost_le (l := l) hco) htz (textE_no hv)) ?_)
    rintro _ _ ⟨rfl, H⟩
    refine sr_op rfl rfl (ow_move (v := .tuple #[.string ⟨#[]⟩, .int .i64 30]) rfl ?_)
    refine sr_op rfl rfl (ow_extract (v := .string ⟨#[]⟩) rfl rfl ?_)
    refine sr_op rfl rfl (ow_extract (v := .int .i64 30) rfl rfl ?_)
    refine sr_op rfl rfl (ow_assign (v := .string ⟨#[]⟩) rfl ?_)
    refine sr_op rfl rfl (ow_assign (v := .int .i64 30) rfl ?_)
    refine sr_nil ?_
    refine st_seq ?_
    refine st_seq ?_
    refine st_region ?_
    refine sr_op rfl rfl (ow_move (v := .int .i64 30) rfl ?_)
    refine sr_op rfl rfl (ow_eql rfl rfl ?_)
    refine sr_nil ?_
    refine st_no rfl ?_
    refine st_skip ?_
    refine st_seq ?_
    refine st_region ?_
    refine sr_op rfl rfl (ow_move (v := .string src) rfl ?_)
    refine sr_op rfl rfl (ow_call en34 rfl (Lex_as H (s63_of hS) hlib hx) ?_)
    rintro _ _ ⟨I1, v1, hI1, H, rfl, hl1⟩
    obtain ⟨s1A, s1c, rfl, s1m, s1M, s1⟩ := RepS.open_ hl1
    refine sr_op rfl rfl (ow_move (v := .tuple #[.slice s1A 0 s1c, .int .i64 a, .int .i64 30]) rfl ?_)
    refine sr_op rfl rfl (ow_extract (v := .slice s1A 0 s1c) rfl rfl ?_)
    refine sr_op rfl rfl (ow_extract (v := .int .i64 a) rfl rfl ?_)
    refine sr_op rfl rfl (ow_extract (v := .int .i64 30) rfl rfl ?_)
    refine sr_op rfl rfl (ow_assign (v := .slice s1A 0 s1c) rfl ?_)
    refine sr_op rfl rfl (ow_assign (v := .int .i64 a) rfl ?_)
    refine sr_op rfl rfl (ow_assign (v := .int .i64 30) rfl ?_)
    refine sr_nil ?_
    refine st_seq ?_
    refine st_seq ?_
    refine st_region ?_
    refine sr_op rfl rfl (ow_move (v := .int .i64 30) rfl ?_)
    refine sr_op rfl rfl (ow_neq rfl rfl ?_)
    refine sr_nil ?_
    refine st_yes rfl ?_
    refine st_seq ?_
    refine st_region ?_
    refine sr_op rfl rfl (ow_move (v := .slice s1A 0 s1c) rfl ?_)
    refine sr_op rfl rfl (ow_lenS sl53 rfl rfl ?_)
    refine sr_op rfl rfl (ow_eql rfl rfl ?_)
    refine sr_op rfl rfl (ow_assign (v := .bool true) rfl ?_)
    refine sr_nil ?_
    refine st_ret hb (hR _ _ (.bool true) (res_run (vs := [.bool true]) Tryd.results11 ⟨_, _, rfl, rfl, rfl⟩) ?_)
    exact ⟨_, rfl, rfl, (Hp.back H hI1)⟩
  · obtain ⟨s0A, s0c, rfl, s0m, s0M, s0⟩ := RepS.open_ hl
    refine calls_st (n := 86) Tryd.func11 rfl rfl rfl ?_
    intro G bF cs hb hfn hR hP
    simp only [ini]
    refine st_seq ?_
    refine st_region ?_
    refine sr_op rfl rfl (ow_assign (v := .bool false) rfl ?_)
    refine sr_nil ?_
    refine st_seq ?_
    refine st_seq ?_
    refine st_region ?_
    refine sr_op rfl rfl (ow_call en33 rfl (lexSane_c H hlib) ?_)
    rintro _ _ ⟨rfl, H⟩
    refine sr_op rfl rfl (ow_not rfl ?_)
    refine sr_nil ?_
    refine st_no rfl ?_
    refine st_skip ?_
    refine st_seq ?_
    refine st_seq ?_
    refine st_region ?_
    refine sr_op rfl rfl (ow_move (v := .slice s0A l.length s0c) rfl ?_)
    refine sr_op rfl rfl (ow_call en37 rfl (FewT_c H s0 hbt) ?_)
    rintro _ _ ⟨rfl, H⟩
    refine sr_op rfl rfl (ow_not rfl ?_)
    refine sr_op rfl rfl (ow_move (v := .bool (!(fewT l))) rfl ?_)
    refine sr_want rfl (j := 3) (d := 23) rfl rfl rfl (v := false) (congrArg Value.bool (congrArg (a₂ := true) not hfw)) rfl (ow_move (v := .string src) rfl ?_)
    refine sr_want rfl (j := 3) (d := 23) rfl rfl rfl (v := false) (congrArg Value.bool (congrArg (a₂ := true) not hfw)) rfl (ow_lenT un9 rfl rfl ?_)
    refine sr_want rfl (j := 3) (d := 23) rfl rfl rfl (v := false) (congrArg Value.bool (congrArg (a₂ := true) not hfw)) rfl (ow_gtr rfl rfl ?_)
    refine sr_op rfl rfl (ow_pick (a := false) (v := .bool (decide (3000 < (src.size : Int)))) (congrArg Value.bool (congrArg (a₂ := true) not hfw)) rfl ?_)
    refine sr_nil ?_
    refine st_no (congrArg Value.bool (decide_eq_false hbig)) ?_
    refine st_skip ?_
    refine st_seq ?_
    refine st_region ?_
    refine sr_op rfl rfl (ow_move (v := .slice s0A l.length s0c) rfl ?_)
    refine sr_op rfl rfl (ow_call en38 rfl (Text_as H s0 hlib (by omega) (join_cost_le (l := l) hco) htz (textE_no hv)) ?_)
    rintro _ _ ⟨rfl, H⟩
    refine sr_op rfl rfl (ow_move (v := .tuple #[.string ⟨#[]⟩, .int .i64 30]) rfl ?_)
    refine sr_op rfl rfl (ow_extract (v := .string ⟨#[]⟩) rfl rfl ?_)
    refine sr_op rfl rfl (ow_extract (v := .int .i64 30) rfl rfl ?_)
    refine sr_op rfl rfl (ow_assign (v := .string ⟨#[]⟩) rfl ?_)
    refine sr_op rfl rfl (ow_assign (v := .int .i64 30) rfl ?_)
    refine sr_nil ?_
    refine st_seq ?_
    refine st_seq ?_
    refine st_region ?_
    refine sr_op rfl rfl (ow_move (v := .int .i64 30) rfl ?_)
    refine sr_op rfl rfl (ow_eql rfl rfl ?_)
    refine sr_nil ?_
    refine st_no rfl ?_
    refine st_skip ?_
    refine st_seq ?_
    refine st_region ?_
    refine sr_op rfl rfl (ow_move (v := .string src) rfl ?_)
    refine sr_op rfl rfl (ow_call en34 rfl (Lex_as H (s63_of hS) hlib hx) ?_)
    rintro _ _ ⟨I1, v1, hI1, H, rfl, hl1⟩
    obtain ⟨s1A, s1c, rfl, s1m, s1M, s1⟩ := RepS.open_ hl1
    refine sr_op rfl rfl (ow_move (v := .tuple #[.slice s1A x.length s1c, .int .i64 0, .int .i64 0]) rfl ?_)
    refine sr_op rfl rfl (ow_extract (v := .slice s1A x.length s1c) rfl rfl ?_)
    refine sr_op rfl rfl (ow_extract (v := .int .i64 0) rfl rfl ?_)
    refine sr_op rfl rfl (ow_extract (v := .int .i64 0) rfl rfl ?_)
    refine sr_op rfl rfl (ow_assign (v := .slice s1A x.length s1c) rfl ?_)
    refine sr_op rfl rfl (ow_assign (v := .int .i64 0) rfl ?_)
    refine sr_op rfl rfl (ow_assign (v := .int .i64 0) rfl ?_)
    refine sr_nil ?_
    refine st_seq ?_
    refine st_seq ?_
    refine st_region ?_
    refine sr_op rfl rfl (ow_move (v := .int .i64 0) rfl ?_)
    refine sr_op rfl rfl (ow_neq rfl rfl ?_)
    refine sr_nil ?_
    refine st_no rfl ?_
    refine st_skip ?_
    refine st_seq ?_
    refine st_region ?_
    refine sr_op rfl rfl (ow_move (v := .slice s1A x.length s1c) rfl ?_)
    have hlib := (hlib.mono hI1)
    refine sr_op rfl rfl (ow_call en38 rfl (Text_as H s1 hlib (by omega) (join_cost_le (l := x) (by omega)) (toks_sz s1) (textE_ok hxv)) ?_)
    rintro _ _ ⟨rfl, H⟩
    refine sr_op rfl rfl (ow_move (v := .tuple #[.string (joinS (x.map spellS) ⟨#[32]⟩), .int .i64 0]) rfl ?_)
    refine sr_op rfl rfl (ow_extract (v := .string (joinS (x.map spellS) ⟨#[32]⟩)) rfl rfl ?_)
    refine sr_op rfl rfl (ow_extract (v := .int .i64 0) rfl rfl ?_)
    refine sr_op rfl rfl (ow_assign (v := .string (joinS (x.map spellS) ⟨#[32]⟩)) rfl ?_)
    refine sr_op rfl rfl (ow_assign (v := .int .i64 0) rfl ?_)
    refine sr_nil ?_
    refine st_seq ?_
    refine st_region ?_
    refine sr_op rfl rfl (ow_move (v := .string (joinS (x.map spellS) ⟨#[32]⟩)) rfl ?_)
    refine sr_op rfl rfl (ow_call en34 rfl (Lex_as H (s63_cost (by omega)) hlib hy) ?_)
    rintro _ _ ⟨I2, v2, hI2, H, rfl, hl2⟩
    obtain ⟨s2A, s2c, rfl, s2m, s2M, s2⟩ := RepS.open_ hl2
    refine sr_op rfl rfl (ow_move (v := .tuple #[.slice s2A y.length s2c, .int .i64 0, .int .i64 0]) rfl ?_)
    refine sr_op rfl rfl (ow_extract (v := .slice s2A y.length s2c) rfl rfl ?_)
    refine sr_op rfl rfl (ow_extract (v := .int .i64 0) rfl rfl ?_)
    refine sr_op rfl rfl (ow_extract (v := .int .i64 0) rfl rfl ?_)
    refine sr_op rfl rfl (ow_assign (v := .slice s2A y.length s2c) rfl ?_)
    refine sr_op rfl rfl (ow_assign (v := .int .i64 0) rfl ?_)
    refine sr_op rfl rfl (ow_assign (v := .int .i64 0) rfl ?_)
    refine sr_nil ?_
    refine st_seq ?_
    refine st_region ?_
    refine sr_op rfl rfl (ow_move (v := .int .i64 0) rfl ?_)
    refine sr_op rfl rfl (ow_eql rfl rfl ?_)
    refine sr_op rfl rfl (ow_move (v := .bool true) rfl ?_)
    refine sr_want rfl (j := 2) (d := 77) rfl rfl rfl (v := true) rfl rfl (ow_move (v := .int .i64 0) rfl ?_)
    refine sr_want rfl (j := 2) (d := 77) rfl rfl rfl (v := true) rfl rfl (ow_eql rfl rfl ?_)
    refine sr_op rfl rfl (ow_pick (v := .bool true) rfl rfl ?_)
    refine sr_op rfl rfl (ow_move (v := .bool true) rfl ?_)
    refine sr_want rfl (j := 6) (d := 81) rfl rfl rfl (v := true) rfl rfl (ow_move (v := .slice s1A x.length s1c) rfl ?_)
    refine sr_want rfl (j := 6) (d := 81) rfl rfl rfl (v := true) rfl rfl (ow_move (v := .slice s2A y.length s2c) rfl ?_)
    have s1 := (s1.mono hI2)
    refine sr_want rfl (j := 6) (d := 81) rfl rfl rfl (v := true) rfl rfl (ow_call en40 rfl (lexSame_as H s1 s2 hxy) ?_)
    rintro _ _ ⟨rfl, H⟩
    refine sr_op rfl rfl (ow_pick (v := .bool true) rfl rfl ?_)
    refine sr_op rfl rfl (ow_assign (v := .bool true) rfl ?_)
    refine sr_nil ?_
    refine st_ret hb (hR _ _ (.bool true) (res_run (vs := [.bool true]) Tryd.results11 ⟨_, _, rfl, rfl, rfl⟩) ?_)
    exact ⟨_, rfl, rfl, (Hp.back H (hI1.trans hI2))⟩
  · obtain ⟨s0A, s0c, rfl, s0m, s0M, s0⟩ := RepS.open_ hl
    refine calls_st (n := 86) Tryd.func11 rfl rfl rfl ?_
    intro G bF cs hb hfn hR hP
    simp only [ini]
    refine st_seq ?_
    refine st_region ?_
    refine sr_op rfl rfl (ow_assign (v := .bool false) rfl ?_)
    refine sr_nil ?_
    refine st_seq ?_
    refine st_seq ?_
    refine st_region ?_
    refine sr_op rfl rfl (ow_call en33 rfl (lexSane_c H hlib) ?_)
    rintro _ _ ⟨rfl, H⟩
    refine sr_op rfl rfl (ow_not rfl ?_)
    refine sr_nil ?_
    refine st_no rfl ?_
    refine st_skip ?_
    refine st_seq ?_
    refine st_seq ?_
    refine st_region ?_
    refine sr_op rfl rfl (ow_move (v := .slice s0A l.length s0c) rfl ?_)
    refine sr_op rfl rfl (ow_call en37 rfl (FewT_c H s0 hbt) ?_)
    rintro _ _ ⟨rfl, H⟩
    refine sr_op rfl rfl (ow_not rfl ?_)
    refine sr_op rfl rfl (ow_move (v := .bool (!(fewT l))) rfl ?_)
    refine sr_pass rfl (j := 3) (d := 23) rfl rfl rfl (u := true) (v := false) (congrArg Value.bool (congrArg (a₂ := false) not hfw)) rfl ?_
    refine sr_pass rfl (j := 3) (d := 23) rfl rfl rfl (u := true) (v := false) (congrArg Value.bool (congrArg (a₂ := false) not hfw)) rfl ?_
    refine sr_pass rfl (j := 3) (d := 23) rfl rfl rfl (u := true) (v := false) (congrArg Value.bool (congrArg (a₂ := false) not hfw)) rfl ?_
    refine sr_op rfl rfl (ow_pick (a := true) (v := .bool true) (congrArg Value.bool (congrArg (a₂ := false) not hfw)) rfl ?_)
    refine sr_nil ?_
    refine st_yes rfl ?_
    refine st_seq ?_
    refine st_region ?_
    refine sr_op rfl rfl (ow_assign (v := .bool true) rfl ?_)
    refine sr_nil ?_
    refine st_ret hb (hR _ _ (.bool true) (res_run (vs := [.bool true]) Tryd.results11 ⟨_, _, rfl, rfl, rfl⟩) ?_)
    exact ⟨_, rfl, rfl, H⟩
  · obtain ⟨s0A, s0c, rfl, s0m, s0M, s0⟩ := RepS.open_ hl
    refine calls_st (n := 86) Tryd.func11 rfl rfl rfl ?_
    intro G bF cs hb hfn hR hP
    simp only [ini]
    refine st_seq ?_
    refine st_region ?_
    refine sr_op rfl rfl (ow_assign (v := .bool false) rfl ?_)
    refine sr_nil ?_
    refine st_seq ?_
    refine st_seq ?_
    refine st_region ?_
    refine sr_op rfl rfl (ow_call en33 rfl (lexSane_c H hlib) ?_)
    rintro _ _ ⟨rfl, H⟩
    refine sr_op rfl rfl (ow_not rfl ?_)
    refine sr_nil ?_
    refine st_no rfl ?_
    refine st_skip ?_
    refine st_seq ?_
    refine st_seq ?_
    refine st_region ?_
    refine sr_op rfl rfl (ow_move (v := .slice s0A l.length s0c) rfl ?_)
    refine sr_op rfl rfl (ow_call en37 rfl (FewT_c H s0 hbt) ?_)
    rintro _ _ ⟨rfl, H⟩
    refine sr_op rfl rfl (ow_not rfl ?_)
    refine sr_op rfl rfl (ow_move (v := .bool (!(fewT l))) rfl ?_)
    refine sr_want rfl (j := 3) (d := 23) rfl rfl rfl (v := false) (congrArg Value.bool (congrArg (a₂ := true) not hfw)) rfl (ow_move (v := .string src) rfl ?_)
    refine sr_want rfl (j := 3) (d := 23) rfl rfl rfl (v := false) (congrArg Value.bool (congrArg (a₂ := true) not hfw)) rfl (ow_lenT un9 rfl rfl ?_)
    refine sr_want rfl (j := 3) (d := 23) rfl rfl rfl (v := false) (congrArg Value.bool (congrArg (a₂ := true) not hfw)) rfl (ow_gtr rfl rfl ?_)
    refine sr_op rfl rfl (ow_pick (a := false) (v := .bool (decide (3000 < (src.size : Int)))) (congrArg Value.bool (congrArg (a₂ := true) not hfw)) rfl ?_)
    refine sr_nil ?_
    refine st_yes (congrArg Value.bool (decide_eq_true hbig)) ?_
    refine st_seq ?_
    refine st_region ?_
    refine sr_op rfl rfl (ow_assign (v := .bool true) rfl ?_)
    refine sr_nil ?_
    refine st_ret hb (hR _ _ (.bool true) (res_run (vs := [.bool true]) Tryd.results11 ⟨_, _, rfl, rfl, rfl⟩) ?_)
    exact ⟨_, rfl, rfl, H⟩
end Go.Proofs.YtbbflenaeihmeaaDoor
