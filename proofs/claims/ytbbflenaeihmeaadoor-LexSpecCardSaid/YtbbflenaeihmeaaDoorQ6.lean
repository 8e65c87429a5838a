/-
  Walks: the examples with which the statements on lex begin.
-/
import Derived.Test.YtbbflenaeihmeaaDoorQ5
set_option linter.unusedVariables false
set_option linter.unusedSimpArgs false
set_option maxRecDepth 10000
set_option maxHeartbeats 4000000
namespace Go.Proofs.YtbbflenaeihmeaaDoor
open Go Go.RowKit

theorem Lex_as {B I L w} (H : Hp B I w L) {src : ByteArray} (hS : S63 src) (hlib : LibAt I) {l : List Tk} {a e : Int} (h : lexE src = (l, a, e)) : Calls Tryd.prog 34 #[.string src] w (Rt fun r w' => ∃ I' v, Le I I' ∧ Hp B I' w' L ∧ r = .tuple #[v, .int .i64 a, .int .i64 e] ∧ RepS encTk I' 4 l v) := by
  have h1 := Lex_c H src hS hlib
  rw [h] at h1
  exact h1
theorem Text_as {B I L w} (H : Hp B I w L) {l : List Tk} {v : Value} (hl : RepS encTk I 4 l v) (hlib : LibAt I) (hn : l.length ≤ 100000) (hj : (joinS (l.map spellS) ⟨#[32]⟩).size ≤ 140737488355328) (hsz : ∀ t ∈ l, S63 t.text ∧ I64 t.n) {s : ByteArray} {e : Int} (h : textE l = (s, e)) : Calls Tryd.prog 38 #[v] w (Rt fun r w' => r = .tuple #[.string s, .int .i64 e] ∧ Hp B I w' L) := by
  have h1 := Text_c H hl hn hj hlib hsz
  rw [h] at h1
  exact h1
theorem Equal_as {B I L w} (H : Hp B I w L) {l m : List Tk} {v u : Value} (hl : RepS encTk I 4 l v) (hm : RepS encTk I 4 m u) {b : Bool} (h : eqTs l m = b) : Calls Tryd.prog 36 #[v, u] w (Rt fun r w' => r = .bool b ∧ Hp B I w' L) := by
  have h1 := Equal_c H hl hm
  rw [h] at h1
  exact h1
theorem lexSame_as {B I L w} (H : Hp B I w L) {l m : List Tk} {v u : Value} (hl : RepS encTk I 4 l v) (hm : RepS encTk I 4 m u) {b : Bool} (h : sameTs l m = b) : Calls Tryd.prog 40 #[v, u] w (Rt fun r w' => r = .bool b ∧ Hp B I w' L) := by
  have h1 := lexSame_c H hl hm
  rw [h] at h1
  exact h1
theorem Name_as {B I L w} (H : Hp B I w L) (s : ByteArray) (hs : S63 s) {b : Bool} (h : nameB s = b) : Calls Tryd.prog 42 #[.string s] w (Rt fun r w' => r = .bool b ∧ Hp B I w' L) := by
  have h1 := Name_c H s hs
  rw [h] at h1
  exact h1
def sumL : List Tk := [mkTk 1 ⟨#[115, 117, 109]⟩ 0 0, mkTk 2 ⟨#[]⟩ 30 4, mkTk 3 ⟨#[59]⟩ 0 6]
theorem sumL_lex : lexE ⟨#[115, 117, 109, 32, 51, 48, 59]⟩ = (sumL, 0, 0) := by kernel_rfl
def noL : List Tk := []
theorem noL_lex : lexE ⟨#[48, 48, 55]⟩ = (noL, 0, 30) := by kernel_rfl
def bigL : List Tk := [mkTk 2 ⟨#[]⟩ 1099511627776 0]
theorem bigL_lex : lexE ⟨#[49, 48, 57, 57, 53, 49, 49, 54, 50, 55, 55, 55, 54]⟩ = (bigL, 0, 0) := by kernel_rfl
def aL : List Tk := [mkTk 1 ⟨#[97]⟩ 0 0]
theorem aL_lex : lexE ⟨#[97, 32, 47, 47, 32, 98]⟩ = (aL, 0, 0) := by kernel_rfl
def twoL : List Tk := []
theorem twoL_lex : lexE ⟨#[97, 32, 36]⟩ = (twoL, 2, 30) := by kernel_rfl
def eqL : List Tk := [mkTk 1 ⟨#[97]⟩ 0 0, mkTk 3 ⟨#[61]⟩ 0 1, mkTk 2 ⟨#[]⟩ 1 2]
theorem eqL_lex : lexE ⟨#[97, 61, 49]⟩ = (eqL, 0, 0) := by kernel_rfl
def nilL : List Tk := []
theorem nilL_lex : lexE ⟨#[]⟩ = (nilL, 0, 0) := by kernel_rfl
theorem eqL_text : textE eqL = (⟨#[97, 32, 61, 32, 49]⟩, 0) := by kernel_rfl
theorem zero_text : textE [mkTk 0 ⟨#[]⟩ 0 0] = (⟨#[]⟩, 30) := by kernel_rfl
theorem toks_ok {l : List Tk} (h : (l.all fun t => decide (t.text.size ≤ 100) && (decide (0 ≤ t.n) && decide (t.n ≤ 1099511627776))) = true) : ∀ t ∈ l, S63 t.text ∧ I64 t.n := by
  intro t ht
  have := List.all_eq_true.1 h t ht
  simp only [Bool.and_eq_true, decide_eq_true_eq] at this
  exact ⟨by unfold S63; omega, by unfold I64; omega⟩
theorem lexSane_c {B I L w} (H : Hp B I w L) (hlib : LibAt I) : Calls Tryd.prog 33 #[] w (Rt fun r w' => r = .bool true ∧ Hp B I w' L) := by
  refine calls_st (n := 178) Tryd.func33 rfl rfl rfl ?_
  intro G bF cs hb hfn hR hP
  simp only [ini]
  refine st_seq ?_
  refine st_region ?_
  refine sr_op rfl rfl (ow_assign (v := .bool false) rfl ?_)
  refine sr_nil ?_
  refine st_seq ?_
  refine st_region ?_
  refine sr_op rfl rfl (ow_call en34 rfl (Lex_as H (by unfold S63; decide) hlib sumL_lex) ?_)
  rintro _ _ ⟨I1, v1, hI1, H, rfl, hl1⟩
  obtain ⟨s1A, s1c, rfl, s1m, s1M, s1⟩ := RepS.open_ hl1
  refine sr_op rfl rfl (ow_move (v := .tuple #[.slice s1A 3 s1c, .int .i64 0, .int .i64 0]) rfl ?_)
  refine sr_op rfl rfl (ow_extract (v := .slice s1A 3 s1c) rfl rfl ?_)
  refine sr_op rfl rfl (ow_extract (v := .int .i64 0) rfl rfl ?_)
  refine sr_op rfl rfl (ow_extract (v := .int .i64 0) rfl rfl ?_)
  refine sr_op rfl rfl (ow_assign (v := .slice s1A 3 s1c) rfl ?_)
  refine sr_op rfl rfl (ow_assign (v := .int .i64 0) rfl ?_)
  refine sr_op rfl rfl (ow_assign (v := .int .i64 0) rfl ?_)
  refine sr_nil ?_
  refine st_seq ?_
  refine st_region ?_
  refine sr_op rfl rfl (ow_build (ps := [(0, .int .i64 1), (1, .string ⟨#[115, 117, 109]⟩)]) (v := .agg #[.int .i64 1, .string ⟨#[115, 117, 109]⟩, .int .i64 0, .int .i64 0]) rfl (fun _ => by kernel_rfl) ?_)
  refine sr_op rfl rfl (ow_build (ps := [(0, .int .i64 2), (2, .int .i64 30), (3, .int .i64 4)]) (v := .agg #[.int .i64 2, .string ⟨#[]⟩, .int .i64 30, .int .i64 4]) rfl (fun _ => by kernel_rfl) ?_)
  refine sr_op rfl rfl (ow_build (ps := [(0, .int .i64 3), (1, .string ⟨#[59]⟩), (3, .int .i64 6)]) (v := .agg #[.int .i64 3, .string ⟨#[59]⟩, .int .i64 0, .int .i64 6]) rfl (fun _ => by kernel_rfl) ?_)
  refine sr_op rfl rfl (ow_buildSlice H (e := 64) (ps := [(0, .agg #[.int .i64 1, .string ⟨#[115, 117, 109]⟩, .int .i64 0, .int .i64 0]), (1, .agg #[.int .i64 2, .string ⟨#[]⟩, .int .i64 30, .int .i64 4]), (2, .agg #[.int .i64 3, .string ⟨#[59]⟩, .int .i64 0, .int .i64 6])]) rfl [.int .i64 1, .string ⟨#[115, 117, 109]⟩, .int .i64 0, .int .i64 0, .int .i64 2, .string ⟨#[]⟩, .int .i64 30, .int .i64 4, .int .i64 3, .string ⟨#[59]⟩, .int .i64 0, .int .i64 6] (fun _ => by kernel_rfl) (fun g2 _ H => ?_))
  obtain ⟨I3, hI3, H, hl3⟩ := lit_done (enc := encTk) (sz := 4) (n := 3) [(mkTk 1 ⟨#[115, 117, 109]⟩ 0 0), (mkTk 2 ⟨#[]⟩ 30 4), (mkTk 3 ⟨#[59]⟩ 0 6)] rfl (by omega) H ⟨((tk_iff (t := mkTk 1 ⟨#[115, 117, 109]⟩ 0 0)).2 ⟨rfl, i64_1, (by unfold S63 mkTk; decide), i64_0, i64_0⟩), rfl, ⟨((tk_iff (t := mkTk 2 ⟨#[]⟩ 30 4)).2 ⟨rfl, i64_2, (by unfold S63 mkTk; decide), (by constructor <;> decide), (by constructor <;> decide)⟩), rfl, ⟨((tk_iff (t := mkTk 3 ⟨#[59]⟩ 0 6)).2 ⟨rfl, i64_3, (by unfold S63 mkTk; decide), i64_0, (by constructor <;> decide)⟩), rfl, rfl⟩⟩⟩
  refine sr_op rfl rfl (ow_assign (v := .slice (some ⟨g2, 0, none⟩) 3 3) rfl ?_)
  refine sr_nil ?_
  refine st_seq ?_
  refine st_region ?_
  have hlib := ((hlib.mono hI1).mono hI3)
  refine sr_op rfl rfl (ow_call en34 rfl (Lex_as H (by unfold S63; decide) hlib noL_lex) ?_)
  rintro _ _ ⟨I4, v4, hI4, H, rfl, hl4⟩
  obtain ⟨s4A, s4c, rfl, s4m, s4M, s4⟩ := RepS.open_ hl4
  refine sr_op rfl rfl (ow_move (v := .tuple #[.slice s4A 0 s4c, .int .i64 0, .int .i64 30]) rfl ?_)
  refine sr_op rfl rfl (ow_extract (v := .slice s4A 0 s4c) rfl rfl ?_)
  refine sr_op rfl rfl (ow_extract (v := .int .i64 0) rfl rfl ?_)
  refine sr_op rfl rfl (ow_extract (v := .int .i64 30) rfl rfl ?_)
  refine sr_op rfl rfl (ow_assign (v := .slice s4A 0 s4c) rfl ?_)
  refine sr_op rfl rfl (ow_assign (v := .int .i64 0) rfl ?_)
  refine sr_op rfl rfl (ow_assign (v := .int .i64 30) rfl ?_)
  refine sr_nil ?_
  refine st_seq ?_
  refine st_region ?_
  have hlib := (hlib.mono hI4)
  refine sr_op rfl rfl (ow_call en34 rfl (Lex_as H (by unfold S63; decide) hlib bigL_lex) ?_)
  rintro _ _ ⟨I5, v5, hI5, H, rfl, hl5⟩
  obtain ⟨s5A, s5c, rfl, s5m, s5M, s5⟩ := RepS.open_ hl5
  refine sr_op rfl rfl (ow_move (v := .tuple #[.slice s5A 1 s5c, .int .i64 0, .int .i64 0]) rfl ?_)
  refine sr_op rfl rfl (ow_extract (v := .slice s5A 1 s5c) rfl rfl ?_)
  refine sr_op rfl rfl (ow_extract (v := .int .i64 0) rfl rfl ?_)
  refine sr_op rfl rfl (ow_extract (v := .int .i64 0) rfl rfl ?_)
  refine sr_op rfl rfl (ow_assign (v := .slice s5A 1 s5c) rfl ?_)
  refine sr_op rfl rfl (ow_assign (v := .int .i64 0) rfl ?_)
  refine sr_op rfl rfl (ow_assign (v := .int .i64 0) rfl ?_)
  refine sr_nil ?_
  refine st_seq ?_
  refine st_region ?_
  have hlib := (hlib.mono hI5)
  refine sr_op rfl rfl (ow_call en34 rfl (Lex_as H (by unfold S63; decide) hlib aL_lex) ?_)
  rintro _ _ ⟨I6, v6, hI6, H, rfl, hl6⟩
  obtain ⟨s6A, s6c, rfl, s6m, s6M, s6⟩ := RepS.open_ hl6
  refine sr_op rfl rfl (ow_move (v := .tuple #[.slice s6A 1 s6c, .int .i64 0, .int .i64 0]) rfl ?_)
  refine sr_op rfl rfl (ow_extract (v := .slice s6A 1 s6c) rfl rfl ?_)
  refine sr_op rfl rfl (ow_extract (v := .int .i64 0) rfl rfl ?_)
  refine sr_op rfl rfl (ow_extract (v := .int .i64 0) rfl rfl ?_)
  refine sr_op rfl rfl (ow_assign (v := .slice s6A 1 s6c) rfl ?_)
  refine sr_op rfl rfl (ow_assign (v := .int .i64 0) rfl ?_)
  refine sr_op rfl rfl (ow_assign (v := .int .i64 0) rfl ?_)
  refine sr_nil ?_
  refine st_seq ?_
  refine st_region ?_
  have hlib := (hlib.mono hI6)
  refine sr_op rfl rfl (ow_call en34 rfl (Lex_as H (by unfold S63; decide) hlib twoL_lex) ?_)
  rintro _ _ ⟨I7, v7, hI7, H, rfl, hl7⟩
  obtain ⟨s7A, s7c, rfl, s7m, s7M, s7⟩ := RepS.open_ hl7
  refine sr_op rfl rfl (ow_move (v := .tuple #[.slice s7A 0 s7c, .int .i64 2, .int .i64 30]) rfl ?_)
  refine sr_op rfl rfl (ow_extract (v := .slice s7A 0 s7c) rfl rfl ?_)
  refine sr_op rfl rfl (ow_extract (v := .int .i64 2) rfl rfl ?_)
  refine sr_op rfl rfl (ow_extract (v := .int .i64 30) rfl rfl ?_)
  refine sr_op rfl rfl (ow_assign (v := .slice s7A 0 s7c) rfl ?_)
  refine sr_op rfl rfl (ow_assign (v := .int .i64 2) rfl ?_)
  refine sr_op rfl rfl (ow_assign (v := .int .i64 30) rfl ?_)
  refine sr_nil ?_
  refine st_seq ?_
  refine st_region ?_
  have hlib := (hlib.mono hI7)
  refine sr_op rfl rfl (ow_call en34 rfl (Lex_as H (by unfold S63; decide) hlib eqL_lex) ?_)
  rintro _ _ ⟨I8, v8, hI8, H, rfl, hl8⟩
  obtain ⟨s8A, s8c, rfl, s8m, s8M, s8⟩ := RepS.open_ hl8
  refine sr_op rfl rfl (ow_move (v := .tuple #[.slice s8A 3 s8c, .int .i64 0, .int .i64 0]) rfl ?_)
  refine sr_op rfl rfl (ow_extract (v := .slice s8A 3 s8c) rfl rfl ?_)
  refine sr_op rfl rfl (ow_extract (v := .int .i64 0) rfl rfl ?_)
  refine sr_op rfl rfl (ow_extract (v := .int .i64 0) rfl rfl ?_)
  refine sr_op rfl rfl (ow_assign (v := .slice s8A 3 s8c) rfl ?_)
  refine sr_op rfl rfl (ow_assign (v := .int .i64 0) rfl ?_)
  refine sr_op rfl rfl (ow_assign (v := .int .i64 0) rfl ?_)
  refine sr_nil ?_
  refine st_seq ?_
  refine st_region ?_
  refine sr_op rfl rfl (ow_move (v := .slice s8A 3 s8c) rfl ?_)
  have hlib := (hlib.mono hI8)
  refine sr_op rfl rfl (ow_call en38 rfl (Text_as H (s8 : RepS encTk _ 4 eqL _) hlib (by decide) (by decide +kernel) (toks_ok (by kernel_rfl)) eqL_text) ?_)
  rintro _ _ ⟨rfl, H⟩
  refine sr_op rfl rfl (ow_move (v := .tuple #[.string ⟨#[97, 32, 61, 32, 49]⟩, .int .i64 0]) rfl ?_)
  refine sr_op rfl rfl (ow_extract (v := .string ⟨#[97, 32, 61, 32, 49]⟩) rfl rfl ?_)
  refine sr_op rfl rfl (ow_extract (v := .int .i64 0) rfl rfl ?_)
  refine sr_op rfl rfl (ow_assign (v := .string ⟨#[97, 32, 61, 32, 49]⟩) rfl ?_)
  refine sr_op rfl rfl (ow_assign (v := .int .i64 0) rfl ?_)
  refine sr_nil ?_
  refine st_seq ?_
  refine st_region ?_
  refine sr_op rfl rfl (ow_call en34 rfl (Lex_as H (by unfold S63; decide) hlib nilL_lex) ?_)
  rintro _ _ ⟨I9, v9, hI9, H, rfl, hl9⟩
  obtain ⟨s9A, s9c, rfl, s9m, s9M, s9⟩ := RepS.open_ hl9
  refine sr_op rfl rfl (ow_move (v := .tuple #[.slice s9A 0 s9c, .int .i64 0, .int .i64 0]) rfl ?_)
  refine sr_op rfl rfl (ow_extract (v := .slice s9A 0 s9c) rfl rfl ?_)
  refine sr_op rfl rfl (ow_extract (v := .int .i64 0) rfl rfl ?_)
  refine sr_op rfl rfl (ow_extract (v := .int .i64 0) rfl rfl ?_)
  refine sr_op rfl rfl (ow_assign (v := .slice s9A 0 s9c) rfl ?_)
  refine sr_op rfl rfl (ow_assign (v := .int .i64 0) rfl ?_)
  refine sr_op rfl rfl (ow_assign (v := .int .i64 0) rfl ?_)
  refine sr_nil ?_
  refine st_seq ?_
  refine st_region ?_
  refine sr_op rfl rfl (ow_build (ps := []) (v := .agg #[.int .i64 0, .string ⟨#[]⟩, .int .i64 0, .int .i64 0]) rfl (fun _ => by kernel_rfl) ?_)
  refine sr_op rfl rfl (ow_buildSlice H (e := 64) (ps := [(0, .agg #[.int .i64 0, .string ⟨#[]⟩, .int .i64 0, .int .i64 0])]) rfl [.int .i64 0, .string ⟨#[]⟩, .int .i64 0, .int .i64 0] (fun _ => by kernel_rfl) (fun g10 _ H => ?_))
  obtain ⟨I11, hI11, H, hl11⟩ := lit_done (enc := encTk) (sz := 4) (n := 1) [(mkTk 0 ⟨#[]⟩ 0 0)] rfl (by omega) H ⟨((tk_iff (t := mkTk 0 ⟨#[]⟩ 0 0)).2 ⟨rfl, i64_0, (by unfold S63 mkTk; decide), i64_0, i64_0⟩), rfl, rfl⟩
  have hlib := ((hlib.mono hI9).mono hI11)
  refine sr_op rfl rfl (ow_call en38 rfl (Text_as H (hl11 : RepS encTk _ 4 [(mkTk 0 ⟨#[]⟩ 0 0)] _) hlib (by decide) (by decide +kernel) (toks_ok (by kernel_rfl)) zero_text) ?_)
  rintro _ _ ⟨rfl, H⟩
  refine sr_op rfl rfl (ow_move (v := .tuple #[.string ⟨#[]⟩, .int .i64 30]) rfl ?_)
  refine sr_op rfl rfl (ow_extract (v := .string ⟨#[]⟩) rfl rfl ?_)
  refine sr_op rfl rfl (ow_extract (v := .int .i64 30) rfl rfl ?_)
  refine sr_op rfl rfl (ow_assign (v := .string ⟨#[]⟩) rfl ?_)
  refine sr_op rfl rfl (ow_assign (v := .int .i64 30) rfl ?_)
  refine sr_nil ?_
  refine st_seq ?_
  refine st_seq ?_
  refine st_region ?_
  refine sr_op rfl rfl (ow_move (v := .int .i64 0) rfl ?_)
  refine sr_op rfl rfl (ow_neq rfl rfl ?_)
  refine sr_op rfl rfl (ow_move (v := .bool false) rfl ?_)
  refine sr_want rfl (j := 2) (d := 79) rfl rfl rfl (v := false) rfl rfl (ow_move (v := .int .i64 0) rfl ?_)
  refine sr_want rfl (j := 2) (d := 79) rfl rfl rfl (v := false) rfl rfl (ow_neq rfl rfl ?_)
  refine sr_op rfl rfl (ow_pick (v := .bool false) rfl rfl ?_)
  refine sr_op rfl rfl (ow_move (v := .bool false) rfl ?_)
  refine sr_want rfl (j := 6) (d := 83) rfl rfl rfl (v := false) rfl rfl (ow_move (v := .int .i64 30) rfl ?_)
  refine sr_want rfl (j := 6) (d := 83) rfl rfl rfl (v := false) rfl rfl (ow_neq rfl rfl ?_)
  refine sr_op rfl rfl (ow_pick (v := .bool false) rfl rfl ?_)
  refine sr_op rfl rfl (ow_move (v := .bool false) rfl ?_)
  refine sr_want rfl (j := 10) (d := 87) rfl rfl rfl (v := false) rfl rfl (ow_move (v := .int .i64 0) rfl ?_)
  refine sr_want rfl (j := 10) (d := 87) rfl rfl rfl (v := false) rfl rfl (ow_neq rfl rfl ?_)
  refine sr_op rfl rfl (ow_pick (v := .bool false) rfl rfl ?_)
  refine sr_op rfl rfl (ow_move (v := .bool false) rfl ?_)
  refine sr_want rfl (j := 14) (d := 91) rfl rfl rfl (v := false) rfl rfl (ow_move (v := .int .i64 0) rfl ?_)
  refine sr_want rfl (j := 14) (d := 91) rfl rfl rfl (v := false) rfl rfl (ow_neq rfl rfl ?_)
  refine sr_op rfl rfl (ow_pick (v := .bool false) rfl rfl ?_)
  refine sr_op rfl rfl (ow_move (v := .bool false) rfl ?_)
  refine sr_want rfl (j := 18) (d := 95) rfl rfl rfl (v := false) rfl rfl (ow_move (v := .int .i64 0) rfl ?_)
  refine sr_want rfl (j := 18) (d := 95) rfl rfl rfl (v := false) rfl rfl (ow_neq rfl rfl ?_)
  refine sr_op rfl rfl (ow_pick (v := .bool false) rfl rfl ?_)
  refine sr_op rfl rfl (ow_move (v := .bool false) rfl ?_)
  refine sr_want rfl (j := 22) (d := 99) rfl rfl rfl (v := false) rfl rfl (ow_move (v := .int .i64 30) rfl ?_)
  refine sr_want rfl (j := 22) (d := 99) rfl rfl rfl (v := false) rfl rfl (ow_neq rfl rfl ?_)
  refine sr_op rfl rfl (ow_pick (v := .bool false) rfl rfl ?_)
  refine sr_op rfl rfl (ow_move (v := .bool false) rfl ?_)
  refine sr_want rfl (j := 26) (d := 103) rfl rfl rfl (v := false) rfl rfl (ow_move (v := .int .i64 2) rfl ?_)
  refine sr_want rfl (j := 26) (d := 103) rfl rfl rfl (v := false) rfl rfl (ow_neq rfl rfl ?_)
  refine sr_op rfl rfl (ow_pick (v := .bool false) rfl rfl ?_)
  refine sr_op rfl rfl (ow_move (v := .bool false) rfl ?_)
  refine sr_want rfl (j := 30) (d := 107) rfl rfl rfl (v := false) rfl rfl (ow_move (v := .int .i64 0) rfl ?_)
  refine sr_want rfl (j := 30) (d := 107) rfl rfl rfl (v := false) rfl rfl (ow_neq rfl rfl ?_)
  refine sr_op rfl rfl (ow_pick (v := .bool false) rfl rfl ?_)
  refine sr_op rfl rfl (ow_move (v := .bool false) rfl ?_)
  refine sr_want rfl (j := 34) (d := 111) rfl rfl rfl (v := false) rfl rfl (ow_move (v := .int .i64 0) rfl ?_)
  refine sr_want rfl (j := 34) (d := 111) rfl rfl rfl (v := false) rfl rfl (ow_neq rfl rfl ?_)
  refine sr_op rfl rfl (ow_pick (v := .bool false) rfl rfl ?_)
  refine sr_op rfl rfl (ow_move (v := .bool false) rfl ?_)
  refine sr_want rfl (j := 38) (d := 115) rfl rfl rfl (v := false) rfl rfl (ow_move (v := .int .i64 0) rfl ?_)
  refine sr_want rfl (j := 38) (d := 115) rfl rfl rfl (v := false) rfl rfl (ow_neq rfl rfl ?_)
  refine sr_op rfl rfl (ow_pick (v := .bool false) rfl rfl ?_)
  refine sr_op rfl rfl (ow_move (v := .bool false) rfl ?_)
  refine sr_want rfl (j := 42) (d := 119) rfl rfl rfl (v := false) rfl rfl (ow_move (v := .int .i64 30) rfl ?_)
  refine sr_want rfl (j := 42) (d := 119) rfl rfl rfl (v := false) rfl rfl (ow_neq rfl rfl ?_)
  refine sr_op rfl rfl (ow_pick (v := .bool false) rfl rfl ?_)
  refine sr_op rfl rfl (ow_move (v := .bool false) rfl ?_)
  refine sr_want rfl (j := 46) (d := 123) rfl rfl rfl (v := false) rfl rfl (ow_move (v := .slice s9A 0 s9c) rfl ?_)
  refine sr_want rfl (j := 46) (d := 123) rfl rfl rfl (v := false) rfl rfl (ow_lenS sl53 rfl rfl ?_)
  refine sr_want rfl (j := 46) (d := 123) rfl rfl rfl (v := false) rfl rfl (ow_neq rfl rfl ?_)
  refine sr_op rfl rfl (ow_pick (v := .bool false) rfl rfl ?_)
  refine sr_nil ?_
  refine st_no rfl ?_
  refine st_skip ?_
  refine st_seq ?_
  refine st_region ?_
  refine sr_op rfl rfl (ow_move (v := .slice s1A 3 s1c) rfl ?_)
  refine sr_op rfl rfl (ow_move (v := .slice (some ⟨g2, 0, none⟩) 3 3) rfl ?_)
  have s1 := ((((((((s1.mono hI3).mono hI4).mono hI5).mono hI6).mono hI7).mono hI8).mono hI9).mono hI11)
  have hl3 := (((((((hl3.mono hI4).mono hI5).mono hI6).mono hI7).mono hI8).mono hI9).mono hI11)
  refine sr_op rfl rfl (ow_call en36 rfl (Equal_as H s1 hl3 (b := true) (by kernel_rfl)) ?_)
  rintro _ _ ⟨rfl, H⟩
  refine sr_op rfl rfl (ow_move (v := .bool true) rfl ?_)
  refine sr_want rfl (j := 3) (d := 131) rfl rfl rfl (v := true) rfl rfl (ow_move (v := .slice s5A 1 s5c) rfl ?_)
  refine sr_want rfl (j := 3) (d := 131) rfl rfl rfl (v := true) rfl rfl (ow_lenS sl53 rfl rfl ?_)
  refine sr_want rfl (j := 3) (d := 131) rfl rfl rfl (v := true) rfl rfl (ow_eql rfl rfl ?_)
  refine sr_op rfl rfl (ow_pick (v := .bool true) rfl rfl ?_)
  refine sr_op rfl rfl (ow_move (v := .bool true) rfl ?_)
  refine sr_want rfl (j := 8) (d := 136) rfl rfl rfl (v := true) rfl rfl (ow_move (v := .slice s5A 1 s5c) rfl ?_)
  have s5 := (((((s5.mono hI6).mono hI7).mono hI8).mono hI9).mono hI11)
  have he12 : bigL[0]? = some (mkTk 2 ⟨#[]⟩ 1099511627776 0) := rfl
  obtain ⟨b12, o12, us12, hA12, hat12, hul12, hr12⟩ := RepS.get s5 he12
  have d12 := hr12
  obtain ⟨rfl, d12_0, d12_1, d12_2, d12_3⟩ := tk_iff.1 hr12
  refine sr_want rfl (j := 8) (d := 136) rfl rfl rfl (v := true) rfl rfl (ow_indexAddrA sl53 ty64 hA12 rfl rfl (by decide) (by decide) (r := o12 + 0 * 4) rfl ?_)
  refine sr_want rfl (j := 8) (d := 136) rfl rfl rfl (v := true) rfl rfl (ow_fieldAddr fd64_2 ty3 rfl rfl (r := o12 + 0 * 4 + 2) rfl ?_)
  refine sr_want rfl (j := 8) (d := 136) rfl rfl rfl (v := true) rfl rfl (ow_loadI (v := .int .i64 1099511627776) ty3 H rfl (At.sub (vs := [.int .i64 1099511627776]) hat12 2 rfl) rfl rfl rfl ?_)
  refine sr_want rfl (j := 8) (d := 136) rfl rfl rfl (v := true) rfl rfl (ow_eql rfl rfl ?_)
  refine sr_op rfl rfl (ow_pick (v := .bool true) rfl rfl ?_)
  refine sr_op rfl rfl (ow_move (v := .bool true) rfl ?_)
  refine sr_want rfl (j := 15) (d := 143) rfl rfl rfl (v := true) rfl rfl (ow_move (v := .slice s6A 1 s6c) rfl ?_)
  refine sr_want rfl (j := 15) (d := 143) rfl rfl rfl (v := true) rfl rfl (ow_lenS sl53 rfl rfl ?_)
  refine sr_want rfl (j := 15) (d := 143) rfl rfl rfl (v := true) rfl rfl (ow_eql rfl rfl ?_)
  refine sr_op rfl rfl (ow_pick (v := .bool true) rfl rfl ?_)
  refine sr_op rfl rfl (ow_move (v := .bool true) rfl ?_)
  refine sr_want rfl (j := 20) (d := 148) rfl rfl rfl (v := true) rfl rfl (ow_move (v := .slice s6A 1 s6c) rfl ?_)
  have s6 := ((((s6.mono hI7).mono hI8).mono hI9).mono hI11)
  have he13 : aL[0]? = some (mkTk 1 ⟨#[97]⟩ 0 0) := rfl
  obtain ⟨b13, o13, us13, hA13, hat13, hul13, hr13⟩ := RepS.get s6 he13
  have d13 := hr13
  obtain ⟨rfl, d13_0, d13_1, d13_2, d13_3⟩ := tk_iff.1 hr13
  refine sr_want rfl (j := 20) (d := 148) rfl rfl rfl (v := true) rfl rfl (ow_indexAddrA sl53 ty64 hA13 rfl rfl (by decide) (by decide) (r := o13 + 0 * 4) rfl ?_)
  refine sr_want rfl (j := 20) (d := 148) rfl rfl rfl (v := true) rfl rfl (ow_fieldAddr fd64_1 ty9 rfl rfl (r := o13 + 0 * 4 + 1) rfl ?_)
  refine sr_want rfl (j := 20) (d := 148) rfl rfl rfl (v := true) rfl rfl (ow_loadI (v := .string ⟨#[97]⟩) ty9 H rfl (At.sub (vs := [.string ⟨#[97]⟩]) hat13 1 rfl) rfl rfl rfl ?_)
  refine sr_want rfl (j := 20) (d := 148) rfl rfl rfl (v := true) rfl rfl (ow_seq rfl rfl ?_)
  refine sr_op rfl rfl (ow_pick (v := .bool true) rfl rfl ?_)
  refine sr_op rfl rfl (ow_move (v := .bool true) rfl ?_)
  refine sr_want rfl (j := 27) (d := 155) rfl rfl rfl (v := true) rfl rfl (ow_move (v := .string ⟨#[97, 32, 61, 32, 49]⟩) rfl ?_)
  refine sr_want rfl (j := 27) (d := 155) rfl rfl rfl (v := true) rfl rfl (ow_seq rfl rfl ?_)
  refine sr_op rfl rfl (ow_pick (v := .bool true) rfl rfl ?_)
  refine sr_op rfl rfl (ow_move (v := .bool true) rfl ?_)
  refine sr_want rfl (j := 31) (d := 159) rfl rfl rfl (v := true) rfl rfl (ow_call en42 rfl (Name_as H ⟨#[66, 95, 49, 50]⟩ (by unfold S63; decide) (b := true) (by kernel_rfl)) ?_)
  rintro _ _ ⟨rfl, H⟩
  refine sr_op rfl rfl (ow_pick (v := .bool true) rfl rfl ?_)
  refine sr_op rfl rfl (ow_move (v := .bool true) rfl ?_)
  refine sr_want rfl (j := 34) (d := 162) rfl rfl rfl (v := true) rfl rfl (ow_call en42 rfl (Name_as H ⟨#[95, 49, 50]⟩ (by unfold S63; decide) (b := false) (by kernel_rfl)) ?_)
  rintro _ _ ⟨rfl, H⟩
  refine sr_want rfl (j := 34) (d := 162) rfl rfl rfl (v := true) rfl rfl (ow_not rfl ?_)
  refine sr_op rfl rfl (ow_pick (v := .bool !false) rfl rfl ?_)
  refine sr_op rfl rfl (ow_move (v := .bool !false) rfl ?_)
  refine sr_want rfl (j := 38) (d := 166) rfl rfl rfl (v := true) rfl rfl (ow_move (v := .slice s6A 1 s6c) rfl ?_)
  refine sr_want rfl (j := 38) (d := 166) rfl rfl rfl (v := true) rfl rfl (ow_move (v := .slice s8A 3 s8c) rfl ?_)
  have s8 := ((s8.mono hI9).mono hI11)
  refine sr_want rfl (j := 38) (d := 166) rfl rfl rfl (v := true) rfl rfl (ow_call en40 rfl (lexSame_as H s6 s8 (b := false) (by kernel_rfl)) ?_)
  rintro _ _ ⟨rfl, H⟩
  refine sr_want rfl (j := 38) (d := 166) rfl rfl rfl (v := true) rfl rfl (ow_not rfl ?_)
  refine sr_op rfl rfl (ow_pick (v := .bool !false) rfl rfl ?_)
  refine sr_op rfl rfl (ow_move (v := .bool !false) rfl ?_)
  refine sr_want rfl (j := 44) (d := 172) rfl rfl rfl (v := true) rfl rfl (ow_move (v := .slice s6A 1 s6c) rfl ?_)
  refine sr_want rfl (j := 44) (d := 172) rfl rfl rfl (v := true) rfl rfl (ow_build (ps := [(0, .int .i64 1), (1, .string ⟨#[97]⟩), (3, .int .i64 9)]) (v := .agg #[.int .i64 1, .string ⟨#[97]⟩, .int .i64 0, .int .i64 9]) rfl (fun _ => by kernel_rfl) ?_)
  refine sr_want rfl (j := 44) (d := 172) rfl rfl rfl (v := true) rfl rfl (ow_buildSlice H (e := 64) (ps := [(0, .agg #[.int .i64 1, .string ⟨#[97]⟩, .int .i64 0, .int .i64 9])]) rfl [.int .i64 1, .string ⟨#[97]⟩, .int .i64 0, .int .i64 9] (fun _ => by kernel_rfl) (fun g14 _ H => ?_))
  obtain ⟨I15, hI15, H, hl15⟩ := lit_done (enc := encTk) (sz := 4) (n := 1) [(mkTk 1 ⟨#[97]⟩ 0 9)] rfl (by omega) H ⟨((tk_iff (t := mkTk 1 ⟨#[97]⟩ 0 9)).2 ⟨rfl, i64_1, (by unfold S63 mkTk; decide), i64_0, (by constructor <;> decide)⟩), rfl, rfl⟩
  have s6 := (s6.mono hI15)
  refine sr_want rfl (j := 44) (d := 172) rfl rfl rfl (v := true) rfl rfl (ow_call en40 rfl (lexSame_as H s6 hl15 (b := true) (by kernel_rfl)) ?_)
  rintro _ _ ⟨rfl, H⟩
  refine sr_op rfl rfl (ow_pick (v := .bool true) rfl rfl ?_)
  refine sr_op rfl rfl (ow_assign (v := .bool true) rfl ?_)
  refine sr_nil ?_
  refine st_ret hb (hR _ _ (.bool true) (res_run (vs := [.bool true]) Tryd.results33 ⟨_, _, rfl, rfl, rfl⟩) ?_)
  exact ⟨_, rfl, rfl, (Hp.back H (((((((((hI1.trans hI3).trans hI4).trans hI5).trans hI6).trans hI7).trans hI8).trans hI9).trans hI11).trans hI15))⟩
end Go.Proofs.YtbbflenaeihmeaaDoor
