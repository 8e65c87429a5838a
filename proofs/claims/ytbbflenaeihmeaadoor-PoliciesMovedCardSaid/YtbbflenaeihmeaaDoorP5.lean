/-
  Walks: free names, distinct names, must, attempt.
-/
import Derived.Test.YtbbflenaeihmeaaDoorP4
set_option linter.unusedVariables false
set_option linter.unusedSimpArgs false
set_option maxRecDepth 10000
set_option maxHeartbeats 4000000
namespace Go.Proofs.YtbbflenaeihmeaaDoor
open Go Go.RowKit

def wordB (s : ByteArray) : Bool := decide (s = ⟨#[112, 111, 108, 105, 99, 121]⟩) || decide (s = ⟨#[109, 111, 100, 101]⟩) || decide (s = ⟨#[111, 108, 100]⟩) || decide (s = ⟨#[110, 101, 119]⟩) || decide (s = ⟨#[98, 111, 116, 104]⟩) || decide (s = ⟨#[101, 105, 116, 104, 101, 114]⟩) || decide (s = ⟨#[111, 102, 102, 105, 99, 101]⟩) || decide (s = ⟨#[107, 105, 110, 100]⟩) || decide (s = ⟨#[114, 117, 108, 101]⟩) || decide (s = ⟨#[116, 104, 105, 110, 107]⟩) || decide (s = ⟨#[99, 104, 97, 110, 103, 101]⟩) || decide (s = ⟨#[115, 111, 109, 101]⟩) || decide (s = ⟨#[119, 101, 105, 103, 104, 116]⟩) || decide (s = ⟨#[111, 102]⟩) || decide (s = ⟨#[117, 112, 116, 111]⟩) || decide (s = ⟨#[101, 108, 115, 101]⟩)
def freeB (s : ByteArray) : Bool := !wordB s && nameB s
def distF (l : List ByteArray) : List ByteArray → Int → Bool
  | [], _ => true
  | x :: r, i => (freeB x && decide (idx l x = i)) && distF l r (i + 1)
def distB (l : List ByteArray) : Bool := distF l l 0
theorem isFree_c {B I L w} (H : Hp B I w L) (s : ByteArray) (hs : S63 s) : Calls Tryd.prog 96 #[.string s] w (Rt fun r w' => r = .bool (freeB s) ∧ Hp B I w' L) := by
  refine calls_st (n := 23) Tryd.func96 rfl rfl rfl ?_
  intro G bF cs hb hfn hR hP
  simp only [ini]
  refine st_seq ?_
  refine st_region ?_
  refine sr_op rfl rfl (ow_assign (v := .bool false) rfl ?_)
  refine sr_nil ?_
  refine st_seq ?_
  refine st_seq ?_
  refine st_region ?_
  refine sr_op rfl rfl (ow_move (v := .string s) rfl ?_)
  refine sr_nil ?_
  refine st_block ?_
  refine st_seq ?_
  refine st_seq ?_
  refine st_region ?_
  refine sr_op rfl rfl (ow_seq rfl rfl ?_)
  refine sr_op rfl rfl (ow_assign (v := .bool (decide (s = ⟨#[112, 111, 108, 105, 99, 121]⟩))) rfl ?_)
  refine sr_nil ?_
  refine st_cond (decide (s = ⟨#[112, 111, 108, 105, 99, 121]⟩)) rfl (fun hc1 => ?_) (fun hc1 => ?_)
  · rw [hc1]
    refine st_skip ?_
    refine st_yes rfl ?_
    refine st_seq ?_
    refine st_region ?_
    refine sr_op rfl rfl (ow_assign (v := .bool false) rfl ?_)
    refine sr_nil ?_
    refine st_ret hb (hR _ _ (.bool false) (res_run (vs := [.bool false]) Tryd.results96 ⟨_, _, rfl, rfl, rfl⟩) ?_)
    exact ⟨_, rfl, by simp only [freeB, wordB, hc1, Bool.or_false, Bool.false_or, Bool.true_or, Bool.or_true, Bool.not_true, Bool.not_false, Bool.false_and, Bool.true_and], H⟩
  · refine st_seq ?_
    refine st_region ?_
    refine sr_op rfl rfl (ow_seq rfl rfl ?_)
    refine sr_op rfl rfl (ow_assign (v := .bool (decide (s = ⟨#[109, 111, 100, 101]⟩))) rfl ?_)
    refine sr_nil ?_
    refine st_cond (decide (s = ⟨#[109, 111, 100, 101]⟩)) rfl (fun hc2 => ?_) (fun hc2 => ?_)
    · rw [hc2]
      refine st_skip ?_
      refine st_yes rfl ?_
      refine st_seq ?_
      refine st_region ?_
      refine sr_op rfl rfl (ow_assign (v := .bool false) rfl ?_)
      refine sr_nil ?_
      refine st_ret hb (hR _ _ (.bool false) (res_run (vs := [.bool false]) Tryd.results96 ⟨_, _, rfl, rfl, rfl⟩) ?_)
      exact ⟨_, rfl, by simp only [freeB, wordB, hc1, hc2, Bool.or_false, Bool.false_or, Bool.true_or, Bool.or_true, Bool.not_true, Bool.not_false, Bool.false_and, Bool.true_and], H⟩
    · refine st_seq ?_
      refine st_region ?_
      refine sr_op rfl rfl (ow_seq rfl rfl ?_)
      refine sr_op rfl rfl (ow_assign (v := .bool (decide (s = ⟨#[111, 108, 100]⟩))) rfl ?_)
      refine sr_nil ?_
      refine st_cond (decide (s = ⟨#[111, 108, 100]⟩)) rfl (fun hc3 => ?_) (fun hc3 => ?_)
      · rw [hc3]
        refine st_skip ?_
        refine st_yes rfl ?_
        refine st_seq ?_
        refine st_region ?_
        refine sr_op rfl rfl (ow_assign (v := .bool false) rfl ?_)
        refine sr_nil ?_
        refine st_ret hb (hR _ _ (.bool false) (res_run (vs := [.bool false]) Tryd.results96 ⟨_, _, rfl, rfl, rfl⟩) ?_)
        exact ⟨_, rfl, by simp only [freeB, wordB, hc1, hc2, hc3, Bool.or_false, Bool.false_or, Bool.true_or, Bool.or_true, Bool.not_true, Bool.not_false, Bool.false_and, Bool.true_and], H⟩
      · refine st_seq ?_
        refine st_region ?_
        refine sr_op rfl rfl (ow_seq rfl rfl ?_)
        refine sr_op rfl rfl (ow_assign (v := .bool (decide (s = ⟨#[110, 101, 119]⟩))) rfl ?_)
        refine sr_nil ?_
        refine st_cond (decide (s = ⟨#[110, 101, 119]⟩)) rfl (fun hc4 => ?_) (fun hc4 => ?_)
        · rw [hc4]
          refine st_skip ?_
          refine st_yes rfl ?_
          refine st_seq ?_
          refine st_region ?_
          refine sr_op rfl rfl (ow_assign (v := .bool false) rfl ?_)
          refine sr_nil ?_
          refine st_ret hb (hR _ _ (.bool false) (res_run (vs := [.bool false]) Tryd.results96 ⟨_, _, rfl, rfl, rfl⟩) ?_)
          exact ⟨_, rfl, by simp only [freeB, wordB, hc1, hc2, hc3, hc4, Bool.or_false, Bool.false_or, Bool.true_or, Bool.or_true, Bool.not_true, Bool.not_false, Bool.false_and, Bool.true_and], H⟩
        · refine st_seq ?_
          refine st_region ?_
          refine sr_op rfl rfl (ow_seq rfl rfl ?_)
          refine sr_op rfl rfl (ow_assign (v := .bool (decide (s = ⟨#[98, 111, 116, 104]⟩))) rfl ?_)
          refine sr_nil ?_
          refine st_cond (decide (s = ⟨#[98, 111, 116, 104]⟩)) rfl (fun hc5 => ?_) (fun hc5 => ?_)
          · rw [hc5]
            refine st_skip ?_
            refine st_yes rfl ?_
            refine st_seq ?_
            refine st_region ?_
            refine sr_op rfl rfl (ow_assign (v := .bool false) rfl ?_)
            refine sr_nil ?_
            refine st_ret hb (hR _ _ (.bool false) (res_run (vs := [.bool false]) Tryd.results96 ⟨_, _, rfl, rfl, rfl⟩) ?_)
            exact ⟨_, rfl, by simp only [freeB, wordB, hc1, hc2, hc3, hc4, hc5, Bool.or_false, Bool.false_or, Bool.true_or, Bool.or_true, Bool.not_true, Bool.not_false, Bool.false_and, Bool.true_and], H⟩
          · refine st_seq ?_
            refine st_region ?_
            refine sr_op rfl rfl (ow_seq rfl rfl ?_)
            refine sr_op rfl rfl (ow_assign (v := .bool (decide (s = ⟨#[101, 105, 116, 104, 101, 114]⟩))) rfl ?_)
            refine sr_nil ?_
            refine st_cond (decide (s = ⟨#[101, 105, 116, 104, 101, 114]⟩)) rfl (fun hc6 => ?_) (fun hc6 => ?_)
            · rw [hc6]
              refine st_skip ?_
              refine st_yes rfl ?_
              refine st_seq ?_
              refine st_region ?_
              refine sr_op rfl rfl (ow_assign (v := .bool false) rfl ?_)
              refine sr_nil ?_
              refine st_ret hb (hR _ _ (.bool false) (res_run (vs := [.bool false]) Tryd.results96 ⟨_, _, rfl, rfl, rfl⟩) ?_)
              exact ⟨_, rfl, by simp only [freeB, wordB, hc1, hc2, hc3, hc4, hc5, hc6, Bool.or_false, Bool.false_or, Bool.true_or, Bool.or_true, Bool.not_true, Bool.not_false, Bool.false_and, Bool.true_and], H⟩
            · refine st_seq ?_
              refine st_region ?_
              refine sr_op rfl rfl (ow_seq rfl rfl ?_)
              refine sr_op rfl rfl (ow_assign (v := .bool (decide (s = ⟨#[111, 102, 102, 105, 99, 101]⟩))) rfl ?_)
              refine sr_nil ?_
              refine st_cond (decide (s = ⟨#[111, 102, 102, 105, 99, 101]⟩)) rfl (fun hc7 => ?_) (fun hc7 => ?_)
              · rw [hc7]
                refine st_skip ?_
                refine st_yes rfl ?_
                refine st_seq ?_
                refine st_region ?_
                refine sr_op rfl rfl (ow_assign (v := .bool false) rfl ?_)
                refine sr_nil ?_
                refine st_ret hb (hR _ _ (.bool false) (res_run (vs := [.bool false]) Tryd.results96 ⟨_, _, rfl, rfl, rfl⟩) ?_)
                exact ⟨_, rfl, by simp only [freeB, wordB, hc1, hc2, hc3, hc4, hc5, hc6, hc7, Bool.or_false, Bool.false_or, Bool.true_or, Bool.or_true, Bool.not_true, Bool.not_false, Bool.false_and, Bool.true_and], H⟩
              · refine st_seq ?_
                refine st_region ?_
                refine sr_op rfl rfl (ow_seq rfl rfl ?_)
                refine sr_op rfl rfl (ow_assign (v := .bool (decide (s = ⟨#[107, 105, 110, 100]⟩))) rfl ?_)
                refine sr_nil ?_
                refine st_cond (decide (s = ⟨#[107, 105, 110, 100]⟩)) rfl (fun hc8 => ?_) (fun hc8 => ?_)
                · rw [hc8]
                  refine st_skip ?_
                  refine st_yes rfl ?_
                  refine st_seq ?_
                  refine st_region ?_
                  refine sr_op rfl rfl (ow_assign (v := .bool false) rfl ?_)
                  refine sr_nil ?_
                  refine st_ret hb (hR _ _ (.bool false) (res_run (vs := [.bool false]) Tryd.results96 ⟨_, _, rfl, rfl, rfl⟩) ?_)
                  exact ⟨_, rfl, by simp only [freeB, wordB, hc1, hc2, hc3, hc4, hc5, hc6, hc7, hc8, Bool.or_false, Bool.false_or, Bool.true_or, Bool.or_true, Bool.not_true, Bool.not_false, Bool.false_and, Bool.true_and], H⟩
                · refine st_seq ?_
                  refine st_region ?_
                  refine sr_op rfl rfl (ow_seq rfl rfl ?_)
                  refine sr_op rfl rfl (ow_assign (v := .bool (decide (s = ⟨#[114, 117, 108, 101]⟩))) rfl ?_)
                  refine sr_nil ?_
                  refine st_cond (decide (s = ⟨#[114, 117, 108, 101]⟩)) rfl (fun hc9 => ?_) (fun hc9 => ?_)
                  · rw [hc9]
                    refine st_skip ?_
                    refine st_yes rfl ?_
                    refine st_seq ?_
                    refine st_region ?_
                    refine sr_op rfl rfl (ow_assign (v := .bool false) rfl ?_)
                    refine sr_nil ?_
                    refine st_ret hb (hR _ _ (.bool false) (res_run (vs := [.bool false]) Tryd.results96 ⟨_, _, rfl, rfl, rfl⟩) ?_)
                    exact ⟨_, rfl, by simp only [freeB, wordB, hc1, hc2, hc3, hc4, hc5, hc6, hc7, hc8, hc9, Bool.or_false, Bool.false_or, Bool.true_or, Bool.or_true, Bool.not_true, Bool.not_false, Bool.false_and, Bool.true_and], H⟩
                  · refine st_seq ?_
                    refine st_region ?_
                    refine sr_op rfl rfl (ow_seq rfl rfl ?_)
                    refine sr_op rfl rfl (ow_assign (v := .bool (decide (s = ⟨#[116, 104, 105, 110, 107]⟩))) rfl ?_)
                    refine sr_nil ?_
                    refine st_cond (decide (s = ⟨#[116, 104, 105, 110, 107]⟩)) rfl (fun hc10 => ?_) (fun hc10 => ?_)
                    · rw [hc10]
                      refine st_skip ?_
                      refine st_yes rfl ?_
                      refine st_seq ?_
                      refine st_region ?_
                      refine sr_op rfl rfl (ow_assign (v := .bool false) rfl ?_)
                      refine sr_nil ?_
                      refine st_ret hb (hR _ _ (.bool false) (res_run (vs := [.bool false]) Tryd.results96 ⟨_, _, rfl, rfl, rfl⟩) ?_)
                      exact ⟨_, rfl, by simp only [freeB, wordB, hc1, hc2, hc3, hc4, hc5, hc6, hc7, hc8, hc9, hc10, Bool.or_false, Bool.false_or, Bool.true_or, Bool.or_true, Bool.not_true, Bool.not_false, Bool.false_and, Bool.true_and], H⟩
                    · refine st_seq ?_
                      refine st_region ?_
                      refine sr_op rfl rfl (ow_seq rfl rfl ?_)
                      refine sr_op rfl rfl (ow_assign (v := .bool (decide (s = ⟨#[99, 104, 97, 110, 103, 101]⟩))) rfl ?_)
                      refine sr_nil ?_
                      refine st_cond (decide (s = ⟨#[99, 104, 97, 110, 103, 101]⟩)) rfl (fun hc11 => ?_) (fun hc11 => ?_)
                      · rw [hc11]
                        refine st_skip ?_
                        refine st_yes rfl ?_
                        refine st_seq ?_
                        refine st_region ?_
                        refine sr_op rfl rfl (ow_assign (v := .bool false) rfl ?_)
                        refine sr_nil ?_
                        refine st_ret hb (hR _ _ (.bool false) (res_run (vs := [.bool false]) Tryd.results96 ⟨_, _, rfl, rfl, rfl⟩) ?_)
                        exact ⟨_, rfl, by simp only [freeB, wordB, hc1, hc2, hc3, hc4, hc5, hc6, hc7, hc8, hc9, hc10, hc11, Bool.or_false, Bool.false_or, Bool.true_or, Bool.or_true, Bool.not_true, Bool.not_false, Bool.false_and, Bool.true_and], H⟩
                      · refine st_seq ?_
                        refine st_region ?_
                        refine sr_op rfl rfl (ow_seq rfl rfl ?_)
                        refine sr_op rfl rfl (ow_assign (v := .bool (decide (s = ⟨#[115, 111, 109, 101]⟩))) rfl ?_)
                        refine sr_nil ?_
                        refine st_cond (decide (s = ⟨#[115, 111, 109, 101]⟩)) rfl (fun hc12 => ?_) (fun hc12 => ?_)
                        · rw [hc12]
                          refine st_skip ?_
                          refine st_yes rfl ?_
                          refine st_seq ?_
                          refine st_region ?_
                          refine sr_op rfl rfl (ow_assign (v := .bool false) rfl ?_)
                          refine sr_nil ?_
                          refine st_ret hb (hR _ _ (.bool false) (res_run (vs := [.bool false]) Tryd.results96 ⟨_, _, rfl, rfl, rfl⟩) ?_)
                          exact ⟨_, rfl, by simp only [freeB, wordB, hc1, hc2, hc3, hc4, hc5, hc6, hc7, hc8, hc9, hc10, hc11, hc12, Bool.or_false, Bool.false_or, Bool.true_or, Bool.or_true, Bool.not_true, Bool.not_false, Bool.false_and, Bool.true_and], H⟩
                        · refine st_seq ?_
                          refine st_region ?_
                          refine sr_op rfl rfl (ow_seq rfl rfl ?_)
                          refine sr_op rfl rfl (ow_assign (v := .bool (decide (s = ⟨#[119, 101, 105, 103, 104, 116]⟩))) rfl ?_)
                          refine sr_nil ?_
                          refine st_cond (decide (s = ⟨#[119, 101, 105, 103, 104, 116]⟩)) rfl (fun hc13 => ?_) (fun hc13 => ?_)
                          · rw [hc13]
                            refine st_skip ?_
                            refine st_yes rfl ?_
                            refine st_seq ?_
                            refine st_region ?_
                            refine sr_op rfl rfl (ow_assign (v := .bool false) rfl ?_)
                            refine sr_nil ?_
                            refine st_ret hb (hR _ _ (.bool false) (res_run (vs := [.bool false]) Tryd.results96 ⟨_, _, rfl, rfl, rfl⟩) ?_)
                            exact ⟨_, rfl, by simp only [freeB, wordB, hc1, hc2, hc3, hc4, hc5, hc6, hc7, hc8, hc9, hc10, hc11, hc12, hc13, Bool.or_false, Bool.false_or, Bool.true_or, Bool.or_true, Bool.not_true, Bool.not_false, Bool.false_and, Bool.true_and], H⟩
                          · refine st_seq ?_
                            refine st_region ?_
                            refine sr_op rfl rfl (ow_seq rfl rfl ?_)
                            refine sr_op rfl rfl (ow_assign (v := .bool (decide (s = ⟨#[111, 102]⟩))) rfl ?_)
                            refine sr_nil ?_
                            refine st_cond (decide (s = ⟨#[111, 102]⟩)) rfl (fun hc14 => ?_) (fun hc14 => ?_)
                            · rw [hc14]
                              refine st_skip ?_
                              refine st_yes rfl ?_
                              refine st_seq ?_
                              refine st_region ?_
                              refine sr_op rfl rfl (ow_assign (v := .bool false) rfl ?_)
                              refine sr_nil ?_
                              refine st_ret hb (hR _ _ (.bool false) (res_run (vs := [.bool false]) Tryd.results96 ⟨_, _, rfl, rfl, rfl⟩) ?_)
                              exact ⟨_, rfl, by simp only [freeB, wordB, hc1, hc2, hc3, hc4, hc5, hc6, hc7, hc8, hc9, hc10, hc11, hc12, hc13, hc14, Bool.or_false, Bool.false_or, Bool.true_or, Bool.or_true, Bool.not_true, Bool.not_false, Bool.false_and, Bool.true_and], H⟩
                            · refine st_seq ?_
                              refine st_region ?_
                              refine sr_op rfl rfl (ow_seq rfl rfl ?_)
                              refine sr_op rfl rfl (ow_assign (v := .bool (decide (s = ⟨#[117, 112, 116, 111]⟩))) rfl ?_)
                              refine sr_nil ?_
                              refine st_cond (decide (s = ⟨#[117, 112, 116, 111]⟩)) rfl (fun hc15 => ?_) (fun hc15 => ?_)
                              · rw [hc15]
                                refine st_skip ?_
                                refine st_yes rfl ?_
                                refine st_seq ?_
                                refine st_region ?_
                                refine sr_op rfl rfl (ow_assign (v := .bool false) rfl ?_)
                                refine sr_nil ?_
                                refine st_ret hb (hR _ _ (.bool false) (res_run (vs := [.bool false]) Tryd.results96 ⟨_, _, rfl, rfl, rfl⟩) ?_)
                                exact ⟨_, rfl, by simp only [freeB, wordB, hc1, hc2, hc3, hc4, hc5, hc6, hc7, hc8, hc9, hc10, hc11, hc12, hc13, hc14, hc15, Bool.or_false, Bool.false_or, Bool.true_or, Bool.or_true, Bool.not_true, Bool.not_false, Bool.false_and, Bool.true_and], H⟩
                              · refine st_region ?_
                                refine sr_op rfl rfl (ow_seq rfl rfl ?_)
                                refine sr_op rfl rfl (ow_assign (v := .bool (decide (s = ⟨#[101, 108, 115, 101]⟩))) rfl ?_)
                                refine sr_nil ?_
                                refine st_cond (decide (s = ⟨#[101, 108, 115, 101]⟩)) rfl (fun hc16 => ?_) (fun hc16 => ?_)
                                · refine st_seq ?_
                                  refine st_region ?_
                                  refine sr_op rfl rfl (ow_assign (v := .bool false) rfl ?_)
                                  refine sr_nil ?_
                                  refine st_ret hb (hR _ _ (.bool false) (res_run (vs := [.bool false]) Tryd.results96 ⟨_, _, rfl, rfl, rfl⟩) ?_)
                                  exact ⟨_, rfl, by simp only [freeB, wordB, hc1, hc2, hc3, hc4, hc5, hc6, hc7, hc8, hc9, hc10, hc11, hc12, hc13, hc14, hc15, hc16, Bool.or_false, Bool.false_or, Bool.true_or, Bool.or_true, Bool.not_true, Bool.not_false, Bool.false_and, Bool.true_and], H⟩
                                · refine st_skip ?_
                                  refine st_inBlock ?_
                                  refine st_seq ?_
                                  refine st_region ?_
                                  refine sr_op rfl rfl (ow_move (v := .string s) rfl ?_)
                                  refine sr_op rfl rfl (ow_call en42 rfl (Name_c H s hs) ?_)
                                  rintro _ _ ⟨rfl, H⟩
                                  refine sr_op rfl rfl (ow_assign (v := .bool (nameB s)) rfl ?_)
                                  refine sr_nil ?_
                                  refine st_ret hb (hR _ _ (.bool (nameB s)) (res_run (vs := [.bool (nameB s)]) Tryd.results96 ⟨_, _, rfl, rfl, rfl⟩) ?_)
                                  exact ⟨_, rfl, by simp only [freeB, wordB, hc1, hc2, hc3, hc4, hc5, hc6, hc7, hc8, hc9, hc10, hc11, hc12, hc13, hc14, hc15, hc16, Bool.or_false, Bool.false_or, Bool.true_or, Bool.or_true, Bool.not_true, Bool.not_false, Bool.false_and, Bool.true_and], H⟩
theorem dist_yes {a b c : Bool} (h : (!a || !b) = false) : ((a && b) && c) = c := by
  cases a <;> cases b <;> first | rfl | cases h
theorem dist_no {a b : Bool} (h : (!a || !b) = true) : (a && b) = false := by
  cases a <;> cases b <;> first | rfl | cases h
theorem distinct_c {B I L w} (H : Hp B I w L) {l : List ByteArray} {v : Value} (hl : RepS encS I 1 l v) : Calls Tryd.prog 97 #[v, .func (.func 96) #[] #[]] w (Rt fun r w' => r = .bool (distB l) ∧ Hp B I w' L) := by
  obtain ⟨A, c, rfl, hlc, hcm, hl⟩ := hl.open_
  refine calls_st (n := 26) Tryd.func97 rfl rfl rfl ?_
  intro G bF cs hb hfn hR hP
  simp only [ini]
  refine st_seq ?_
  refine st_region ?_
  refine sr_op rfl rfl (ow_assign (v := .bool false) rfl ?_)
  refine sr_nil ?_
  refine st_seq ?_
  refine st_seq ?_
  refine st_region ?_
  refine sr_op rfl rfl (ow_move (v := .slice A l.length c) rfl ?_)
  refine sr_op rfl rfl (ow_lenS sl22 rfl rfl ?_)
  refine sr_op rfl rfl (ow_move (v := .int .i64 0) rfl ?_)
  refine sr_nil ?_
  refine st_block ?_
  refine st_loop ?_
  refine st_live [0, 1, 7, 8, 9] ?_
  refine st_ind (fun d_ m_ w_ => ∃ (i : Nat) (r_ : Sl), d_ = l.length - i ∧ m_ = (0, .slice A l.length c) :: (1, .func (.func 96) #[] #[]) :: (7, .slice A l.length c) :: (8, .int .i64 (l.length : Int)) :: (9, .int .i64 (i : Int)) :: r_ ∧ Hp B I w_ (L) ∧ i ≤ l.length ∧ distB l = distF l (l.drop i) (i : Int)) _ ⟨0, _, rfl, rfl, H, Nat.zero_le _, rfl⟩ ?_
  rintro _ _ _ ⟨i, r1, rfl, rfl, H, hi, hix⟩ ih2
  refine st_seq ?_
  refine st_region ?_
  refine sr_op rfl rfl (ow_lss rfl rfl ?_)
  refine sr_nil ?_
  refine st_seq ?_
  refine st_cond (decide ((i : Int) < (l.length : Int))) rfl (fun hc3 => ?_) (fun hc3 => ?_)
  · have hc3 := of_decide_eq_true hc3
    refine st_skip ?_
    refine st_seq ?_
    refine st_block ?_
    refine st_seq ?_
    refine st_region ?_
    refine sr_op rfl rfl (ow_move (v := .int .i64 (i : Int)) rfl ?_)
    obtain ⟨x4, he4⟩ : ∃ q_, l[i]? = some q_ := ⟨_, List.getElem?_eq_getElem (by omega)⟩
    obtain ⟨b4, o4, us4, hA4, hat4, hul4, hr4⟩ := RepS.get hl he4
    obtain ⟨rfl, x463⟩ := s_iff.1 hr4
    refine sr_op rfl rfl (ow_indexAddrA sl22 ty9 hA4 rfl rfl (by omega) (by omega) (r := o4 + i * 1) rfl ?_)
    refine sr_op rfl rfl (ow_loadI (v := .string x4) ty9 H rfl hat4 rfl rfl rfl ?_)
    refine sr_op rfl rfl (ow_assign (v := .int .i64 (i : Int)) rfl ?_)
    refine sr_op rfl rfl (ow_assign (v := .string x4) rfl ?_)
    refine sr_nil ?_
    refine st_seq ?_
    refine st_region ?_
    refine sr_op rfl rfl (ow_move (v := .func (.func 96) #[] #[]) rfl ?_)
    refine sr_op rfl rfl (ow_move (v := .string x4) rfl ?_)
    refine sr_op rfl rfl (ow_callV en96 (first := []) (cap := []) rfl rfl (isFree_c H x4 x463) ?_)
    rintro _ _ ⟨rfl, H⟩
    refine sr_op rfl rfl (ow_not rfl ?_)
    refine sr_op rfl rfl (ow_move (v := .bool (!(freeB x4))) rfl ?_)
    refine sr_cut 6 (fun m_ w_ => ∃ (r_ : Sl) (v_ : Bool), m_ = (24, .bool v_) :: (0, .slice A l.length c) :: (1, .func (.func 96) #[] #[]) :: (7, .slice A l.length c) :: (8, .int .i64 (l.length : Int)) :: (9, .int .i64 (i : Int)) :: r_ ∧ Hp B I w_ (L) ∧ v_ = ((!(freeB x4)) || (!decide (idx l x4 = (i : Int))))) (fun again => ?_) ?_
    · rcases hg : !(freeB x4) with _ | _
      · refine sr_want rfl (j := 4) (d := 18) rfl rfl rfl (v := false) rfl rfl (ow_move (v := .slice A l.length c) rfl ?_)
        refine sr_want rfl (j := 4) (d := 18) rfl rfl rfl (v := false) rfl rfl (ow_move (v := .string x4) rfl ?_)
        refine sr_want rfl (j := 4) (d := 18) rfl rfl rfl (v := false) rfl rfl (ow_call en100 rfl (index_c H hl x4) ?_)
        rintro _ _ ⟨rfl, H⟩
        refine sr_want rfl (j := 4) (d := 18) rfl rfl rfl (v := false) rfl rfl (ow_move (v := .int .i64 (i : Int)) rfl ?_)
        refine sr_want rfl (j := 4) (d := 18) rfl rfl rfl (v := false) rfl rfl (ow_neq rfl rfl ?_)
        refine sr_op rfl rfl (ow_pick (v := .bool (!decide (idx l x4 = (i : Int)))) rfl rfl ?_)
        exact sr_live [24, 0, 1, 7, 8, 9] (again _ _ ⟨_, _, rfl, H, by rw [hg] <;> rfl⟩)
      · refine sr_pass rfl (j := 4) (d := 18) rfl rfl rfl (u := true) (v := false) rfl rfl ?_
        refine sr_pass rfl (j := 4) (d := 18) rfl rfl rfl (u := true) (v := false) rfl rfl ?_
        refine sr_pass rfl (j := 4) (d := 18) rfl rfl rfl (u := true) (v := false) rfl rfl ?_
        refine sr_pass rfl (j := 4) (d := 18) rfl rfl rfl (u := true) (v := false) rfl rfl ?_
        refine sr_pass rfl (j := 4) (d := 18) rfl rfl rfl (u := true) (v := false) rfl rfl ?_
        refine sr_op rfl rfl (ow_pick (v := .bool true) rfl rfl ?_)
        exact sr_live [24, 0, 1, 7, 8, 9] (again _ _ ⟨_, _, rfl, H, by rw [hg] <;> rfl⟩)
    rintro _ _ ⟨r, _, rfl, H, rfl⟩
    refine sr_nil ?_
    refine st_cond ((!(freeB x4)) || (!decide (idx l x4 = (i : Int)))) rfl (fun hc5 => ?_) (fun hc5 => ?_)
    · refine st_seq ?_
      refine st_region ?_
      refine sr_op rfl rfl (ow_assign (v := .bool false) rfl ?_)
      refine sr_nil ?_
      refine st_ret hb (hR _ _ (.bool false) (res_run (vs := [.bool false]) Tryd.results97 ⟨_, _, rfl, rfl, rfl⟩) ?_)
      exact ⟨_, rfl, by rw [hix, drop_some he4, distF, dist_no hc5, Bool.false_and], H⟩
    · refine st_skip ?_
      refine st_inBlock ?_
      refine st_region ?_
      refine sr_op rfl rfl (ow_add (r := ((i + 1 : Nat) : Int)) rfl rfl (inc_i64 (by omega)) ?_)
      refine sr_op rfl rfl (ow_move (v := .int .i64 ((i + 1 : Nat) : Int)) rfl ?_)
      refine sr_nil ?_
      exact st_inLoop (st_live [0, 1, 7, 8, 9] (ih2 _ _ _ (by omega) ⟨i + 1, _, rfl, rfl, H, by omega, by rw [hix, drop_some he4, distF, dist_yes hc5]; rfl⟩))
  · have hc3 := of_decide_eq_false hc3
    refine st_exit rfl ?_
    refine st_seq ?_
    refine st_region ?_
    refine sr_op rfl rfl (ow_assign (v := .bool true) rfl ?_)
    refine sr_nil ?_
    refine st_ret hb (hR _ _ (.bool true) (res_run (vs := [.bool true]) Tryd.results97 ⟨_, _, rfl, rfl, rfl⟩) ?_)
    have : l.drop i = [] := List.drop_of_length_le (by omega)
    exact ⟨_, rfl, by rw [hix, this]; rfl, H⟩
theorem must_c {B I L w} (H : Hp B I w L) (c : Bool) (e : Int) : Calls Tryd.prog 93 #[.bool c, .int .i64 e] w (Rp (fun r w' => r = .tuple #[] ∧ c = true ∧ Hp B I w' L) (fun ch w' => c = false ∧ ch = stopV e ∧ Hp B I w' L)) := by
  refine calls_st (n := 9) Tryd.func93 rfl rfl rfl ?_
  intro G bF cs hb hfn hR hP
  simp only [ini]
  refine st_seq ?_
  refine st_region ?_
  refine sr_op rfl rfl (ow_move (v := .bool c) rfl ?_)
  refine sr_op rfl rfl (ow_not rfl ?_)
  refine sr_nil ?_
  refine st_cond (!c) rfl (fun hc1 => ?_) (fun hc1 => ?_)
  · have hc1 := bnt hc1
    refine st_region ?_
    refine sr_op rfl rfl (ow_move (v := .int .i64 e) rfl ?_)
    refine sr_op rfl rfl (ow_build (ps := [(0, .int .i64 e)]) (v := .agg #[.int .i64 e]) rfl (fun _ => by kernel_rfl) ?_)
    refine sr_op rfl rfl (ow_iface (v := .agg #[.int .i64 e]) Tryd.underlying102 rfl rfl ?_)
    refine sr_op rfl rfl (ow_panic rfl ?_)
    exact (hP _ _ ⟨hc1, rfl, H⟩).one
  · have hc1 := bnf hc1
    refine st_skip ?_
    refine st_end hb (hR _ _ (.tuple #[]) (res_run (vs := []) Tryd.results93 rfl) ?_)
    exact ⟨rfl, hc1, H⟩
theorem catch_ret {B I L w} {g : Nat} (x : Int) (H : Hp B I w ((g, Ob [.int .i64 x] 31) :: L)) : CallsD Tryd.prog 92 #[.pointer (some ⟨g, 0, none⟩)] .returning w (fun q u w' => ∃ v, q = .returned v ∧ u = .returning ∧ Hp B I w' ((g, Ob [.int .i64 x] 31) :: L)) := by
  refine callsD_st (n := 17) Tryd.func92 rfl rfl rfl ?_
  intro G bF c0 cs hb hk hR
  simp only [ini]
  refine st_seq ?_
  refine st_region ?_
  refine sr_recover_none hb hk ?_
  refine sr_op rfl rfl (ow_assign (v := .nilIface) rfl ?_)
  refine sr_nil ?_
  refine st_seq ?_
  refine st_region ?_
  refine sr_op rfl rfl (ow_move (v := .nilIface) rfl ?_)
  refine sr_op rfl rfl (ow_neqNil0 Tryd.underlying20 rfl ?_)
  refine sr_nil ?_
  refine st_no rfl ?_
  refine st_skip ?_
  exact st_end hb (hR _ _ _ _ (res_run (vs := []) Tryd.results92 rfl) ⟨_, rfl, rfl, H.drop 0⟩)
theorem catch_pan {B I L w} {g : Nat} (x e : Int) (H : Hp B I w ((g, Ob [.int .i64 x] 31) :: L)) : CallsD Tryd.prog 92 #[.pointer (some ⟨g, 0, none⟩)] (.panicking (stopV e)) w (fun q u w' => ∃ v, q = .returned v ∧ u = .panicking [{ v := .iface 102 (.agg #[.int .i64 e]), recovered := true }] ∧ Hp B I w' ((g, Ob [.int .i64 e] 31) :: L)) := by
  unfold stopV
  refine callsD_st (n := 17) Tryd.func92 rfl rfl rfl ?_
  intro G bF c0 cs hb hk hR
  simp only [ini]
  refine st_seq ?_
  refine st_region ?_
  refine sr_recover hb hk ?_
  refine sr_op rfl rfl (ow_assign (v := .iface 102 (.agg #[.int .i64 e])) rfl ?_)
  refine sr_nil ?_
  refine st_seq ?_
  refine st_region ?_
  refine sr_op rfl rfl (ow_move (v := .iface 102 (.agg #[.int .i64 e])) rfl ?_)
  refine sr_op rfl rfl (ow_neqNil1 Tryd.underlying20 rfl ?_)
  refine sr_nil ?_
  refine st_yes rfl ?_
  refine st_seq ?_
  refine st_region ?_
  refine sr_op rfl rfl (ow_move (v := .iface 102 (.agg #[.int .i64 e])) rfl ?_)
  refine sr_op rfl rfl (ow_assert2 Tryd.underlying102 rfl rfl ?_)
  refine sr_op rfl rfl (ow_move (v := .tuple #[.agg #[.int .i64 e], .bool true]) rfl ?_)
  refine sr_op rfl rfl (ow_extract (v := .agg #[.int .i64 e]) rfl rfl ?_)
  refine sr_op rfl rfl (ow_extract (v := .bool true) rfl rfl ?_)
  refine sr_op rfl rfl (ow_alloc ty102 H [.int .i64 0] rfl (fun g1 _ H => ?_))
  refine sr_op rfl rfl (ow_store ty102 H rfl (v := .agg #[.int .i64 e]) rfl [.int .i64 e] rfl rfl rfl 0 rfl rfl (fun _ H => ?_))
  refine sr_op rfl rfl (ow_assign (v := .bool true) rfl ?_)
  refine sr_nil ?_
  refine st_seq ?_
  refine st_seq ?_
  refine st_region ?_
  refine sr_op rfl rfl (ow_move (v := .bool true) rfl ?_)
  refine sr_op rfl rfl (ow_not rfl ?_)
  refine sr_nil ?_
  refine st_no rfl ?_
  refine st_skip ?_
  refine st_region ?_
  refine sr_op rfl rfl (ow_fieldAddr fd102_0 ty31 rfl rfl (r := 0) rfl ?_)
  refine sr_op rfl rfl (ow_load (v := .int .i64 e) ty31 H rfl 0 rfl rfl rfl rfl ?_)
  refine sr_op rfl rfl (ow_store ty31 H rfl (v := .int .i64 e) rfl [.int .i64 e] rfl rfl rfl 1 rfl rfl (fun _ H => ?_))
  refine sr_nil ?_
  exact st_end hb (hR _ _ _ _ (res_run (vs := []) Tryd.results92 rfl) ⟨_, rfl, rfl, H.drop 1⟩)
theorem attempt_c {B I L w} (H : Hp B I w L) {fq : FuncId} {cap : List Value} (hE : Ent Tryd.prog fq) (e : Int)
    (hc : ∀ g w, Hp B I w ((g, Ob [.int .i64 0] 31) :: L) → Calls Tryd.prog fq cap.toArray w (fun q w' => ∃ I', Le I I' ∧ Hp B I' w' ((g, Ob [.int .i64 0] 31) :: L) ∧ ((∃ v, q = .returned v ∧ e = 0) ∨ q = .panicked (stopV e)))) :
    Calls Tryd.prog 56 #[.func (.func fq) #[] cap.toArray] w (Rt fun r w' => r = .int .i64 e ∧ ∃ I', Le I I' ∧ Hp B I' w' L) := by
  refine calls_st (n := 6) Tryd.func56 rfl rfl rfl ?_
  intro G bF cs hb hfn hR hP
  simp only [ini]
  refine st_seq ?_
  refine st_region ?_
  refine sr_op rfl rfl (ow_alloc ty31 H [.int .i64 0] rfl (fun g1 _ H => ?_))
  refine sr_nil ?_
  refine st_seq ?_
  refine st_region ?_
  refine sr_op rfl rfl (ow_makeFunc (fv := []) (cv := [.pointer (some ⟨g1, 0, none⟩)]) rfl rfl ?_)
  refine sr_defer hb (cap := [.pointer (some ⟨g1, 0, none⟩)]) rfl ?_
  refine sr_nil ?_
  refine st_seq ?_
  refine st_region ?_
  refine sr_op rfl rfl (ow_move (v := .func (.func fq) #[] cap.toArray) rfl ?_)
  refine sr_op rfl rfl (ow_enter (run_callV hE (first := []) (cap := cap) rfl rfl) (hc _ _ H) ?_ ?_ (fun w9 h => by obtain ⟨_, _, _, ⟨_, h, _⟩ | h⟩ := h <;> cases h))
  rotate_left
  · rintro ch w9 ⟨I2, hI2, H, ⟨_, h, _⟩ | h⟩
    · cases h
    cases h
    refine pk_defer en92 (u' := .panicking [{ v := .iface 102 (.agg #[.int .i64 e]), recovered := true }]) rfl (CallsD.mono' (catch_pan 0 e H) ?_)
    rintro _ _ w8 ⟨v, rfl, rfl, H⟩
    exact ⟨v, rfl, rfl, hR _ _ (.int .i64 e) (res_run (vs := [.int .i64 e]) Tryd.results56 ⟨_, _, rfl, resV_own (v := .int .i64 e) ty31 H rfl 0 rfl rfl rfl rfl, rfl⟩) ⟨_, rfl, rfl, I2, hI2, H.tail⟩⟩
  rintro v9 w9 ⟨I2, hI2, H, ⟨_, _, rfl⟩ | h⟩
  rotate_left
  · cases h
  refine sr_nil ?_
  refine st_seq ?_
  refine st_region ?_
  refine sr_op rfl rfl (ow_store ty31 H rfl (v := .int .i64 0) rfl [.int .i64 0] rfl rfl rfl 0 rfl rfl (fun _ H => ?_))
  refine sr_nil ?_
  refine st_ret hb (rn_defer en92 (CallsD.mono' (catch_ret 0 H) ?_))
  rintro _ _ w8 ⟨v, rfl, rfl, H⟩
  exact ⟨v, rfl, rfl, hR _ _ (.int .i64 0) (res_run (vs := [.int .i64 0]) Tryd.results56 ⟨_, _, rfl, resV_own (v := .int .i64 0) ty31 H rfl 0 rfl rfl rfl rfl, rfl⟩) ⟨_, rfl, rfl, I2, hI2, H.tail⟩⟩
end Go.Proofs.YtbbflenaeihmeaaDoor
