/-
  Walks: the reference of policies, its smaller functions.
-/
import Derived.Test.YtbbflenaeihmeaaDoorP10
set_option linter.unusedVariables false
set_option linter.unusedSimpArgs false
set_option maxRecDepth 10000
set_option maxHeartbeats 4000000
namespace Go.Proofs.YtbbflenaeihmeaaDoor
open Go Go.RowKit

theorem refIndex_c {B I L w} (H : Hp B I w L) {l : List ByteArray} {v : Value} (hl : RepS encS I 1 l v) (s : ByteArray) : Calls Tryd.prog 106 #[v, .string s] w (Rt fun r w' => r = .int .i64 (idx l s) ∧ Hp B I w' L) := by
  obtain ⟨A, c, rfl, hlc, hcm, hl⟩ := hl.open_
  refine calls_st (n := 19) Tryd.func106 rfl rfl rfl ?_
  intro G bF cs hb hfn hR hP
  simp only [ini]
  refine st_seq ?_
  refine st_region ?_
  refine sr_op rfl rfl (ow_assign (v := .int .i64 0) rfl ?_)
  refine sr_nil ?_
  refine st_seq ?_
  refine st_seq ?_
  refine st_region ?_
  refine sr_op rfl rfl (ow_assign (v := .int .i64 0) rfl ?_)
  refine sr_nil ?_
  refine st_block ?_
  refine st_loop ?_
  refine st_live [0, 1, 5] ?_
  refine st_ind (fun d_ m_ w_ => ∃ (i : Nat) (r_ : Sl), d_ = l.length - i ∧ m_ = (0, .slice A l.length c) :: (1, .string s) :: (5, .int .i64 (i : Int)) :: r_ ∧ Hp B I w_ (L) ∧ i ≤ l.length ∧ idx l s = ixOf (l.drop i) s (i : Int)) _ ⟨0, _, rfl, rfl, H, Nat.zero_le _, rfl⟩ ?_
  rintro _ _ _ ⟨i, r1, rfl, rfl, H, hi, hix⟩ ih2
  refine st_seq ?_
  refine st_seq ?_
  refine st_region ?_
  refine sr_op rfl rfl (ow_move (v := .int .i64 (i : Int)) rfl ?_)
  refine sr_op rfl rfl (ow_move (v := .slice A l.length c) rfl ?_)
  refine sr_op rfl rfl (ow_lenS sl22 rfl rfl ?_)
  refine sr_op rfl rfl (ow_lss rfl rfl ?_)
  refine sr_nil ?_
  refine st_cond (decide ((i : Int) < (l.length : Int))) rfl (fun hc3 => ?_) (fun hc3 => ?_)
  · have hc3 := of_decide_eq_true hc3
    refine st_skip ?_
    refine st_seq ?_
    refine st_block ?_
    refine st_seq ?_
    refine st_region ?_
    refine sr_op rfl rfl (ow_move (v := .slice A l.length c) rfl ?_)
    refine sr_op rfl rfl (ow_move (v := .int .i64 (i : Int)) rfl ?_)
    obtain ⟨x4, he4⟩ : ∃ q_, l[i]? = some q_ := ⟨_, List.getElem?_eq_getElem (by omega)⟩
    obtain ⟨b4, o4, us4, hA4, hat4, hul4, hr4⟩ := RepS.get hl he4
    obtain ⟨rfl, x463⟩ := s_iff.1 hr4
    refine sr_op rfl rfl (ow_indexAddrA sl22 ty9 hA4 rfl rfl (by omega) (by omega) (r := o4 + i * 1) rfl ?_)
    refine sr_op rfl rfl (ow_loadI (v := .string x4) ty9 H rfl hat4 rfl rfl rfl ?_)
    refine sr_op rfl rfl (ow_move (v := .string s) rfl ?_)
    refine sr_op rfl rfl (ow_seq rfl rfl ?_)
    refine sr_nil ?_
    refine st_cond (decide (x4 = s)) rfl (fun hc5 => ?_) (fun hc5 => ?_)
    · have hc5 := of_decide_eq_true hc5
      subst hc5
      refine st_seq ?_
      refine st_region ?_
      refine sr_op rfl rfl (ow_move (v := .int .i64 (i : Int)) rfl ?_)
      refine sr_op rfl rfl (ow_assign (v := .int .i64 (i : Int)) rfl ?_)
      refine sr_nil ?_
      refine st_ret hb (hR _ _ (.int .i64 (i : Int)) (res_run (vs := [.int .i64 (i : Int)]) Tryd.results106 ⟨_, _, rfl, rfl, rfl⟩) ?_)
      refine ⟨_, rfl, ?_, H⟩
      rw [hix, drop_some he4]
      simp [ixOf]
    · have hne := of_decide_eq_false hc5
      refine st_skip ?_
      refine st_inBlock ?_
      refine st_region ?_
      refine sr_op rfl rfl (ow_move (v := .int .i64 (i : Int)) rfl ?_)
      refine sr_op rfl rfl (ow_add (r := ((i + 1 : Nat) : Int)) rfl rfl (inc_i64 (by omega)) ?_)
      refine sr_op rfl rfl (ow_assign (v := .int .i64 ((i + 1 : Nat) : Int)) rfl ?_)
      refine sr_nil ?_
      exact st_inLoop (st_live [0, 1, 5] (ih2 _ _ _ (by omega) ⟨i + 1, _, rfl, rfl, H, by omega, by rw [hix, drop_some he4]; simp only [ixOf]; rw [if_neg hne]; rfl⟩))
  · have hc3 := of_decide_eq_false hc3
    refine st_exit rfl ?_
    refine st_seq ?_
    refine st_region ?_
    refine sr_op rfl rfl (ow_assign (v := .int .i64 (-1)) rfl ?_)
    refine sr_nil ?_
    refine st_ret hb (hR _ _ (.int .i64 (-1)) (res_run (vs := [.int .i64 (-1)]) Tryd.results106 ⟨_, _, rfl, rfl, rfl⟩) ?_)
    refine ⟨_, rfl, ?_, H⟩
    have : l.drop i = [] := List.drop_of_length_le (by omega)
    rw [hix, this]
    rfl
theorem Word_c {B I L w} (H : Hp B I w L) (s : ByteArray) : Calls Tryd.prog 118 #[.string s] w (Rt fun r w' => r = .bool (wordB s) ∧ Hp B I w' L) := by
  refine calls_st (n := 21) Tryd.func118 rfl rfl rfl ?_
  intro G bF cs hb hfn hR hP
  simp only [ini]
  refine st_seq ?_
  refine st_region ?_
  refine sr_op rfl rfl (ow_assign (v := .bool false) rfl ?_)
  refine sr_nil ?_
  refine st_seq ?_
  refine st_seq ?_
  refine st_region ?_
  refine sr_op rfl rfl (ow_move (v := .string s) rfl ?_)
  refine sr_nil ?_
  refine st_block ?_
  refine st_seq ?_
  refine st_seq ?_
  refine st_region ?_
  refine sr_op rfl rfl (ow_seq rfl rfl ?_)
  refine sr_op rfl rfl (ow_assign (v := .bool (decide (s = ⟨#[112, 111, 108, 105, 99, 121]⟩))) rfl ?_)
  refine sr_nil ?_
  refine st_cond (decide (s = ⟨#[112, 111, 108, 105, 99, 121]⟩)) rfl (fun hc1 => ?_) (fun hc1 => ?_)
  · rw [hc1]
    refine st_skip ?_
    refine st_yes rfl ?_
    refine st_seq ?_
    refine st_region ?_
    refine sr_op rfl rfl (ow_assign (v := .bool true) rfl ?_)
    refine sr_nil ?_
    refine st_ret hb (hR _ _ (.bool true) (res_run (vs := [.bool true]) Tryd.results118 ⟨_, _, rfl, rfl, rfl⟩) ?_)
    exact ⟨_, rfl, by simp only [wordB, hc1, Bool.or_false, Bool.false_or, Bool.true_or, Bool.or_true, Bool.not_true, Bool.not_false, Bool.false_and, Bool.true_and], H⟩
  · refine st_seq ?_
    refine st_region ?_
    refine sr_op rfl rfl (ow_seq rfl rfl ?_)
    refine sr_op rfl rfl (ow_assign (v := .bool (decide (s = ⟨#[109, 111, 100, 101]⟩))) rfl ?_)
    refine sr_nil ?_
    refine st_cond (decide (s = ⟨#[109, 111, 100, 101]⟩)) rfl (fun hc2 => ?_) (fun hc2 => ?_)
    · rw [hc2]
      refine st_skip ?_
      refine st_yes rfl ?_
      refine st_seq ?_
      refine st_region ?_
      refine sr_op rfl rfl (ow_assign (v := .bool true) rfl ?_)
      refine sr_nil ?_
      refine st_ret hb (hR _ _ (.bool true) (res_run (vs := [.bool true]) Tryd.results118 ⟨_, _, rfl, rfl, rfl⟩) ?_)
      exact ⟨_, rfl, by simp only [wordB, hc1, hc2, Bool.or_false, Bool.false_or, Bool.true_or, Bool.or_true, Bool.not_true, Bool.not_false, Bool.false_and, Bool.true_and], H⟩
    · refine st_seq ?_
      refine st_region ?_
      refine sr_op rfl rfl (ow_seq rfl rfl ?_)
      refine sr_op rfl rfl (ow_assign (v := .bool (decide (s = ⟨#[111, 108, 100]⟩))) rfl ?_)
      refine sr_nil ?_
      refine st_cond (decide (s = ⟨#[111, 108, 100]⟩)) rfl (fun hc3 => ?_) (fun hc3 => ?_)
      · rw [hc3]
        refine st_skip ?_
        refine st_yes rfl ?_
        refine st_seq ?_
        refine st_region ?_
        refine sr_op rfl rfl (ow_assign (v := .bool true) rfl ?_)
        refine sr_nil ?_
        refine st_ret hb (hR _ _ (.bool true) (res_run (vs := [.bool true]) Tryd.results118 ⟨_, _, rfl, rfl, rfl⟩) ?_)
        exact ⟨_, rfl, by simp only [wordB, hc1, hc2, hc3, Bool.or_false, Bool.false_or, Bool.true_or, Bool.or_true, Bool.not_true, Bool.not_false, Bool.false_and, Bool.true_and], H⟩
      · refine st_seq ?_
        refine st_region ?_
        refine sr_op rfl rfl (ow_seq rfl rfl ?_)
        refine sr_op rfl rfl (ow_assign (v := .bool (decide (s = ⟨#[110, 101, 119]⟩))) rfl ?_)
        refine sr_nil ?_
        refine st_cond (decide (s = ⟨#[110, 101, 119]⟩)) rfl (fun hc4 => ?_) (fun hc4 => ?_)
        · rw [hc4]
          refine st_skip ?_
          refine st_yes rfl ?_
          refine st_seq ?_
          refine st_region ?_
          refine sr_op rfl rfl (ow_assign (v := .bool true) rfl ?_)
          refine sr_nil ?_
          refine st_ret hb (hR _ _ (.bool true) (res_run (vs := [.bool true]) Tryd.results118 ⟨_, _, rfl, rfl, rfl⟩) ?_)
          exact ⟨_, rfl, by simp only [wordB, hc1, hc2, hc3, hc4, Bool.or_false, Bool.false_or, Bool.true_or, Bool.or_true, Bool.not_true, Bool.not_false, Bool.false_and, Bool.true_and], H⟩
        · refine st_seq ?_
          refine st_region ?_
          refine sr_op rfl rfl (ow_seq rfl rfl ?_)
          refine sr_op rfl rfl (ow_assign (v := .bool (decide (s = ⟨#[98, 111, 116, 104]⟩))) rfl ?_)
          refine sr_nil ?_
          refine st_cond (decide (s = ⟨#[98, 111, 116, 104]⟩)) rfl (fun hc5 => ?_) (fun hc5 => ?_)
          · rw [hc5]
            refine st_skip ?_
            refine st_yes rfl ?_
            refine st_seq ?_
            refine st_region ?_
            refine sr_op rfl rfl (ow_assign (v := .bool true) rfl ?_)
            refine sr_nil ?_
            refine st_ret hb (hR _ _ (.bool true) (res_run (vs := [.bool true]) Tryd.results118 ⟨_, _, rfl, rfl, rfl⟩) ?_)
            exact ⟨_, rfl, by simp only [wordB, hc1, hc2, hc3, hc4, hc5, Bool.or_false, Bool.false_or, Bool.true_or, Bool.or_true, Bool.not_true, Bool.not_false, Bool.false_and, Bool.true_and], H⟩
          · refine st_seq ?_
            refine st_region ?_
            refine sr_op rfl rfl (ow_seq rfl rfl ?_)
            refine sr_op rfl rfl (ow_assign (v := .bool (decide (s = ⟨#[101, 105, 116, 104, 101, 114]⟩))) rfl ?_)
            refine sr_nil ?_
            refine st_cond (decide (s = ⟨#[101, 105, 116, 104, 101, 114]⟩)) rfl (fun hc6 => ?_) (fun hc6 => ?_)
            · rw [hc6]
              refine st_skip ?_
              refine st_yes rfl ?_
              refine st_seq ?_
              refine st_region ?_
              refine sr_op rfl rfl (ow_assign (v := .bool true) rfl ?_)
              refine sr_nil ?_
              refine st_ret hb (hR _ _ (.bool true) (res_run (vs := [.bool true]) Tryd.results118 ⟨_, _, rfl, rfl, rfl⟩) ?_)
              exact ⟨_, rfl, by simp only [wordB, hc1, hc2, hc3, hc4, hc5, hc6, Bool.or_false, Bool.false_or, Bool.true_or, Bool.or_true, Bool.not_true, Bool.not_false, Bool.false_and, Bool.true_and], H⟩
            · refine st_seq ?_
              refine st_region ?_
              refine sr_op rfl rfl (ow_seq rfl rfl ?_)
              refine sr_op rfl rfl (ow_assign (v := .bool (decide (s = ⟨#[111, 102, 102, 105, 99, 101]⟩))) rfl ?_)
              refine sr_nil ?_
              refine st_cond (decide (s = ⟨#[111, 102, 102, 105, 99, 101]⟩)) rfl (fun hc7 => ?_) (fun hc7 => ?_)
              · rw [hc7]
                refine st_skip ?_
                refine st_yes rfl ?_
                refine st_seq ?_
                refine st_region ?_
                refine sr_op rfl rfl (ow_assign (v := .bool true) rfl ?_)
                refine sr_nil ?_
                refine st_ret hb (hR _ _ (.bool true) (res_run (vs := [.bool true]) Tryd.results118 ⟨_, _, rfl, rfl, rfl⟩) ?_)
                exact ⟨_, rfl, by simp only [wordB, hc1, hc2, hc3, hc4, hc5, hc6, hc7, Bool.or_false, Bool.false_or, Bool.true_or, Bool.or_true, Bool.not_true, Bool.not_false, Bool.false_and, Bool.true_and], H⟩
              · refine st_seq ?_
                refine st_region ?_
                refine sr_op rfl rfl (ow_seq rfl rfl ?_)
                refine sr_op rfl rfl (ow_assign (v := .bool (decide (s = ⟨#[107, 105, 110, 100]⟩))) rfl ?_)
                refine sr_nil ?_
                refine st_cond (decide (s = ⟨#[107, 105, 110, 100]⟩)) rfl (fun hc8 => ?_) (fun hc8 => ?_)
                · rw [hc8]
                  refine st_skip ?_
                  refine st_yes rfl ?_
                  refine st_seq ?_
                  refine st_region ?_
                  refine sr_op rfl rfl (ow_assign (v := .bool true) rfl ?_)
                  refine sr_nil ?_
                  refine st_ret hb (hR _ _ (.bool true) (res_run (vs := [.bool true]) Tryd.results118 ⟨_, _, rfl, rfl, rfl⟩) ?_)
                  exact ⟨_, rfl, by simp only [wordB, hc1, hc2, hc3, hc4, hc5, hc6, hc7, hc8, Bool.or_false, Bool.false_or, Bool.true_or, Bool.or_true, Bool.not_true, Bool.not_false, Bool.false_and, Bool.true_and], H⟩
                · refine st_seq ?_
                  refine st_region ?_
                  refine sr_op rfl rfl (ow_seq rfl rfl ?_)
                  refine sr_op rfl rfl (ow_assign (v := .bool (decide (s = ⟨#[114, 117, 108, 101]⟩))) rfl ?_)
                  refine sr_nil ?_
                  refine st_cond (decide (s = ⟨#[114, 117, 108, 101]⟩)) rfl (fun hc9 => ?_) (fun hc9 => ?_)
                  · rw [hc9]
                    refine st_skip ?_
                    refine st_yes rfl ?_
                    refine st_seq ?_
                    refine st_region ?_
                    refine sr_op rfl rfl (ow_assign (v := .bool true) rfl ?_)
                    refine sr_nil ?_
                    refine st_ret hb (hR _ _ (.bool true) (res_run (vs := [.bool true]) Tryd.results118 ⟨_, _, rfl, rfl, rfl⟩) ?_)
                    exact ⟨_, rfl, by simp only [wordB, hc1, hc2, hc3, hc4, hc5, hc6, hc7, hc8, hc9, Bool.or_false, Bool.false_or, Bool.true_or, Bool.or_true, Bool.not_true, Bool.not_false, Bool.false_and, Bool.true_and], H⟩
                  · refine st_seq ?_
                    refine st_region ?_
                    refine sr_op rfl rfl (ow_seq rfl rfl ?_)
                    refine sr_op rfl rfl (ow_assign (v := .bool (decide (s = ⟨#[116, 104, 105, 110, 107]⟩))) rfl ?_)
                    refine sr_nil ?_
                    refine st_cond (decide (s = ⟨#[116, 104, 105, 110, 107]⟩)) rfl (fun hc10 => ?_) (fun hc10 => ?_)
                    · rw [hc10]
                      refine st_skip ?_
                      refine st_yes rfl ?_
                      refine st_seq ?_
                      refine st_region ?_
                      refine sr_op rfl rfl (ow_assign (v := .bool true) rfl ?_)
                      refine sr_nil ?_
                      refine st_ret hb (hR _ _ (.bool true) (res_run (vs := [.bool true]) Tryd.results118 ⟨_, _, rfl, rfl, rfl⟩) ?_)
                      exact ⟨_, rfl, by simp only [wordB, hc1, hc2, hc3, hc4, hc5, hc6, hc7, hc8, hc9, hc10, Bool.or_false, Bool.false_or, Bool.true_or, Bool.or_true, Bool.not_true, Bool.not_false, Bool.false_and, Bool.true_and], H⟩
                    · refine st_seq ?_
                      refine st_region ?_
                      refine sr_op rfl rfl (ow_seq rfl rfl ?_)
                      refine sr_op rfl rfl (ow_assign (v := .bool (decide (s = ⟨#[99, 104, 97, 110, 103, 101]⟩))) rfl ?_)
                      refine sr_nil ?_
                      refine st_cond (decide (s = ⟨#[99, 104, 97, 110, 103, 101]⟩)) rfl (fun hc11 => ?_) (fun hc11 => ?_)
                      · rw [hc11]
                        refine st_skip ?_
                        refine st_yes rfl ?_
                        refine st_seq ?_
                        refine st_region ?_
                        refine sr_op rfl rfl (ow_assign (v := .bool true) rfl ?_)
                        refine sr_nil ?_
                        refine st_ret hb (hR _ _ (.bool true) (res_run (vs := [.bool true]) Tryd.results118 ⟨_, _, rfl, rfl, rfl⟩) ?_)
                        exact ⟨_, rfl, by simp only [wordB, hc1, hc2, hc3, hc4, hc5, hc6, hc7, hc8, hc9, hc10, hc11, Bool.or_false, Bool.false_or, Bool.true_or, Bool.or_true, Bool.not_true, Bool.not_false, Bool.false_and, Bool.true_and], H⟩
                      · refine st_seq ?_
                        refine st_region ?_
                        refine sr_op rfl rfl (ow_seq rfl rfl ?_)
                        refine sr_op rfl rfl (ow_assign (v := .bool (decide (s = ⟨#[115, 111, 109, 101]⟩))) rfl ?_)
                        refine sr_nil ?_
                        refine st_cond (decide (s = ⟨#[115, 111, 109, 101]⟩)) rfl (fun hc12 => ?_) (fun hc12 => ?_)
                        · rw [hc12]
                          refine st_skip ?_
                          refine st_yes rfl ?_
                          refine st_seq ?_
                          refine st_region ?_
                          refine sr_op rfl rfl (ow_assign (v := .bool true) rfl ?_)
                          refine sr_nil ?_
                          refine st_ret hb (hR _ _ (.bool true) (res_run (vs := [.bool true]) Tryd.results118 ⟨_, _, rfl, rfl, rfl⟩) ?_)
                          exact ⟨_, rfl, by simp only [wordB, hc1, hc2, hc3, hc4, hc5, hc6, hc7, hc8, hc9, hc10, hc11, hc12, Bool.or_false, Bool.false_or, Bool.true_or, Bool.or_true, Bool.not_true, Bool.not_false, Bool.false_and, Bool.true_and], H⟩
                        · refine st_seq ?_
                          refine st_region ?_
                          refine sr_op rfl rfl (ow_seq rfl rfl ?_)
                          refine sr_op rfl rfl (ow_assign (v := .bool (decide (s = ⟨#[119, 101, 105, 103, 104, 116]⟩))) rfl ?_)
                          refine sr_nil ?_
                          refine st_cond (decide (s = ⟨#[119, 101, 105, 103, 104, 116]⟩)) rfl (fun hc13 => ?_) (fun hc13 => ?_)
                          · rw [hc13]
                            refine st_skip ?_
                            refine st_yes rfl ?_
                            refine st_seq ?_
                            refine st_region ?_
                            refine sr_op rfl rfl (ow_assign (v := .bool true) rfl ?_)
                            refine sr_nil ?_
                            refine st_ret hb (hR _ _ (.bool true) (res_run (vs := [.bool true]) Tryd.results118 ⟨_, _, rfl, rfl, rfl⟩) ?_)
                            exact ⟨_, rfl, by simp only [wordB, hc1, hc2, hc3, hc4, hc5, hc6, hc7, hc8, hc9, hc10, hc11, hc12, hc13, Bool.or_false, Bool.false_or, Bool.true_or, Bool.or_true, Bool.not_true, Bool.not_false, Bool.false_and, Bool.true_and], H⟩
                          · refine st_seq ?_
                            refine st_region ?_
                            refine sr_op rfl rfl (ow_seq rfl rfl ?_)
                            refine sr_op rfl rfl (ow_assign (v := .bool (decide (s = ⟨#[111, 102]⟩))) rfl ?_)
                            refine sr_nil ?_
                            refine st_cond (decide (s = ⟨#[111, 102]⟩)) rfl (fun hc14 => ?_) (fun hc14 => ?_)
                            · rw [hc14]
                              refine st_skip ?_
                              refine st_yes rfl ?_
                              refine st_seq ?_
                              refine st_region ?_
                              refine sr_op rfl rfl (ow_assign (v := .bool true) rfl ?_)
                              refine sr_nil ?_
                              refine st_ret hb (hR _ _ (.bool true) (res_run (vs := [.bool true]) Tryd.results118 ⟨_, _, rfl, rfl, rfl⟩) ?_)
                              exact ⟨_, rfl, by simp only [wordB, hc1, hc2, hc3, hc4, hc5, hc6, hc7, hc8, hc9, hc10, hc11, hc12, hc13, hc14, Bool.or_false, Bool.false_or, Bool.true_or, Bool.or_true, Bool.not_true, Bool.not_false, Bool.false_and, Bool.true_and], H⟩
                            · refine st_seq ?_
                              refine st_region ?_
                              refine sr_op rfl rfl (ow_seq rfl rfl ?_)
                              refine sr_op rfl rfl (ow_assign (v := .bool (decide (s = ⟨#[117, 112, 116, 111]⟩))) rfl ?_)
                              refine sr_nil ?_
                              refine st_cond (decide (s = ⟨#[117, 112, 116, 111]⟩)) rfl (fun hc15 => ?_) (fun hc15 => ?_)
                              · rw [hc15]
                                refine st_skip ?_
                                refine st_yes rfl ?_
                                refine st_seq ?_
                                refine st_region ?_
                                refine sr_op rfl rfl (ow_assign (v := .bool true) rfl ?_)
                                refine sr_nil ?_
                                refine st_ret hb (hR _ _ (.bool true) (res_run (vs := [.bool true]) Tryd.results118 ⟨_, _, rfl, rfl, rfl⟩) ?_)
                                exact ⟨_, rfl, by simp only [wordB, hc1, hc2, hc3, hc4, hc5, hc6, hc7, hc8, hc9, hc10, hc11, hc12, hc13, hc14, hc15, Bool.or_false, Bool.false_or, Bool.true_or, Bool.or_true, Bool.not_true, Bool.not_false, Bool.false_and, Bool.true_and], H⟩
                              · refine st_region ?_
                                refine sr_op rfl rfl (ow_seq rfl rfl ?_)
                                refine sr_op rfl rfl (ow_assign (v := .bool (decide (s = ⟨#[101, 108, 115, 101]⟩))) rfl ?_)
                                refine sr_nil ?_
                                refine st_cond (decide (s = ⟨#[101, 108, 115, 101]⟩)) rfl (fun hc16 => ?_) (fun hc16 => ?_)
                                · refine st_seq ?_
                                  refine st_region ?_
                                  refine sr_op rfl rfl (ow_assign (v := .bool true) rfl ?_)
                                  refine sr_nil ?_
                                  refine st_ret hb (hR _ _ (.bool true) (res_run (vs := [.bool true]) Tryd.results118 ⟨_, _, rfl, rfl, rfl⟩) ?_)
                                  exact ⟨_, rfl, by simp only [wordB, hc1, hc2, hc3, hc4, hc5, hc6, hc7, hc8, hc9, hc10, hc11, hc12, hc13, hc14, hc15, hc16, Bool.or_false, Bool.false_or, Bool.true_or, Bool.or_true, Bool.not_true, Bool.not_false, Bool.false_and, Bool.true_and], H⟩
                                · refine st_skip ?_
                                  refine st_inBlock ?_
                                  refine st_seq ?_
                                  refine st_region ?_
                                  refine sr_op rfl rfl (ow_assign (v := .bool false) rfl ?_)
                                  refine sr_nil ?_
                                  refine st_ret hb (hR _ _ (.bool false) (res_run (vs := [.bool false]) Tryd.results118 ⟨_, _, rfl, rfl, rfl⟩) ?_)
                                  exact ⟨_, rfl, by simp only [wordB, hc1, hc2, hc3, hc4, hc5, hc6, hc7, hc8, hc9, hc10, hc11, hc12, hc13, hc14, hc15, hc16, Bool.or_false, Bool.false_or, Bool.true_or, Bool.or_true, Bool.not_true, Bool.not_false, Bool.false_and, Bool.true_and], H⟩
theorem Free_c {B I L w} (H : Hp B I w L) (s : ByteArray) (hs : S63 s) : Calls Tryd.prog 102 #[.string s] w (Rt fun r w' => r = .bool (freeB s) ∧ Hp B I w' L) := by
  refine calls_st (n := 10) Tryd.func102 rfl rfl rfl ?_
  intro G bF cs hb hfn hR hP
  simp only [ini]
  refine st_seq ?_
  refine st_region ?_
  refine sr_op rfl rfl (ow_assign (v := .bool false) rfl ?_)
  refine sr_nil ?_
  refine st_seq ?_
  refine st_region ?_
  refine sr_op rfl rfl (ow_move (v := .string s) rfl ?_)
  refine sr_op rfl rfl (ow_call en43 rfl (refName_c H s hs) ?_)
  rintro _ _ ⟨rfl, H⟩
  refine sr_op rfl rfl (ow_move (v := .bool (nameB s)) rfl ?_)
  refine sr_cut 4 (fun m_ w_ => ∃ (r_ : Sl) (v_ : Bool), m_ = (9, .bool v_) :: (2, .bool false) :: r_ ∧ Hp B I w_ (L) ∧ v_ = ((nameB s) && (!(wordB s)))) (fun again => ?_) ?_
  · rcases hg : nameB s with _ | _
    · refine sr_pass rfl (j := 2) (d := 5) rfl rfl rfl (u := false) (v := true) rfl rfl ?_
      refine sr_pass rfl (j := 2) (d := 5) rfl rfl rfl (u := false) (v := true) rfl rfl ?_
      refine sr_pass rfl (j := 2) (d := 5) rfl rfl rfl (u := false) (v := true) rfl rfl ?_
      refine sr_op rfl rfl (ow_pick (v := .bool false) rfl rfl ?_)
      exact sr_live [9, 2] (again _ _ ⟨_, _, rfl, H, by rw [hg] <;> rfl⟩)
    · refine sr_want rfl (j := 2) (d := 5) rfl rfl rfl (v := true) rfl rfl (ow_move (v := .string s) rfl ?_)
      refine sr_want rfl (j := 2) (d := 5) rfl rfl rfl (v := true) rfl rfl (ow_call en118 rfl (Word_c H s) ?_)
      rintro _ _ ⟨rfl, H⟩
      refine sr_want rfl (j := 2) (d := 5) rfl rfl rfl (v := true) rfl rfl (ow_not rfl ?_)
      refine sr_op rfl rfl (ow_pick (v := .bool (!(wordB s))) rfl rfl ?_)
      exact sr_live [9, 2] (again _ _ ⟨_, _, rfl, H, by rw [hg] <;> rfl⟩)
  rintro _ _ ⟨r, _, rfl, H, rfl⟩
  refine sr_op rfl rfl (ow_assign (v := .bool ((nameB s) && (!(wordB s)))) rfl ?_)
  refine sr_nil ?_
  refine st_ret hb (hR _ _ (.bool ((nameB s) && (!(wordB s)))) (res_run (vs := [.bool ((nameB s) && (!(wordB s)))]) Tryd.results102 ⟨_, _, rfl, rfl, rfl⟩) ?_)
  exact ⟨_, rfl, by rw [freeB, Bool.and_comm], H⟩
theorem refDistinct_c {B I L w} (H : Hp B I w L) {l : List ByteArray} {v : Value} (hl : RepS encS I 1 l v) : Calls Tryd.prog 103 #[v] w (Rt fun r w' => r = .bool (distB l) ∧ Hp B I w' L) := by
  obtain ⟨A, c, rfl, hlc, hcm, hl⟩ := hl.open_
  refine calls_st (n := 26) Tryd.func103 rfl rfl rfl ?_
  intro G bF cs hb hfn hR hP
  simp only [ini]
  refine st_seq ?_
  refine st_region ?_
  refine sr_op rfl rfl (ow_assign (v := .bool false) rfl ?_)
  refine sr_nil ?_
  refine st_seq ?_
  refine st_seq ?_
  refine st_region ?_
  refine sr_op rfl rfl (ow_assign (v := .int .i64 0) rfl ?_)
  refine sr_nil ?_
  refine st_block ?_
  refine st_loop ?_
  refine st_live [0, 3] ?_
  refine st_ind (fun d_ m_ w_ => ∃ (i : Nat) (r_ : Sl), d_ = l.length - i ∧ m_ = (0, .slice A l.length c) :: (3, .int .i64 (i : Int)) :: r_ ∧ Hp B I w_ (L) ∧ i ≤ l.length ∧ distB l = distF l (l.drop i) (i : Int)) _ ⟨0, _, rfl, rfl, H, Nat.zero_le _, rfl⟩ ?_
  rintro _ _ _ ⟨i, r1, rfl, rfl, H, hi, hix⟩ ih2
  refine st_seq ?_
  refine st_seq ?_
  refine st_region ?_
  refine sr_op rfl rfl (ow_move (v := .int .i64 (i : Int)) rfl ?_)
  refine sr_op rfl rfl (ow_move (v := .slice A l.length c) rfl ?_)
  refine sr_op rfl rfl (ow_lenS sl22 rfl rfl ?_)
  refine sr_op rfl rfl (ow_lss rfl rfl ?_)
  refine sr_nil ?_
  refine st_cond (decide ((i : Int) < (l.length : Int))) rfl (fun hc3 => ?_) (fun hc3 => ?_)
  · have hc3 := of_decide_eq_true hc3
    refine st_skip ?_
    refine st_seq ?_
    refine st_block ?_
    refine st_seq ?_
    refine st_region ?_
    refine sr_op rfl rfl (ow_move (v := .slice A l.length c) rfl ?_)
    refine sr_op rfl rfl (ow_move (v := .int .i64 (i : Int)) rfl ?_)
    obtain ⟨x4, he4⟩ : ∃ q_, l[i]? = some q_ := ⟨_, List.getElem?_eq_getElem (by omega)⟩
    obtain ⟨b4, o4, us4, hA4, hat4, hul4, hr4⟩ := RepS.get hl he4
    obtain ⟨rfl, x463⟩ := s_iff.1 hr4
    refine sr_op rfl rfl (ow_indexAddrA sl22 ty9 hA4 rfl rfl (by omega) (by omega) (r := o4 + i * 1) rfl ?_)
    refine sr_op rfl rfl (ow_loadI (v := .string x4) ty9 H rfl hat4 rfl rfl rfl ?_)
    refine sr_op rfl rfl (ow_call en102 rfl (Free_c H x4 x463) ?_)
    rintro _ _ ⟨rfl, H⟩
    refine sr_op rfl rfl (ow_not rfl ?_)
    refine sr_op rfl rfl (ow_move (v := .bool (!(freeB x4))) rfl ?_)
    refine sr_cut 9 (fun m_ w_ => ∃ (r_ : Sl) (v_ : Bool), m_ = (25, .bool v_) :: (0, .slice A l.length c) :: (3, .int .i64 (i : Int)) :: r_ ∧ Hp B I w_ (L) ∧ v_ = ((!(freeB x4)) || (!decide (idx l x4 = (i : Int))))) (fun again => ?_) ?_
    · rcases hg : !(freeB x4) with _ | _
      · refine sr_want rfl (j := 6) (d := 16) rfl rfl rfl (v := false) rfl rfl (ow_move (v := .slice A l.length c) rfl ?_)
        refine sr_want rfl (j := 6) (d := 16) rfl rfl rfl (v := false) rfl rfl (ow_move (v := .slice A l.length c) rfl ?_)
        refine sr_want rfl (j := 6) (d := 16) rfl rfl rfl (v := false) rfl rfl (ow_move (v := .int .i64 (i : Int)) rfl ?_)
        refine sr_want rfl (j := 6) (d := 16) rfl rfl rfl (v := false) rfl rfl (ow_indexAddrA sl22 ty9 hA4 rfl rfl (by omega) (by omega) (r := o4 + i * 1) rfl ?_)
        refine sr_want rfl (j := 6) (d := 16) rfl rfl rfl (v := false) rfl rfl (ow_loadI (v := .string x4) ty9 H rfl hat4 rfl rfl rfl ?_)
        refine sr_want rfl (j := 6) (d := 16) rfl rfl rfl (v := false) rfl rfl (ow_call en106 rfl (refIndex_c H hl x4) ?_)
        rintro _ _ ⟨rfl, H⟩
        refine sr_want rfl (j := 6) (d := 16) rfl rfl rfl (v := false) rfl rfl (ow_move (v := .int .i64 (i : Int)) rfl ?_)
        refine sr_want rfl (j := 6) (d := 16) rfl rfl rfl (v := false) rfl rfl (ow_neq rfl rfl ?_)
        refine sr_op rfl rfl (ow_pick (v := .bool (!decide (idx l x4 = (i : Int)))) rfl rfl ?_)
        exact sr_live [25, 0, 3] (again _ _ ⟨_, _, rfl, H, by rw [hg] <;> rfl⟩)
      · refine sr_pass rfl (j := 6) (d := 16) rfl rfl rfl (u := true) (v := false) rfl rfl ?_
        refine sr_pass rfl (j := 6) (d := 16) rfl rfl rfl (u := true) (v := false) rfl rfl ?_
        refine sr_pass rfl (j := 6) (d := 16) rfl rfl rfl (u := true) (v := false) rfl rfl ?_
        refine sr_pass rfl (j := 6) (d := 16) rfl rfl rfl (u := true) (v := false) rfl rfl ?_
        refine sr_pass rfl (j := 6) (d := 16) rfl rfl rfl (u := true) (v := false) rfl rfl ?_
        refine sr_pass rfl (j := 6) (d := 16) rfl rfl rfl (u := true) (v := false) rfl rfl ?_
        refine sr_pass rfl (j := 6) (d := 16) rfl rfl rfl (u := true) (v := false) rfl rfl ?_
        refine sr_pass rfl (j := 6) (d := 16) rfl rfl rfl (u := true) (v := false) rfl rfl ?_
        refine sr_op rfl rfl (ow_pick (v := .bool true) rfl rfl ?_)
        exact sr_live [25, 0, 3] (again _ _ ⟨_, _, rfl, H, by rw [hg] <;> rfl⟩)
    rintro _ _ ⟨r, _, rfl, H, rfl⟩
    refine sr_nil ?_
    refine st_cond ((!(freeB x4)) || (!decide (idx l x4 = (i : Int)))) rfl (fun hc5 => ?_) (fun hc5 => ?_)
    · refine st_seq ?_
      refine st_region ?_
      refine sr_op rfl rfl (ow_assign (v := .bool false) rfl ?_)
      refine sr_nil ?_
      refine st_ret hb (hR _ _ (.bool false) (res_run (vs := [.bool false]) Tryd.results103 ⟨_, _, rfl, rfl, rfl⟩) ?_)
      exact ⟨_, rfl, by rw [hix, drop_some he4, distF, dist_no hc5, Bool.false_and], H⟩
    · refine st_skip ?_
      refine st_inBlock ?_
      refine st_region ?_
      refine sr_op rfl rfl (ow_move (v := .int .i64 (i : Int)) rfl ?_)
      refine sr_op rfl rfl (ow_add (r := ((i + 1 : Nat) : Int)) rfl rfl (inc_i64 (by omega)) ?_)
      refine sr_op rfl rfl (ow_assign (v := .int .i64 ((i + 1 : Nat) : Int)) rfl ?_)
      refine sr_nil ?_
      exact st_inLoop (st_live [0, 3] (ih2 _ _ _ (by omega) ⟨i + 1, _, rfl, rfl, H, by omega, by rw [hix, drop_some he4, distF, dist_yes hc5]; rfl⟩))
  · have hc3 := of_decide_eq_false hc3
    refine st_exit rfl ?_
    refine st_seq ?_
    refine st_region ?_
    refine sr_op rfl rfl (ow_assign (v := .bool true) rfl ?_)
    refine sr_nil ?_
    refine st_ret hb (hR _ _ (.bool true) (res_run (vs := [.bool true]) Tryd.results103 ⟨_, _, rfl, rfl, rfl⟩) ?_)
    have : l.drop i = [] := List.drop_of_length_le (by omega)
    exact ⟨_, rfl, by rw [hix, this]; rfl, H⟩
theorem Time_c {B I L w} (H : Hp B I w L) (t : Int) : Calls Tryd.prog 32 #[.int .i64 t] w (Rt fun r w' => r = .bool (withinB t 0 1099511627775) ∧ Hp B I w' L) := by
  refine calls_st (n := 9) Tryd.func32 rfl rfl rfl ?_
  intro G bF cs hb hfn hR hP
  simp only [ini]
  refine st_seq ?_
  refine st_region ?_
  refine sr_op rfl rfl (ow_assign (v := .bool false) rfl ?_)
  refine sr_nil ?_
  refine st_seq ?_
  refine st_region ?_
  refine sr_op rfl rfl (ow_move (v := .int .i64 t) rfl ?_)
  refine sr_op rfl rfl (ow_geq rfl rfl ?_)
  refine sr_op rfl rfl (ow_move (v := .bool (decide (0 ≤ t))) rfl ?_)
  refine sr_cut 3 (fun m_ w_ => ∃ (r_ : Sl) (v_ : Bool), m_ = (8, .bool v_) :: (2, .bool false) :: r_ ∧ Hp B I w_ (L) ∧ v_ = ((decide (0 ≤ t)) && (decide (t < 1099511627776)))) (fun again => ?_) ?_
  · rcases hg : decide (0 ≤ t) with _ | _
    · refine sr_pass rfl (j := 2) (d := 5) rfl rfl rfl (u := false) (v := true) rfl rfl ?_
      refine sr_pass rfl (j := 2) (d := 5) rfl rfl rfl (u := false) (v := true) rfl rfl ?_
      refine sr_op rfl rfl (ow_pick (v := .bool false) rfl rfl ?_)
      exact sr_live [8, 2] (again _ _ ⟨_, _, rfl, H, by rw [hg] <;> rfl⟩)
    · refine sr_want rfl (j := 2) (d := 5) rfl rfl rfl (v := true) rfl rfl (ow_move (v := .int .i64 t) rfl ?_)
      refine sr_want rfl (j := 2) (d := 5) rfl rfl rfl (v := true) rfl rfl (ow_lss rfl rfl ?_)
      refine sr_op rfl rfl (ow_pick (v := .bool (decide (t < 1099511627776))) rfl rfl ?_)
      exact sr_live [8, 2] (again _ _ ⟨_, _, rfl, H, by rw [hg] <;> rfl⟩)
  rintro _ _ ⟨r, _, rfl, H, rfl⟩
  refine sr_op rfl rfl (ow_assign (v := .bool ((decide (0 ≤ t)) && (decide (t < 1099511627776)))) rfl ?_)
  refine sr_nil ?_
  refine st_ret hb (hR _ _ (.bool ((decide (0 ≤ t)) && (decide (t < 1099511627776)))) (res_run (vs := [.bool ((decide (0 ≤ t)) && (decide (t < 1099511627776)))]) Tryd.results32 ⟨_, _, rfl, rfl, rfl⟩) ?_)
  exact ⟨_, rfl, by unfold withinB; congr 2; rw [decide_eq_decide]; omega, H⟩
def sameT : List ByteArray → List ByteArray → Bool
  | [], [] => true
  | a :: l, b :: m => decide (a = b) && sameT l m
  | _, _ => false
theorem sameT_iff : ∀ {l m : List ByteArray}, sameT l m = true ↔ l = m
  | [], [] => by simp [sameT]
  | a :: l, b :: m => by simp [sameT, sameT_iff (l := l) (m := m)]
  | [], b :: m => by simp [sameT]
  | a :: l, [] => by simp [sameT]
theorem sameT_len {l m : List ByteArray} (h : ¬ (l.length : Int) = (m.length : Int)) : sameT l m = false := by
  rw [Bool.eq_false_iff]
  intro h2
  rw [sameT_iff] at h2
  subst h2
  exact h rfl
theorem SameTexts_c {B I L w} (H : Hp B I w L) {l m : List ByteArray} {v u : Value} (hl : RepS encS I 1 l v) (hm : RepS encS I 1 m u) : Calls Tryd.prog 66 #[v, u] w (Rt fun r w' => r = .bool (sameT l m) ∧ Hp B I w' L) := by
  obtain ⟨A, c, rfl, hlc, hcm, hl⟩ := hl.open_
  obtain ⟨A2, c2, rfl, hlc2, hcm2, hm⟩ := hm.open_
  refine calls_st (n := 26) Tryd.func66 rfl rfl rfl ?_
  intro G bF cs hb hfn hR hP
  simp only [ini]
  refine st_seq ?_
  refine st_region ?_
  refine sr_op rfl rfl (ow_assign (v := .bool false) rfl ?_)
  refine sr_nil ?_
  refine st_seq ?_
  refine st_seq ?_
  refine st_region ?_
  refine sr_op rfl rfl (ow_move (v := .slice A l.length c) rfl ?_)
  refine sr_op rfl rfl (ow_lenS sl22 rfl rfl ?_)
  refine sr_op rfl rfl (ow_move (v := .slice A2 m.length c2) rfl ?_)
  refine sr_op rfl rfl (ow_lenS sl22 rfl rfl ?_)
  refine sr_op rfl rfl (ow_neq rfl rfl ?_)
  refine sr_nil ?_
  refine st_cond (!decide ((l.length : Int) = (m.length : Int))) rfl (fun hc1 => ?_) (fun hc1 => ?_)
  · have hne := of_decide_eq_false (bnt hc1)
    refine st_seq ?_
    refine st_region ?_
    refine sr_op rfl rfl (ow_assign (v := .bool false) rfl ?_)
    refine sr_nil ?_
    refine st_ret hb (hR _ _ (.bool false) (res_run (vs := [.bool false]) Tryd.results66 ⟨_, _, rfl, rfl, rfl⟩) ?_)
    exact ⟨_, rfl, by rw [sameT_len hne], H⟩
  · have hlen := of_decide_eq_true (bnf hc1)
    refine st_skip ?_
    refine st_seq ?_
    refine st_seq ?_
    refine st_region ?_
    refine sr_op rfl rfl (ow_assign (v := .int .i64 0) rfl ?_)
    refine sr_nil ?_
    refine st_block ?_
    refine st_loop ?_
    refine st_live [0, 1, 5] ?_
    refine st_ind (fun d_ m_ w_ => ∃ (i : Nat) (r_ : Sl), d_ = l.length - i ∧ m_ = (0, .slice A l.length c) :: (1, .slice A2 m.length c2) :: (5, .int .i64 (i : Int)) :: r_ ∧ Hp B I w_ (L) ∧ i ≤ l.length ∧ sameT l m = sameT (l.drop i) (m.drop i)) _ ⟨0, _, rfl, rfl, H, Nat.zero_le _, rfl⟩ ?_
    rintro _ _ _ ⟨i, r2, rfl, rfl, H, hi, ha⟩ ih3
    refine st_seq ?_
    refine st_seq ?_
    refine st_region ?_
    refine sr_op rfl rfl (ow_move (v := .int .i64 (i : Int)) rfl ?_)
    refine sr_op rfl rfl (ow_move (v := .slice A l.length c) rfl ?_)
    refine sr_op rfl rfl (ow_lenS sl22 rfl rfl ?_)
    refine sr_op rfl rfl (ow_lss rfl rfl ?_)
    refine sr_nil ?_
    refine st_cond (decide ((i : Int) < (l.length : Int))) rfl (fun hc4 => ?_) (fun hc4 => ?_)
    · have hc4 := of_decide_eq_true hc4
      refine st_skip ?_
      refine st_seq ?_
      refine st_block ?_
      refine st_seq ?_
      obtain ⟨x5, he5⟩ : ∃ q_, l[i]? = some q_ := ⟨_, List.getElem?_eq_getElem (by omega)⟩
      obtain ⟨b5, o5, us5, hA5, hat5, hul5, hr5⟩ := RepS.get hl he5
      obtain ⟨rfl, x563⟩ := s_iff.1 hr5
      obtain ⟨y6, he6⟩ : ∃ q_, m[i]? = some q_ := ⟨_, List.getElem?_eq_getElem (by omega)⟩
      obtain ⟨b6, o6, us6, hA6, hat6, hul6, hr6⟩ := RepS.get hm he6
      obtain ⟨rfl, y663⟩ := s_iff.1 hr6
      refine st_draw (F := (fun w_ => ∃ I2, Le I I2 ∧ Hp B I2 w_ [])) (p0 := [0, 1, 2, 3, 4, 5, 6, 7, 8]) (plan := []) [] [] [(25, .bool (!decide (x5 = y6))), (24, .string y6), (23, .pointer (some ⟨b6, o6 + i * 1, none⟩)), (22, .int .i64 (i : Int)), (21, .slice A2 m.length c2), (20, .string x5), (19, .pointer (some ⟨b5, o5 + i * 1, none⟩)), (18, .int .i64 (i : Int)), (17, .slice A l.length c)] (by kernel_rfl) rfl ?_ ⟨_, Le.refl _, H.drew.pick [] (by decide)⟩ ?_
      · refine ⟨kn_op rfl rfl (wantB_none rfl) fun _ hF2 => ?_, ?_⟩
        · obtain ⟨_, hle2, H2⟩ := hF2
          refine  (ow_move (v := .slice A l.length c) rfl ?_)
          exact ⟨rfl, rfl⟩
        refine ⟨kn_op rfl rfl (wantB_none rfl) fun _ hF2 => ?_, ?_⟩
        · obtain ⟨_, hle2, H2⟩ := hF2
          refine  (ow_move (v := .int .i64 (i : Int)) rfl ?_)
          exact ⟨rfl, rfl⟩
        refine ⟨kn_op rfl rfl (wantB_none rfl) fun _ hF2 => ?_, ?_⟩
        · obtain ⟨_, hle2, H2⟩ := hF2
          refine  (ow_indexAddrA sl22 ty9 hA5 rfl rfl (by omega) (by omega) (r := o5 + i * 1) rfl ?_)
          exact ⟨rfl, rfl⟩
        refine ⟨kn_op rfl rfl (wantB_none rfl) fun _ hF2 => ?_, ?_⟩
        · obtain ⟨_, hle2, H2⟩ := hF2
          refine  (ow_loadI (v := .string x5) ty9 H2 rfl (At.mono hle2 hat5) rfl rfl rfl ?_)
          exact ⟨rfl, rfl⟩
        refine ⟨kn_op rfl rfl (wantB_none rfl) fun _ hF2 => ?_, ?_⟩
        · obtain ⟨_, hle2, H2⟩ := hF2
          refine  (ow_move (v := .slice A2 m.length c2) rfl ?_)
          exact ⟨rfl, rfl⟩
        refine ⟨kn_op rfl rfl (wantB_none rfl) fun _ hF2 => ?_, ?_⟩
        · obtain ⟨_, hle2, H2⟩ := hF2
          refine  (ow_move (v := .int .i64 (i : Int)) rfl ?_)
          exact ⟨rfl, rfl⟩
        refine ⟨kn_op rfl rfl (wantB_none rfl) fun _ hF2 => ?_, ?_⟩
        · obtain ⟨_, hle2, H2⟩ := hF2
          refine  (ow_indexAddrA sl22 ty9 hA6 rfl rfl (by omega) (by omega) (r := o6 + i * 1) rfl ?_)
          exact ⟨rfl, rfl⟩
        refine ⟨kn_op rfl rfl (wantB_none rfl) fun _ hF2 => ?_, ?_⟩
        · obtain ⟨_, hle2, H2⟩ := hF2
          refine  (ow_loadI (v := .string y6) ty9 H2 rfl (At.mono hle2 hat6) rfl rfl rfl ?_)
          exact ⟨rfl, rfl⟩
        refine ⟨kn_op rfl rfl (wantB_none rfl) fun _ hF2 => ?_, ?_⟩
        · obtain ⟨_, hle2, H2⟩ := hF2
          refine  (ow_sne rfl rfl ?_)
          exact ⟨rfl, rfl⟩
        exact trivial
      have H := H.drew
      refine cw_nil ?_
      refine st_cond (!decide (x5 = y6)) rfl (fun hc7 => ?_) (fun hc7 => ?_)
      · refine st_seq ?_
        refine st_region ?_
        refine sr_op rfl rfl (ow_assign (v := .bool false) rfl ?_)
        refine sr_nil ?_
        refine st_ret hb (hR _ _ (.bool false) (res_run (vs := [.bool false]) Tryd.results66 ⟨_, _, rfl, rfl, rfl⟩) ?_)
        exact ⟨_, rfl, by rw [ha, drop_some he5, drop_some he6, sameT, bnt hc7, Bool.false_and], H⟩
      · refine st_skip ?_
        refine st_inBlock ?_
        refine st_region ?_
        refine sr_op rfl rfl (ow_move (v := .int .i64 (i : Int)) rfl ?_)
        refine sr_op rfl rfl (ow_add (r := ((i + 1 : Nat) : Int)) rfl rfl (inc_i64 (by omega)) ?_)
        refine sr_op rfl rfl (ow_assign (v := .int .i64 ((i + 1 : Nat) : Int)) rfl ?_)
        refine sr_nil ?_
        exact st_inLoop (st_live [0, 1, 5] (ih3 _ _ _ (by omega) ⟨i + 1, _, rfl, rfl, H, by omega, by rw [ha, drop_some he5, drop_some he6, sameT, bnf hc7, Bool.true_and]⟩))
    · have hc4 := of_decide_eq_false hc4
      refine st_exit rfl ?_
      refine st_seq ?_
      refine st_region ?_
      refine sr_op rfl rfl (ow_assign (v := .bool true) rfl ?_)
      refine sr_nil ?_
      refine st_ret hb (hR _ _ (.bool true) (res_run (vs := [.bool true]) Tryd.results66 ⟨_, _, rfl, rfl, rfl⟩) ?_)
      have h1 : l.drop i = [] := List.drop_of_length_le (by omega)
      have h2 : m.drop i = [] := List.drop_of_length_le (by omega)
      exact ⟨_, rfl, by rw [ha, h1, h2]; rfl, H⟩
def shortB (s : ByteArray) : Bool := !decide (60 < (s.size : Int))
def fewN (l : List ByteArray) (most : Int) : Bool := !((decide (10 < (l.length : Int)) && decide ((l.length : Int) ≤ most)) || decide (60 < (l.length : Int))) && l.all shortB
theorem fewNames_c {B I L w} (H : Hp B I w L) {l : List ByteArray} {v : Value} (hl : RepS encS I 1 l v) (most : Int) : Calls Tryd.prog 54 #[v, .int .i64 most] w (Rt fun r w' => r = .bool (fewN l most) ∧ Hp B I w' L) := by
  obtain ⟨A, c, rfl, hlc, hcm, hl⟩ := hl.open_
  refine calls_st (n := 32) Tryd.func54 rfl rfl rfl ?_
  intro G bF cs hb hfn hR hP
  simp only [ini]
  refine st_seq ?_
  refine st_region ?_
  refine sr_op rfl rfl (ow_assign (v := .bool false) rfl ?_)
  refine sr_nil ?_
  refine st_seq ?_
  refine st_seq ?_
  refine st_region ?_
  refine sr_op rfl rfl (ow_move (v := .slice A l.length c) rfl ?_)
  refine sr_op rfl rfl (ow_lenS sl22 rfl rfl ?_)
  refine sr_op rfl rfl (ow_gtr rfl rfl ?_)
  refine sr_op rfl rfl (ow_move (v := .bool (decide (10 < (l.length : Int)))) rfl ?_)
  refine sr_cut 5 (fun m_ w_ => ∃ (r_ : Sl) (v_ : Bool), m_ = (14, .bool v_) :: (0, .slice A l.length c) :: (4, .bool false) :: r_ ∧ Hp B I w_ (L) ∧ v_ = ((decide (10 < (l.length : Int))) && (decide ((l.length : Int) ≤ most)))) (fun again => ?_) ?_
  · rcases hg : decide (10 < (l.length : Int)) with _ | _
    · refine sr_pass rfl (j := 3) (d := 9) rfl rfl rfl (u := false) (v := true) rfl rfl ?_
      refine sr_pass rfl (j := 3) (d := 9) rfl rfl rfl (u := false) (v := true) rfl rfl ?_
      refine sr_pass rfl (j := 3) (d := 9) rfl rfl rfl (u := false) (v := true) rfl rfl ?_
      refine sr_pass rfl (j := 3) (d := 9) rfl rfl rfl (u := false) (v := true) rfl rfl ?_
      refine sr_op rfl rfl (ow_pick (v := .bool false) rfl rfl ?_)
      exact sr_live [14, 0, 4] (again _ _ ⟨_, _, rfl, H, by rw [hg] <;> rfl⟩)
    · refine sr_want rfl (j := 3) (d := 9) rfl rfl rfl (v := true) rfl rfl (ow_move (v := .slice A l.length c) rfl ?_)
      refine sr_want rfl (j := 3) (d := 9) rfl rfl rfl (v := true) rfl rfl (ow_lenS sl22 rfl rfl ?_)
      refine sr_want rfl (j := 3) (d := 9) rfl rfl rfl (v := true) rfl rfl (ow_move (v := .int .i64 most) rfl ?_)
      refine sr_want rfl (j := 3) (d := 9) rfl rfl rfl (v := true) rfl rfl (ow_leq rfl rfl ?_)
      refine sr_op rfl rfl (ow_pick (v := .bool (decide ((l.length : Int) ≤ most))) rfl rfl ?_)
      exact sr_live [14, 0, 4] (again _ _ ⟨_, _, rfl, H, by rw [hg] <;> rfl⟩)
  rintro _ _ ⟨r, _, rfl, H, rfl⟩
  refine sr_op rfl rfl (ow_move (v := .bool ((decide (10 < (l.length : Int))) && (decide ((l.length : Int) ≤ most)))) rfl ?_)
  refine sr_cut 4 (fun m_ w_ => ∃ (r_ : Sl) (v_ : Bool), m_ = (19, .bool v_) :: (0, .slice A l.length c) :: (4, .bool false) :: r_ ∧ Hp B I w_ (L) ∧ v_ = (((decide (10 < (l.length : Int))) && (decide ((l.length : Int) ≤ most))) || (decide (60 < (l.length : Int))))) (fun again => ?_) ?_
  · rcases hg : (decide (10 < (l.length : Int))) && (decide ((l.length : Int) ≤ most)) with _ | _
    · refine sr_want rfl (j := 9) (d := 15) rfl rfl rfl (v := false) rfl rfl (ow_move (v := .slice A l.length c) rfl ?_)
      refine sr_want rfl (j := 9) (d := 15) rfl rfl rfl (v := false) rfl rfl (ow_lenS sl22 rfl rfl ?_)
      refine sr_want rfl (j := 9) (d := 15) rfl rfl rfl (v := false) rfl rfl (ow_gtr rfl rfl ?_)
      refine sr_op rfl rfl (ow_pick (v := .bool (decide (60 < (l.length : Int)))) rfl rfl ?_)
      exact sr_live [19, 0, 4] (again _ _ ⟨_, _, rfl, H, by rw [hg] <;> rfl⟩)
    · refine sr_pass rfl (j := 9) (d := 15) rfl rfl rfl (u := true) (v := false) rfl rfl ?_
      refine sr_pass rfl (j := 9) (d := 15) rfl rfl rfl (u := true) (v := false) rfl rfl ?_
      refine sr_pass rfl (j := 9) (d := 15) rfl rfl rfl (u := true) (v := false) rfl rfl ?_
      refine sr_op rfl rfl (ow_pick (v := .bool true) rfl rfl ?_)
      exact sr_live [19, 0, 4] (again _ _ ⟨_, _, rfl, H, by rw [hg] <;> rfl⟩)
  rintro _ _ ⟨r, _, rfl, H, rfl⟩
  refine sr_nil ?_
  refine st_cond (((decide (10 < (l.length : Int))) && (decide ((l.length : Int) ≤ most))) || (decide (60 < (l.length : Int)))) rfl (fun hc1 => ?_) (fun hc1 => ?_)
  · refine st_seq ?_
    refine st_region ?_
    refine sr_op rfl rfl (ow_assign (v := .bool false) rfl ?_)
    refine sr_nil ?_
    refine st_ret hb (hR _ _ (.bool false) (res_run (vs := [.bool false]) Tryd.results54 ⟨_, _, rfl, rfl, rfl⟩) ?_)
    exact ⟨_, rfl, by rw [fewN, hc1]; rfl, H⟩
  · refine st_skip ?_
    refine st_seq ?_
    refine st_seq ?_
    refine st_region ?_
    refine sr_op rfl rfl (ow_assign (v := .int .i64 0) rfl ?_)
    refine sr_nil ?_
    refine st_block ?_
    refine st_loop ?_
    refine st_live [0, 5] ?_
    refine st_ind (fun d_ m_ w_ => ∃ (i : Nat) (r_ : Sl), d_ = l.length - i ∧ m_ = (0, .slice A l.length c) :: (5, .int .i64 (i : Int)) :: r_ ∧ Hp B I w_ (L) ∧ i ≤ l.length ∧ (l.take i).all shortB = true) _ ⟨0, _, rfl, rfl, H, Nat.zero_le _, rfl⟩ ?_
    rintro _ _ _ ⟨i, r2, rfl, rfl, H, hi, ha⟩ ih3
    refine st_seq ?_
    refine st_seq ?_
    refine st_region ?_
    refine sr_op rfl rfl (ow_move (v := .int .i64 (i : Int)) rfl ?_)
    refine sr_op rfl rfl (ow_move (v := .slice A l.length c) rfl ?_)
    refine sr_op rfl rfl (ow_lenS sl22 rfl rfl ?_)
    refine sr_op rfl rfl (ow_lss rfl rfl ?_)
    refine sr_nil ?_
    refine st_cond (decide ((i : Int) < (l.length : Int))) rfl (fun hc4 => ?_) (fun hc4 => ?_)
    · have hc4 := of_decide_eq_true hc4
      refine st_skip ?_
      refine st_seq ?_
      refine st_block ?_
      refine st_seq ?_
      refine st_region ?_
      refine sr_op rfl rfl (ow_move (v := .slice A l.length c) rfl ?_)
      refine sr_op rfl rfl (ow_move (v := .int .i64 (i : Int)) rfl ?_)
      obtain ⟨x5, he5⟩ : ∃ q_, l[i]? = some q_ := ⟨_, List.getElem?_eq_getElem (by omega)⟩
      obtain ⟨b5, o5, us5, hA5, hat5, hul5, hr5⟩ := RepS.get hl he5
      obtain ⟨rfl, x563⟩ := s_iff.1 hr5
      refine sr_op rfl rfl (ow_indexAddrA sl22 ty9 hA5 rfl rfl (by omega) (by omega) (r := o5 + i * 1) rfl ?_)
      refine sr_op rfl rfl (ow_loadI (v := .string x5) ty9 H rfl hat5 rfl rfl rfl ?_)
      refine sr_op rfl rfl (ow_lenT un9 rfl rfl ?_)
      refine sr_op rfl rfl (ow_gtr rfl rfl ?_)
      refine sr_nil ?_
      refine st_cond (decide (60 < (x5.size : Int))) rfl (fun hc6 => ?_) (fun hc6 => ?_)
      · refine st_seq ?_
        refine st_region ?_
        refine sr_op rfl rfl (ow_assign (v := .bool false) rfl ?_)
        refine sr_nil ?_
        refine st_ret hb (hR _ _ (.bool false) (res_run (vs := [.bool false]) Tryd.results54 ⟨_, _, rfl, rfl, rfl⟩) ?_)
        exact ⟨_, rfl, by rw [fewN, all_bad he5 (by rw [shortB, hc6]; rfl), Bool.and_false], H⟩
      · refine st_skip ?_
        refine st_inBlock ?_
        refine st_region ?_
        refine sr_op rfl rfl (ow_move (v := .int .i64 (i : Int)) rfl ?_)
        refine sr_op rfl rfl (ow_add (r := ((i + 1 : Nat) : Int)) rfl rfl (inc_i64 (by omega)) ?_)
        refine sr_op rfl rfl (ow_assign (v := .int .i64 ((i + 1 : Nat) : Int)) rfl ?_)
        refine sr_nil ?_
        exact st_inLoop (st_live [0, 5] (ih3 _ _ _ (by omega) ⟨i + 1, _, rfl, rfl, H, by omega, all_take he5 ha (by rw [shortB, hc6]; rfl)⟩))
    · have hc4 := of_decide_eq_false hc4
      refine st_exit rfl ?_
      refine st_seq ?_
      refine st_region ?_
      refine sr_op rfl rfl (ow_assign (v := .bool true) rfl ?_)
      refine sr_nil ?_
      refine st_ret hb (hR _ _ (.bool true) (res_run (vs := [.bool true]) Tryd.results54 ⟨_, _, rfl, rfl, rfl⟩) ?_)
      have ht : l.take i = l := List.take_of_length_le (by omega)
      rw [ht] at ha
      exact ⟨_, rfl, by rw [fewN, hc1, ha]; rfl, H⟩
end Go.Proofs.YtbbflenaeihmeaaDoor
