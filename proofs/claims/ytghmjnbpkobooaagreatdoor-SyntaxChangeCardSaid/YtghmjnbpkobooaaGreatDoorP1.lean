/-
  Walks: small functions of policies, slices.Index and Contains at strings.
-/
import Derived.Test.YtghmjnbpkobooaaGreatDoorS0
import Derived.Test.YtghmjnbpkobooaaGreatDoorT0
set_option linter.unusedVariables false
set_option linter.unusedSimpArgs false
set_option maxRecDepth 10000
set_option maxHeartbeats 4000000
namespace Go.Proofs.YtghmjnbpkobooaaGreatDoor
open Go Go.RowKit

def ixOf : List ByteArray → ByteArray → Int → Int
  | [], _, _ => -1
  | x :: l, s, i => if x = s then i else ixOf l s (i + 1)
def idx (l : List ByteArray) (s : ByteArray) : Int := ixOf l s 0
theorem drop_some {α : Type} {l : List α} {i : Nat} {x : α} (h : l[i]? = some x) : l.drop i = x :: l.drop (i + 1) := by
  obtain ⟨h1, h2⟩ := List.getElem?_eq_some_iff.1 h
  rw [List.drop_eq_getElem_cons h1, h2]
def isNamed (k : Int) : Bool := decide (k = 1) || decide (k = 2)
def exV (x : Ex) (v : Value) : Value := .agg #[.int .i64 x.kind, .int .i64 x.n, .int .i64 x.no, .string x.name, v]
theorem within_c {B I L w} (H : Hp B I w L) (a b c : Int) : Calls Tryz.prog 144 #[.int .i64 a, .int .i64 b, .int .i64 c] w (Rt fun r w' => r = .bool (decide (b ≤ a) && decide (a ≤ c)) ∧ Hp B I w' L) := by
  refine calls_st (n := 15) Tryz.func144 rfl rfl rfl ?_
  intro G bF cs hb hfn hR hP
  simp only [ini]
  refine st_seq ?_
  refine st_region ?_
  refine sr_op rfl rfl (ow_assign (v := .bool false) rfl ?_)
  refine sr_nil ?_
  refine st_seq ?_
  refine st_region ?_
  refine sr_op rfl rfl (ow_move (v := .int .i64 a) rfl ?_)
  refine sr_op rfl rfl (ow_move (v := .int .i64 b) rfl ?_)
  refine sr_op rfl rfl (ow_geq rfl rfl ?_)
  refine sr_op rfl rfl (ow_move (v := .bool (decide (b ≤ a))) rfl ?_)
  refine sr_cut 4 (fun m_ w_ => ∃ (r_ : Sl) (v_ : Bool), m_ = (14, .bool v_) :: (6, .bool false) :: r_ ∧ Hp B I w_ (L) ∧ v_ = ((decide (b ≤ a)) && (decide (a ≤ c)))) (fun again => ?_) ?_
  · rcases hg : decide (b ≤ a) with _ | _
    · refine sr_pass rfl (j := 3) (d := 10) rfl rfl rfl (u := false) (v := true) rfl rfl ?_
      refine sr_pass rfl (j := 3) (d := 10) rfl rfl rfl (u := false) (v := true) rfl rfl ?_
      refine sr_pass rfl (j := 3) (d := 10) rfl rfl rfl (u := false) (v := true) rfl rfl ?_
      refine sr_op rfl rfl (ow_pick (v := .bool false) rfl rfl ?_)
      exact sr_live [14, 6] (again _ _ ⟨_, _, rfl, H, by rw [hg] <;> rfl⟩)
    · refine sr_want rfl (j := 3) (d := 10) rfl rfl rfl (v := true) rfl rfl (ow_move (v := .int .i64 a) rfl ?_)
      refine sr_want rfl (j := 3) (d := 10) rfl rfl rfl (v := true) rfl rfl (ow_move (v := .int .i64 c) rfl ?_)
      refine sr_want rfl (j := 3) (d := 10) rfl rfl rfl (v := true) rfl rfl (ow_leq rfl rfl ?_)
      refine sr_op rfl rfl (ow_pick (v := .bool (decide (a ≤ c))) rfl rfl ?_)
      exact sr_live [14, 6] (again _ _ ⟨_, _, rfl, H, by rw [hg] <;> rfl⟩)
  rintro _ _ ⟨r, _, rfl, H, rfl⟩
  refine sr_op rfl rfl (ow_assign (v := .bool ((decide (b ≤ a)) && (decide (a ≤ c)))) rfl ?_)
  refine sr_nil ?_
  refine st_ret hb (hR _ _ (.bool ((decide (b ≤ a)) && (decide (a ≤ c)))) (res_run (vs := [.bool ((decide (b ≤ a)) && (decide (a ≤ c)))]) Tryz.results144 ⟨_, _, rfl, rfl, rfl⟩) ?_)
  exact ⟨_, rfl, rfl, H⟩
theorem isNamed_c {B I L w} (H : Hp B I w L) (k n no : Int) (nm : ByteArray) (v : Value) : Calls Tryz.prog 121 #[.agg #[.int .i64 k, .int .i64 n, .int .i64 no, .string nm, v]] w (Rt fun r w' => r = .bool (isNamed k) ∧ Hp B I w' L) := by
  refine calls_st (n := 11) Tryz.func121 rfl rfl rfl ?_
  intro G bF cs hb hfn hR hP
  simp only [ini]
  refine st_seq ?_
  refine st_region ?_
  refine sr_op rfl rfl (ow_box H (v := .agg #[.int .i64 k, .int .i64 n, .int .i64 no, .string nm, v]) rfl [.int .i64 k, .int .i64 n, .int .i64 no, .string nm, v] rfl (fun g1 _ H => ?_))
  refine sr_op rfl rfl (ow_assign (v := .bool false) rfl ?_)
  refine sr_nil ?_
  refine st_seq ?_
  refine st_region ?_
  refine sr_op rfl rfl (ow_fieldAddr fd26_0 ty3 rfl rfl (r := 0) rfl ?_)
  refine sr_op rfl rfl (ow_load (v := .int .i64 k) ty3 H rfl 0 rfl rfl rfl rfl ?_)
  refine sr_op rfl rfl (ow_eql rfl rfl ?_)
  refine sr_op rfl rfl (ow_move (v := .bool (decide (k = 1))) rfl ?_)
  refine sr_cut 4 (fun m_ w_ => ∃ (r_ : Sl) (v_ : Bool), m_ = (10, .bool v_) :: (2, .bool false) :: r_ ∧ Hp B I w_ ((g1, Ob [.int .i64 k, .int .i64 n, .int .i64 no, .string nm, v] 26) :: L) ∧ v_ = ((decide (k = 1)) || (decide (k = 2)))) (fun again => ?_) ?_
  · rcases hg : decide (k = 1) with _ | _
    · refine sr_want rfl (j := 3) (d := 6) rfl rfl rfl (v := false) rfl rfl (ow_fieldAddr fd26_0 ty3 rfl rfl (r := 0) rfl ?_)
      refine sr_want rfl (j := 3) (d := 6) rfl rfl rfl (v := false) rfl rfl (ow_load (v := .int .i64 k) ty3 H rfl 0 rfl rfl rfl rfl ?_)
      refine sr_want rfl (j := 3) (d := 6) rfl rfl rfl (v := false) rfl rfl (ow_eql rfl rfl ?_)
      refine sr_op rfl rfl (ow_pick (v := .bool (decide (k = 2))) rfl rfl ?_)
      exact sr_live [10, 2] (again _ _ ⟨_, _, rfl, H, by rw [hg] <;> rfl⟩)
    · refine sr_pass rfl (j := 3) (d := 6) rfl rfl rfl (u := true) (v := false) rfl rfl ?_
      refine sr_pass rfl (j := 3) (d := 6) rfl rfl rfl (u := true) (v := false) rfl rfl ?_
      refine sr_pass rfl (j := 3) (d := 6) rfl rfl rfl (u := true) (v := false) rfl rfl ?_
      refine sr_op rfl rfl (ow_pick (v := .bool true) rfl rfl ?_)
      exact sr_live [10, 2] (again _ _ ⟨_, _, rfl, H, by rw [hg] <;> rfl⟩)
  rintro _ _ ⟨r, _, rfl, H, rfl⟩
  refine sr_op rfl rfl (ow_assign (v := .bool ((decide (k = 1)) || (decide (k = 2)))) rfl ?_)
  refine sr_nil ?_
  refine st_ret hb (hR _ _ (.bool ((decide (k = 1)) || (decide (k = 2)))) (res_run (vs := [.bool ((decide (k = 1)) || (decide (k = 2)))]) Tryz.results121 ⟨_, _, rfl, rfl, rfl⟩) ?_)
  exact ⟨_, rfl, rfl, H.drop 1⟩
theorem index_c {B I L w} (H : Hp B I w L) {l : List ByteArray} {v : Value} (hl : RepS encS I 1 l v) (s : ByteArray) : Calls Tryz.prog 122 #[v, .string s] w (Rt fun r w' => r = .int .i64 (idx l s) ∧ Hp B I w' L) := by
  obtain ⟨A, c, rfl, hlc, hcm, hl⟩ := hl.open_
  refine calls_st (n := 19) Tryz.func122 rfl rfl rfl ?_
  intro G bF cs hb hfn hR hP
  simp only [ini]
  refine st_seq ?_
  refine st_region ?_
  refine sr_op rfl rfl (ow_assign (v := .int .i64 0) rfl ?_)
  refine sr_nil ?_
  refine st_seq ?_
  refine st_seq ?_
  refine st_region ?_
  refine sr_op rfl rfl (ow_move (v := .slice A l.length c) rfl ?_)
  refine sr_op rfl rfl (ow_lenS sl22 rfl rfl ?_)
  refine sr_op rfl rfl (ow_move (v := .int .i64 0) rfl ?_)
  refine sr_nil ?_
  refine st_block ?_
  refine st_loop ?_
  refine st_live [0, 1, 6, 7, 8] ?_
  refine st_ind (fun d_ m_ w_ => ∃ (i : Nat) (r_ : Sl), d_ = l.length - i ∧ m_ = (0, .slice A l.length c) :: (1, .string s) :: (6, .slice A l.length c) :: (7, .int .i64 (l.length : Int)) :: (8, .int .i64 (i : Int)) :: r_ ∧ Hp B I w_ (L) ∧ i ≤ l.length ∧ idx l s = ixOf (l.drop i) s (i : Int)) _ ⟨0, _, rfl, rfl, H, Nat.zero_le _, rfl⟩ ?_
  rintro _ _ _ ⟨i, r1, rfl, rfl, H, hi, hix⟩ ih2
  refine st_seq ?_
  refine st_region ?_
  refine sr_op rfl rfl (ow_lss rfl rfl ?_)
  refine sr_nil ?_
  refine st_seq ?_
  refine st_cond (decide ((i : Int) < (l.length : Int))) rfl (fun hc3 => ?_) (fun hc3 => ?_)
  · have hc3 := of_decide_eq_true hc3
    refine st_skip ?_
    refine st_seq ?_
    refine st_block ?_
    refine st_seq ?_
    refine st_region ?_
    refine sr_op rfl rfl (ow_move (v := .int .i64 (i : Int)) rfl ?_)
    refine sr_op rfl rfl (ow_assign (v := .int .i64 (i : Int)) rfl ?_)
    refine sr_nil ?_
    refine st_seq ?_
    refine st_region ?_
    refine sr_op rfl rfl (ow_move (v := .string s) rfl ?_)
    refine sr_op rfl rfl (ow_move (v := .slice A l.length c) rfl ?_)
    refine sr_op rfl rfl (ow_move (v := .int .i64 (i : Int)) rfl ?_)
    obtain ⟨x4, he4⟩ : ∃ q_, l[i]? = some q_ := ⟨_, List.getElem?_eq_getElem (by omega)⟩
    obtain ⟨b4, o4, us4, hA4, hat4, hul4, hr4⟩ := RepS.get hl he4
    obtain ⟨rfl, x463⟩ := s_iff.1 hr4
    refine sr_op rfl rfl (ow_indexAddrA sl22 ty9 hA4 rfl rfl (by omega) (by omega) (r := o4 + i * 1) rfl ?_)
    refine sr_op rfl rfl (ow_loadI (v := .string x4) ty9 H rfl hat4 rfl rfl rfl ?_)
    refine sr_op rfl rfl (ow_seq rfl rfl ?_)
    refine sr_nil ?_
    refine st_cond (decide (s = x4)) rfl (fun hc5 => ?_) (fun hc5 => ?_)
    · have hc5 := of_decide_eq_true hc5
      subst hc5
      refine st_seq ?_
      refine st_region ?_
      refine sr_op rfl rfl (ow_move (v := .int .i64 (i : Int)) rfl ?_)
      refine sr_op rfl rfl (ow_assign (v := .int .i64 (i : Int)) rfl ?_)
      refine sr_nil ?_
      refine st_ret hb (hR _ _ (.int .i64 (i : Int)) (res_run (vs := [.int .i64 (i : Int)]) Tryz.results122 ⟨_, _, rfl, rfl, rfl⟩) ?_)
      refine ⟨_, rfl, ?_, H⟩
      rw [hix, drop_some he4]
      simp [ixOf]
    · have hne := of_decide_eq_false hc5
      refine st_skip ?_
      refine st_inBlock ?_
      refine st_region ?_
      refine sr_op rfl rfl (ow_add (r := ((i + 1 : Nat) : Int)) rfl rfl (inc_i64 (by omega)) ?_)
      refine sr_op rfl rfl (ow_move (v := .int .i64 ((i + 1 : Nat) : Int)) rfl ?_)
      refine sr_nil ?_
      exact st_inLoop (st_live [0, 1, 6, 7, 8] (ih2 _ _ _ (by omega) ⟨i + 1, _, rfl, rfl, H, by omega, by rw [hix, drop_some he4]; simp only [ixOf]; rw [if_neg (fun e => hne e.symm)]; rfl⟩))
  · have hc3 := of_decide_eq_false hc3
    refine st_exit rfl ?_
    refine st_seq ?_
    refine st_region ?_
    refine sr_op rfl rfl (ow_assign (v := .int .i64 (-1)) rfl ?_)
    refine sr_nil ?_
    refine st_ret hb (hR _ _ (.int .i64 (-1)) (res_run (vs := [.int .i64 (-1)]) Tryz.results122 ⟨_, _, rfl, rfl, rfl⟩) ?_)
    refine ⟨_, rfl, ?_, H⟩
    have : l.drop i = [] := List.drop_of_length_le (by omega)
    rw [hix, this]
    rfl
theorem contains_c {B I L w} (H : Hp B I w L) {l : List ByteArray} {v : Value} (hl : RepS encS I 1 l v) (s : ByteArray) : Calls Tryz.prog 143 #[v, .string s] w (Rt fun r w' => r = .bool (decide (0 ≤ idx l s)) ∧ Hp B I w' L) := by
  refine calls_st (n := 9) Tryz.func143 rfl rfl rfl ?_
  intro G bF cs hb hfn hR hP
  simp only [ini]
  refine st_seq ?_
  refine st_region ?_
  refine sr_op rfl rfl (ow_assign (v := .bool false) rfl ?_)
  refine sr_nil ?_
  refine st_seq ?_
  refine st_region ?_
  refine sr_op rfl rfl (ow_move (v := v) rfl ?_)
  refine sr_op rfl rfl (ow_move (v := .string s) rfl ?_)
  refine sr_op rfl rfl (ow_call en122 rfl (index_c H hl s) ?_)
  rintro _ _ ⟨rfl, H⟩
  refine sr_op rfl rfl (ow_geq rfl rfl ?_)
  refine sr_op rfl rfl (ow_assign (v := .bool (decide (0 ≤ (idx l s)))) rfl ?_)
  refine sr_nil ?_
  refine st_ret hb (hR _ _ (.bool (decide (0 ≤ (idx l s)))) (res_run (vs := [.bool (decide (0 ≤ (idx l s)))]) Tryz.results143 ⟨_, _, rfl, rfl, rfl⟩) ?_)
  exact ⟨_, rfl, rfl, H⟩
def stopV (e : Int) : List PanicEntry := [{ v := .iface 187 (.agg #[.int .i64 e]), recovered := false }]
theorem must_yes {B I L w} (H : Hp B I w L) (e : Int) : Calls Tryz.prog 139 #[.bool true, .int .i64 e] w (Rt fun r w' => Hp B I w' L) := by
  refine calls_st (n := 9) Tryz.func139 rfl rfl rfl ?_
  intro G bF cs hb hfn hR hP
  simp only [ini]
  refine st_seq ?_
  refine st_region ?_
  refine sr_op rfl rfl (ow_move (v := .bool true) rfl ?_)
  refine sr_op rfl rfl (ow_not rfl ?_)
  refine sr_nil ?_
  refine st_no rfl ?_
  refine st_skip ?_
  refine st_end hb (hR _ _ (.tuple #[]) (res_run (vs := []) Tryz.results139 rfl) ?_)
  exact ⟨_, rfl, H⟩
theorem must_no {B I L w} (H : Hp B I w L) (e : Int) : Calls Tryz.prog 139 #[.bool false, .int .i64 e] w (fun q w' => q = .panicked (stopV e) ∧ Hp B I w' L) := by
  refine calls_st (n := 9) Tryz.func139 rfl rfl rfl ?_
  intro G bF cs hb hfn hR hP
  simp only [ini]
  refine st_seq ?_
  refine st_region ?_
  refine sr_op rfl rfl (ow_move (v := .bool false) rfl ?_)
  refine sr_op rfl rfl (ow_not rfl ?_)
  refine sr_nil ?_
  refine st_yes rfl ?_
  refine st_region ?_
  refine sr_op rfl rfl (ow_move (v := .int .i64 e) rfl ?_)
  refine sr_op rfl rfl (ow_build (ps := [(0, .int .i64 e)]) (v := .agg #[.int .i64 e]) rfl (fun _ => by kernel_rfl) ?_)
  refine sr_op rfl rfl (ow_iface (v := .agg #[.int .i64 e]) Tryz.underlying187 rfl rfl ?_)
  refine sr_op rfl rfl (ow_panic rfl ?_)
  exact (hP _ _ ⟨rfl, H⟩).one
end Go.Proofs.YtghmjnbpkobooaaGreatDoor
