/-
  Walks: small functions of lex and of its reference; lists of tokens.
-/
import Derived.Test.YtghmjnbpkobooaaGreatDoorQ0
set_option linter.unusedVariables false
set_option linter.unusedSimpArgs false
set_option maxRecDepth 10000
set_option maxHeartbeats 4000000
namespace Go.Proofs.YtghmjnbpkobooaaGreatDoor
open Go Go.RowKit

theorem indexI_c {B I L w} (H : Hp B I w L) {l : List Int} {v : Value} (hl : RepS encI I 1 l v) (s : Int) : Calls Tryz.prog 168 #[v, .int .i64 s] w (Rt fun r w' => r = .int .i64 (idxI l s) ∧ Hp B I w' L) := by
  obtain ⟨s0A, s0c, rfl, s0m, s0M, s0⟩ := RepS.open_ hl
  refine calls_st (n := 19) Tryz.func168 rfl rfl rfl ?_
  intro G bF cs hb hfn hR hP
  simp only [ini]
  refine st_seq ?_
  refine st_region ?_
  refine sr_op rfl rfl (ow_assign (v := .int .i64 0) rfl ?_)
  refine sr_nil ?_
  refine st_seq ?_
  refine st_seq ?_
  refine st_region ?_
  refine sr_op rfl rfl (ow_move (v := .slice s0A l.length s0c) rfl ?_)
  refine sr_op rfl rfl (ow_lenS sl30 rfl rfl ?_)
  refine sr_op rfl rfl (ow_move (v := .int .i64 0) rfl ?_)
  refine sr_nil ?_
  refine st_block ?_
  refine st_loop ?_
  refine st_live [0, 1, 4, 7, 8] ?_
  refine st_ind (fun d_ m_ w_ => ∃ (i : Nat) (r_ : Sl), d_ = l.length - i ∧ m_ = (0, .slice s0A l.length s0c) :: (1, .int .i64 s) :: (4, .int .i64 0) :: (7, .int .i64 (l.length : Int)) :: (8, .int .i64 (i : Int)) :: r_ ∧ Hp B I w_ (L) ∧ i ≤ l.length ∧ idxI l s = ixOfI (l.drop i) s (i : Int)) _ ⟨0, _, rfl, rfl, H, Nat.zero_le _, rfl⟩ ?_
  rintro _ _ _ ⟨i, r2, rfl, rfl, H, hi, hix⟩ ih3
  refine st_seq ?_
  refine st_region ?_
  refine sr_op rfl rfl (ow_lss rfl rfl ?_)
  refine sr_nil ?_
  refine st_seq ?_
  refine st_cond (decide ((i : Int) < (l.length : Int))) rfl (fun hc4 => ?_) (fun hc4 => ?_)
  · have hc4 := of_decide_eq_true hc4
    refine st_skip ?_
    refine st_seq ?_
    refine st_block ?_
    refine st_seq ?_
    refine st_region ?_
    refine sr_op rfl rfl (ow_move (v := .int .i64 (i : Int)) rfl ?_)
    refine sr_op rfl rfl (ow_assign (v := .int .i64 (i : Int)) rfl ?_)
    refine sr_nil ?_
    refine st_seq ?_
    refine st_region ?_
    refine sr_op rfl rfl (ow_move (v := .int .i64 s) rfl ?_)
    refine sr_op rfl rfl (ow_move (v := .slice s0A l.length s0c) rfl ?_)
    refine sr_op rfl rfl (ow_move (v := .int .i64 (i : Int)) rfl ?_)
    obtain ⟨e5, he5⟩ : ∃ q_, l[i]? = some q_ := ⟨_, List.getElem?_eq_getElem (by omega)⟩
    obtain ⟨b5, o5, us5, hA5, hat5, hul5, hr5⟩ := RepS.get s0 he5
    have d5 := hr5
    obtain ⟨rfl, d5_0⟩ := i_iff.1 hr5
    refine sr_op rfl rfl (ow_indexAddrA sl30 ty3 hA5 rfl rfl (by omega) (by omega) (r := o5 + i * 1) rfl ?_)
    refine sr_op rfl rfl (ow_loadI (v := .int .i64 e5) ty3 H rfl hat5 rfl rfl rfl ?_)
    refine sr_op rfl rfl (ow_eql rfl rfl ?_)
    refine sr_nil ?_
    refine st_cond (decide (s = e5)) rfl (fun hc6 => ?_) (fun hc6 => ?_)
    · have hc6 := of_decide_eq_true hc6
      subst hc6
      refine st_seq ?_
      refine st_region ?_
      refine sr_op rfl rfl (ow_move (v := .int .i64 (i : Int)) rfl ?_)
      refine sr_op rfl rfl (ow_assign (v := .int .i64 (i : Int)) rfl ?_)
      refine sr_nil ?_
      refine st_ret hb (hR _ _ (.int .i64 (i : Int)) (res_run (vs := [.int .i64 (i : Int)]) Tryz.results168 ⟨_, _, rfl, rfl, rfl⟩) ?_)
      refine ⟨_, rfl, ?_, H⟩
      rw [hix, drop_some he5]
      simp [ixOfI]
    · have hc6 := of_decide_eq_false hc6
      refine st_skip ?_
      refine st_inBlock ?_
      refine st_region ?_
      refine sr_op rfl rfl (ow_add (r := ((i + 1 : Nat) : Int)) rfl rfl (inc_i64 (by omega)) ?_)
      refine sr_op rfl rfl (ow_move (v := .int .i64 ((i + 1 : Nat) : Int)) rfl ?_)
      refine sr_nil ?_
      exact st_inLoop (st_live [0, 1, 4, 7, 8] (ih3 _ _ _ (by omega) ⟨i + 1, _, rfl, rfl, H, by omega, by rw [hix, drop_some he5]; simp only [ixOfI]; rw [if_neg (fun e => hc6 e.symm)]; rfl⟩))
  · have hc4 := of_decide_eq_false hc4
    refine st_exit rfl ?_
    refine st_seq ?_
    refine st_region ?_
    refine sr_op rfl rfl (ow_assign (v := .int .i64 (-1)) rfl ?_)
    refine sr_nil ?_
    refine st_ret hb (hR _ _ (.int .i64 (-1)) (res_run (vs := [.int .i64 (-1)]) Tryz.results168 ⟨_, _, rfl, rfl, rfl⟩) ?_)
    refine ⟨_, rfl, ?_, H⟩
    have : l.drop i = [] := List.drop_of_length_le (by omega)
    rw [hix, this]
    rfl
theorem containsI_c {B I L w} (H : Hp B I w L) {l : List Int} {v : Value} (hl : RepS encI I 1 l v) (s : Int) : Calls Tryz.prog 234 #[v, .int .i64 s] w (Rt fun r w' => r = .bool (inK l s) ∧ Hp B I w' L) := by
  obtain ⟨s0A, s0c, rfl, s0m, s0M, s0⟩ := RepS.open_ hl
  refine calls_st (n := 9) Tryz.func234 rfl rfl rfl ?_
  intro G bF cs hb hfn hR hP
  simp only [ini]
  refine st_seq ?_
  refine st_region ?_
  refine sr_op rfl rfl (ow_assign (v := .bool false) rfl ?_)
  refine sr_nil ?_
  refine st_seq ?_
  refine st_region ?_
  refine sr_op rfl rfl (ow_move (v := .slice s0A l.length s0c) rfl ?_)
  refine sr_op rfl rfl (ow_move (v := .int .i64 s) rfl ?_)
  refine sr_op rfl rfl (ow_call en168 rfl (indexI_c H s0 s) ?_)
  rintro _ _ ⟨rfl, H⟩
  refine sr_op rfl rfl (ow_geq rfl rfl ?_)
  refine sr_op rfl rfl (ow_assign (v := .bool (decide (0 ≤ (idxI l s)))) rfl ?_)
  refine sr_nil ?_
  refine st_ret hb (hR _ _ (.bool (decide (0 ≤ (idxI l s)))) (res_run (vs := [.bool (decide (0 ≤ (idxI l s)))]) Tryz.results234 ⟨_, _, rfl, rfl, rfl⟩) ?_)
  exact ⟨_, rfl, rfl, H⟩
def prefB (s p : ByteArray) : Bool := decide ((p.size : Int) ≤ (s.size : Int)) && decide (s.extract 0 p.size = p)
theorem HasPrefix1_c {B I L w} (H : Hp B I w L) (s p : ByteArray) : Calls Tryz.prog 105 #[.string s, .string p] w (Rt fun r w' => r = .bool (prefB s p) ∧ Hp B I w' L) := by
  refine calls_st (n := 18) Tryz.func105 rfl rfl rfl ?_
  intro G bF cs hb hfn hR hP
  simp only [ini]
  refine st_seq ?_
  refine st_region ?_
  refine sr_op rfl rfl (ow_assign (v := .bool false) rfl ?_)
  refine sr_nil ?_
  refine st_seq ?_
  refine st_region ?_
  refine sr_op rfl rfl (ow_move (v := .string s) rfl ?_)
  refine sr_op rfl rfl (ow_lenT un9 rfl rfl ?_)
  refine sr_op rfl rfl (ow_move (v := .string p) rfl ?_)
  refine sr_op rfl rfl (ow_lenT un9 rfl rfl ?_)
  refine sr_op rfl rfl (ow_geq rfl rfl ?_)
  refine sr_op rfl rfl (ow_move (v := .bool (decide ((p.size : Int) ≤ (s.size : Int)))) rfl ?_)
  refine sr_cut 7 (fun m_ w_ => ∃ (r_ : Sl) (v_ : Bool), m_ = (17, .bool v_) :: (4, .bool false) :: r_ ∧ Hp B I w_ (L) ∧ v_ = ((decide ((p.size : Int) ≤ (s.size : Int))) && (decide ((s.extract 0 p.size) = p)))) (fun again => ?_) ?_
  · rcases hg : decide ((p.size : Int) ≤ (s.size : Int)) with _ | _
    · refine sr_pass rfl (j := 5) (d := 10) rfl rfl rfl (u := false) (v := true) rfl rfl ?_
      refine sr_pass rfl (j := 5) (d := 10) rfl rfl rfl (u := false) (v := true) rfl rfl ?_
      refine sr_pass rfl (j := 5) (d := 10) rfl rfl rfl (u := false) (v := true) rfl rfl ?_
      refine sr_pass rfl (j := 5) (d := 10) rfl rfl rfl (u := false) (v := true) rfl rfl ?_
      refine sr_pass rfl (j := 5) (d := 10) rfl rfl rfl (u := false) (v := true) rfl rfl ?_
      refine sr_pass rfl (j := 5) (d := 10) rfl rfl rfl (u := false) (v := true) rfl rfl ?_
      refine sr_op rfl rfl (ow_pick (v := .bool false) rfl rfl ?_)
      exact sr_live [17, 4] (again _ _ ⟨_, _, rfl, H, by rw [hg] <;> rfl⟩)
    · refine sr_want rfl (j := 5) (d := 10) rfl rfl rfl (v := true) rfl rfl (ow_move (v := .string s) rfl ?_)
      refine sr_want rfl (j := 5) (d := 10) rfl rfl rfl (v := true) rfl rfl (ow_move (v := .string p) rfl ?_)
      refine sr_want rfl (j := 5) (d := 10) rfl rfl rfl (v := true) rfl rfl (ow_lenT un9 rfl rfl ?_)
      refine sr_want rfl (j := 5) (d := 10) rfl rfl rfl (v := true) rfl rfl (ow_cutT (a := 0) (c := p.size) un9 rfl (.inl ⟨rfl, rfl⟩) (.inr ⟨_, rfl⟩) (by omega) (by first | omega | (simp at hg; omega)) ?_)
      refine sr_want rfl (j := 5) (d := 10) rfl rfl rfl (v := true) rfl rfl (ow_move (v := .string p) rfl ?_)
      refine sr_want rfl (j := 5) (d := 10) rfl rfl rfl (v := true) rfl rfl (ow_seq rfl rfl ?_)
      refine sr_op rfl rfl (ow_pick (v := .bool (decide ((s.extract 0 p.size) = p))) rfl rfl ?_)
      exact sr_live [17, 4] (again _ _ ⟨_, _, rfl, H, by rw [hg] <;> rfl⟩)
  rintro _ _ ⟨r, _, rfl, H, rfl⟩
  refine sr_op rfl rfl (ow_assign (v := .bool ((decide ((p.size : Int) ≤ (s.size : Int))) && (decide ((s.extract 0 p.size) = p)))) rfl ?_)
  refine sr_nil ?_
  refine st_ret hb (hR _ _ (.bool ((decide ((p.size : Int) ≤ (s.size : Int))) && (decide ((s.extract 0 p.size) = p)))) (res_run (vs := [.bool ((decide ((p.size : Int) ≤ (s.size : Int))) && (decide ((s.extract 0 p.size) = p)))]) Tryz.results105 ⟨_, _, rfl, rfl, rfl⟩) ?_)
  exact ⟨_, rfl, rfl, H⟩
theorem HasPrefix_c {B I L w} (H : Hp B I w L) (s p : ByteArray) : Calls Tryz.prog 38 #[.string s, .string p] w (Rt fun r w' => r = .bool (prefB s p) ∧ Hp B I w' L) := by
  refine calls_st (n := 8) Tryz.func38 rfl rfl rfl ?_
  intro G bF cs hb hfn hR hP
  simp only [ini]
  refine st_seq ?_
  refine st_region ?_
  refine sr_op rfl rfl (ow_assign (v := .bool false) rfl ?_)
  refine sr_nil ?_
  refine st_seq ?_
  refine st_region ?_
  refine sr_op rfl rfl (ow_move (v := .string s) rfl ?_)
  refine sr_op rfl rfl (ow_move (v := .string p) rfl ?_)
  refine sr_op rfl rfl (ow_call en105 rfl (HasPrefix1_c H s p) ?_)
  rintro _ _ ⟨rfl, H⟩
  refine sr_op rfl rfl (ow_assign (v := .bool (prefB s p)) rfl ?_)
  refine sr_nil ?_
  refine st_ret hb (hR _ _ (.bool (prefB s p)) (res_run (vs := [.bool (prefB s p)]) Tryz.results38 ⟨_, _, rfl, rfl, rfl⟩) ?_)
  exact ⟨_, rfl, rfl, H⟩
theorem valid1 {t : Tk} (h : t.kind = 1) : validB t = (nameB t.text && decide (t.n = 0)) := by rw [validB, if_pos h]
theorem valid2 {t : Tk} (h : t.kind = 2) : validB t = ((decide (t.text = ⟨#[]⟩) && decide (0 ≤ t.n)) && decide (t.n ≤ 1099511627776)) := by
  rw [validB, if_neg (by omega), if_pos h]
theorem valid3 {t : Tk} {u : UInt8} (h : t.kind = 3) (hu : 0 < t.text.size → t.text[0]? = some u ∧ t.text.data.toList[0]? = some u) : validB t = ((decide ((t.text.size : Int) = 1) && decide (classI (u.toNat : Int) = 4)) && decide (t.n = 0)) := by
  rw [validB, if_neg (by omega), if_neg (by omega), if_pos h]
  by_cases h1 : (t.text.size : Int) = 1
  · rw [← hd_at (hu (by omega)).2]
  · rw [decide_eq_false h1]
    rfl
theorem valid0 {t : Tk} (h1 : ¬ t.kind = 1) (h2 : ¬ t.kind = 2) (h3 : ¬ t.kind = 3) : validB t = false := by
  rw [validB, if_neg h1, if_neg h2, if_neg h3]
def signL (c : Int) : Bool := signS.data.toList.any fun u => decide ((u.toNat : Int) = c)
theorem sign_class (u : UInt8) : signL (u.toNat : Int) = decide (classI (u.toNat : Int) = 4) := by
  have h : ((List.range 256).all fun n => signL (n : Int) == decide (classI (n : Int) = 4)) = true := by kernel_rfl
  have h2 := List.all_eq_true.1 h u.toNat (List.mem_range.2 u.toNat_lt)
  exact eq_of_beq h2
theorem valid_c {B I L w} (H : Hp B I w L) {t : Tk} {us : List Value} (ht : RepL I (encTk t) us) : Calls Tryz.prog 100 #[.agg us.toArray] w (Rt fun r w' => r = .bool (validB t) ∧ Hp B I w' L) := by
  obtain ⟨u, hu⟩ := byte_of t.text 0
  have d0 := ht
  obtain ⟨rfl, d0_0, d0_1, d0_2, d0_3⟩ := tk_iff.1 ht
  refine calls_st (n := 48) Tryz.func100 rfl rfl rfl ?_
  intro G bF cs hb hfn hR hP
  simp only [ini]
  refine st_seq ?_
  refine st_region ?_
  refine sr_op rfl rfl (ow_box H (v := .agg #[.int .i64 t.kind, .string t.text, .int .i64 t.n, .int .i64 t.at_]) rfl [.int .i64 t.kind, .string t.text, .int .i64 t.n, .int .i64 t.at_] rfl (fun g1 _ H => ?_))
  refine sr_op rfl rfl (ow_assign (v := .bool false) rfl ?_)
  refine sr_nil ?_
  refine st_seq ?_
  refine st_seq ?_
  refine st_region ?_
  refine sr_op rfl rfl (ow_fieldAddr fd71_0 ty3 rfl rfl (r := 0) rfl ?_)
  refine sr_op rfl rfl (ow_load (v := .int .i64 t.kind) ty3 H rfl 0 rfl rfl rfl rfl ?_)
  refine sr_nil ?_
  refine st_block ?_
  refine st_seq ?_
  refine st_region ?_
  refine sr_op rfl rfl (ow_eql rfl rfl ?_)
  refine sr_op rfl rfl (ow_assign (v := .bool (decide (t.kind = 1))) rfl ?_)
  refine sr_nil ?_
  refine st_cond (decide (t.kind = 1)) rfl (fun hc2 => ?_) (fun hc2 => ?_)
  · have hc2 := of_decide_eq_true hc2
    refine st_seq ?_
    refine st_region ?_
    refine sr_op rfl rfl (ow_fieldAddr fd71_1 ty9 rfl rfl (r := 1) rfl ?_)
    refine sr_op rfl rfl (ow_load (v := .string t.text) ty9 H rfl 0 rfl rfl rfl rfl ?_)
    refine sr_op rfl rfl (ow_call en195 rfl (Name_c H t.text d0_1) ?_)
    rintro _ _ ⟨rfl, H⟩
    refine sr_op rfl rfl (ow_move (v := .bool (nameB t.text)) rfl ?_)
    refine sr_cut 4 (fun m_ w_ => ∃ (r_ : Sl) (v_ : Bool), m_ = (14, .bool v_) :: (2, .bool false) :: r_ ∧ Hp B I w_ ((g1, Ob [.int .i64 t.kind, .string t.text, .int .i64 t.n, .int .i64 t.at_] 71) :: L) ∧ v_ = ((nameB t.text) && (decide (t.n = 0)))) (fun again => ?_) ?_
    · rcases hg : nameB t.text with _ | _
      · refine sr_pass rfl (j := 3) (d := 10) rfl rfl rfl (u := false) (v := true) rfl rfl ?_
        refine sr_pass rfl (j := 3) (d := 10) rfl rfl rfl (u := false) (v := true) rfl rfl ?_
        refine sr_pass rfl (j := 3) (d := 10) rfl rfl rfl (u := false) (v := true) rfl rfl ?_
        refine sr_op rfl rfl (ow_pick (v := .bool false) rfl rfl ?_)
        exact sr_live [14, 2] (again _ _ ⟨_, _, rfl, H, by rw [hg] <;> rfl⟩)
      · refine sr_want rfl (j := 3) (d := 10) rfl rfl rfl (v := true) rfl rfl (ow_fieldAddr fd71_2 ty3 rfl rfl (r := 2) rfl ?_)
        refine sr_want rfl (j := 3) (d := 10) rfl rfl rfl (v := true) rfl rfl (ow_load (v := .int .i64 t.n) ty3 H rfl 0 rfl rfl rfl rfl ?_)
        refine sr_want rfl (j := 3) (d := 10) rfl rfl rfl (v := true) rfl rfl (ow_eql rfl rfl ?_)
        refine sr_op rfl rfl (ow_pick (v := .bool (decide (t.n = 0))) rfl rfl ?_)
        exact sr_live [14, 2] (again _ _ ⟨_, _, rfl, H, by rw [hg] <;> rfl⟩)
    rintro _ _ ⟨r, _, rfl, H, rfl⟩
    refine sr_op rfl rfl (ow_assign (v := .bool ((nameB t.text) && (decide (t.n = 0)))) rfl ?_)
    refine sr_nil ?_
    refine st_ret hb (hR _ _ (.bool ((nameB t.text) && (decide (t.n = 0)))) (res_run (vs := [.bool ((nameB t.text) && (decide (t.n = 0)))]) Tryz.results100 ⟨_, _, rfl, rfl, rfl⟩) ?_)
    exact ⟨_, rfl, congrArg Value.bool (by rw [valid1 hc2]), (H.drop 1)⟩
  · have hc2 := of_decide_eq_false hc2
    refine st_seq ?_
    refine st_region ?_
    refine sr_op rfl rfl (ow_eql rfl rfl ?_)
    refine sr_op rfl rfl (ow_assign (v := .bool (decide (t.kind = 2))) rfl ?_)
    refine sr_nil ?_
    refine st_cond (decide (t.kind = 2)) rfl (fun hc3 => ?_) (fun hc3 => ?_)
    · have hc3 := of_decide_eq_true hc3
      refine st_seq ?_
      refine st_region ?_
      refine sr_op rfl rfl (ow_fieldAddr fd71_1 ty9 rfl rfl (r := 1) rfl ?_)
      refine sr_op rfl rfl (ow_load (v := .string t.text) ty9 H rfl 0 rfl rfl rfl rfl ?_)
      refine sr_op rfl rfl (ow_seq rfl rfl ?_)
      refine sr_op rfl rfl (ow_move (v := .bool (decide (t.text = ⟨#[]⟩))) rfl ?_)
      refine sr_cut 4 (fun m_ w_ => ∃ (r_ : Sl) (v_ : Bool), m_ = (24, .bool v_) :: (1, .pointer (some ⟨g1, 0, none⟩)) :: (2, .bool false) :: r_ ∧ Hp B I w_ ((g1, Ob [.int .i64 t.kind, .string t.text, .int .i64 t.n, .int .i64 t.at_] 71) :: L) ∧ v_ = ((decide (t.text = ⟨#[]⟩)) && (decide (0 ≤ t.n)))) (fun again => ?_) ?_
      · rcases hg : decide (t.text = ⟨#[]⟩) with _ | _
        · refine sr_pass rfl (j := 3) (d := 20) rfl rfl rfl (u := false) (v := true) rfl rfl ?_
          refine sr_pass rfl (j := 3) (d := 20) rfl rfl rfl (u := false) (v := true) rfl rfl ?_
          refine sr_pass rfl (j := 3) (d := 20) rfl rfl rfl (u := false) (v := true) rfl rfl ?_
          refine sr_op rfl rfl (ow_pick (v := .bool false) rfl rfl ?_)
          exact sr_live [24, 1, 2] (again _ _ ⟨_, _, rfl, H, by rw [hg] <;> rfl⟩)
        · refine sr_want rfl (j := 3) (d := 20) rfl rfl rfl (v := true) rfl rfl (ow_fieldAddr fd71_2 ty3 rfl rfl (r := 2) rfl ?_)
          refine sr_want rfl (j := 3) (d := 20) rfl rfl rfl (v := true) rfl rfl (ow_load (v := .int .i64 t.n) ty3 H rfl 0 rfl rfl rfl rfl ?_)
          refine sr_want rfl (j := 3) (d := 20) rfl rfl rfl (v := true) rfl rfl (ow_geq rfl rfl ?_)
          refine sr_op rfl rfl (ow_pick (v := .bool (decide (0 ≤ t.n))) rfl rfl ?_)
          exact sr_live [24, 1, 2] (again _ _ ⟨_, _, rfl, H, by rw [hg] <;> rfl⟩)
      rintro _ _ ⟨r, _, rfl, H, rfl⟩
      refine sr_op rfl rfl (ow_move (v := .bool ((decide (t.text = ⟨#[]⟩)) && (decide (0 ≤ t.n)))) rfl ?_)
      refine sr_cut 4 (fun m_ w_ => ∃ (r_ : Sl) (v_ : Bool), m_ = (29, .bool v_) :: (2, .bool false) :: r_ ∧ Hp B I w_ ((g1, Ob [.int .i64 t.kind, .string t.text, .int .i64 t.n, .int .i64 t.at_] 71) :: L) ∧ v_ = (((decide (t.text = ⟨#[]⟩)) && (decide (0 ≤ t.n))) && (decide (t.n ≤ 1099511627776)))) (fun again => ?_) ?_
      · rcases hg : (decide (t.text = ⟨#[]⟩)) && (decide (0 ≤ t.n)) with _ | _
        · refine sr_pass rfl (j := 8) (d := 25) rfl rfl rfl (u := false) (v := true) rfl rfl ?_
          refine sr_pass rfl (j := 8) (d := 25) rfl rfl rfl (u := false) (v := true) rfl rfl ?_
          refine sr_pass rfl (j := 8) (d := 25) rfl rfl rfl (u := false) (v := true) rfl rfl ?_
          refine sr_op rfl rfl (ow_pick (v := .bool false) rfl rfl ?_)
          exact sr_live [29, 2] (again _ _ ⟨_, _, rfl, H, by rw [hg] <;> rfl⟩)
        · refine sr_want rfl (j := 8) (d := 25) rfl rfl rfl (v := true) rfl rfl (ow_fieldAddr fd71_2 ty3 rfl rfl (r := 2) rfl ?_)
          refine sr_want rfl (j := 8) (d := 25) rfl rfl rfl (v := true) rfl rfl (ow_load (v := .int .i64 t.n) ty3 H rfl 0 rfl rfl rfl rfl ?_)
          refine sr_want rfl (j := 8) (d := 25) rfl rfl rfl (v := true) rfl rfl (ow_leq rfl rfl ?_)
          refine sr_op rfl rfl (ow_pick (v := .bool (decide (t.n ≤ 1099511627776))) rfl rfl ?_)
          exact sr_live [29, 2] (again _ _ ⟨_, _, rfl, H, by rw [hg] <;> rfl⟩)
      rintro _ _ ⟨r, _, rfl, H, rfl⟩
      refine sr_op rfl rfl (ow_assign (v := .bool (((decide (t.text = ⟨#[]⟩)) && (decide (0 ≤ t.n))) && (decide (t.n ≤ 1099511627776)))) rfl ?_)
      refine sr_nil ?_
      refine st_ret hb (hR _ _ (.bool (((decide (t.text = ⟨#[]⟩)) && (decide (0 ≤ t.n))) && (decide (t.n ≤ 1099511627776)))) (res_run (vs := [.bool (((decide (t.text = ⟨#[]⟩)) && (decide (0 ≤ t.n))) && (decide (t.n ≤ 1099511627776)))]) Tryz.results100 ⟨_, _, rfl, rfl, rfl⟩) ?_)
      exact ⟨_, rfl, congrArg Value.bool (by rw [valid2 hc3]), (H.drop 1)⟩
    · have hc3 := of_decide_eq_false hc3
      refine st_seq ?_
      refine st_region ?_
      refine sr_op rfl rfl (ow_eql rfl rfl ?_)
      refine sr_op rfl rfl (ow_assign (v := .bool (decide (t.kind = 3))) rfl ?_)
      refine sr_nil ?_
      refine st_cond (decide (t.kind = 3)) rfl (fun hc4 => ?_) (fun hc4 => ?_)
      · have hc4 := of_decide_eq_true hc4
        refine st_seq ?_
        refine st_region ?_
        refine sr_op rfl rfl (ow_fieldAddr fd71_1 ty9 rfl rfl (r := 1) rfl ?_)
        refine sr_op rfl rfl (ow_load (v := .string t.text) ty9 H rfl 0 rfl rfl rfl rfl ?_)
        refine sr_op rfl rfl (ow_lenT un9 rfl rfl ?_)
        refine sr_op rfl rfl (ow_eql rfl rfl ?_)
        refine sr_op rfl rfl (ow_move (v := .bool (decide ((t.text.size : Int) = 1))) rfl ?_)
        refine sr_cut 6 (fun m_ w_ => ∃ (r_ : Sl) (v_ : Bool), m_ = (42, .bool v_) :: (1, .pointer (some ⟨g1, 0, none⟩)) :: (2, .bool false) :: r_ ∧ Hp B I w_ ((g1, Ob [.int .i64 t.kind, .string t.text, .int .i64 t.n, .int .i64 t.at_] 71) :: L) ∧ v_ = ((decide ((t.text.size : Int) = 1)) && (decide ((classI (u.toNat : Int)) = 4)))) (fun again => ?_) ?_
        · rcases hg : decide ((t.text.size : Int) = 1) with _ | _
          · refine sr_pass rfl (j := 4) (d := 36) rfl rfl rfl (u := false) (v := true) rfl rfl ?_
            refine sr_pass rfl (j := 4) (d := 36) rfl rfl rfl (u := false) (v := true) rfl rfl ?_
            refine sr_pass rfl (j := 4) (d := 36) rfl rfl rfl (u := false) (v := true) rfl rfl ?_
            refine sr_pass rfl (j := 4) (d := 36) rfl rfl rfl (u := false) (v := true) rfl rfl ?_
            refine sr_pass rfl (j := 4) (d := 36) rfl rfl rfl (u := false) (v := true) rfl rfl ?_
            refine sr_op rfl rfl (ow_pick (v := .bool false) rfl rfl ?_)
            exact sr_live [42, 1, 2] (again _ _ ⟨_, _, rfl, H, by rw [hg] <;> rfl⟩)
          · refine sr_want rfl (j := 4) (d := 36) rfl rfl rfl (v := true) rfl rfl (ow_fieldAddr fd71_1 ty9 rfl rfl (r := 1) rfl ?_)
            refine sr_want rfl (j := 4) (d := 36) rfl rfl rfl (v := true) rfl rfl (ow_load (v := .string t.text) ty9 H rfl 0 rfl rfl rfl rfl ?_)
            refine sr_want rfl (j := 4) (d := 36) rfl rfl rfl (v := true) rfl rfl (ow_indexT un9 rfl rfl (by omega) (u := u) (hu (by first | omega | (simp at *; omega))).1 ?_)
            refine sr_want rfl (j := 4) (d := 36) rfl rfl rfl (v := true) rfl rfl (ow_call en99 rfl (class_c H (u.toNat : Int)) ?_)
            rintro _ _ ⟨rfl, H⟩
            refine sr_want rfl (j := 4) (d := 36) rfl rfl rfl (v := true) rfl rfl (ow_eql rfl rfl ?_)
            refine sr_op rfl rfl (ow_pick (v := .bool (decide ((classI (u.toNat : Int)) = 4))) rfl rfl ?_)
            exact sr_live [42, 1, 2] (again _ _ ⟨_, _, rfl, H, by rw [hg] <;> rfl⟩)
        rintro _ _ ⟨r, _, rfl, H, rfl⟩
        refine sr_op rfl rfl (ow_move (v := .bool ((decide ((t.text.size : Int) = 1)) && (decide ((classI (u.toNat : Int)) = 4)))) rfl ?_)
        refine sr_cut 4 (fun m_ w_ => ∃ (r_ : Sl) (v_ : Bool), m_ = (47, .bool v_) :: (2, .bool false) :: r_ ∧ Hp B I w_ ((g1, Ob [.int .i64 t.kind, .string t.text, .int .i64 t.n, .int .i64 t.at_] 71) :: L) ∧ v_ = (((decide ((t.text.size : Int) = 1)) && (decide ((classI (u.toNat : Int)) = 4))) && (decide (t.n = 0)))) (fun again => ?_) ?_
        · rcases hg : (decide ((t.text.size : Int) = 1)) && (decide ((classI (u.toNat : Int)) = 4)) with _ | _
          · refine sr_pass rfl (j := 11) (d := 43) rfl rfl rfl (u := false) (v := true) rfl rfl ?_
            refine sr_pass rfl (j := 11) (d := 43) rfl rfl rfl (u := false) (v := true) rfl rfl ?_
            refine sr_pass rfl (j := 11) (d := 43) rfl rfl rfl (u := false) (v := true) rfl rfl ?_
            refine sr_op rfl rfl (ow_pick (v := .bool false) rfl rfl ?_)
            exact sr_live [47, 2] (again _ _ ⟨_, _, rfl, H, by rw [hg] <;> rfl⟩)
          · refine sr_want rfl (j := 11) (d := 43) rfl rfl rfl (v := true) rfl rfl (ow_fieldAddr fd71_2 ty3 rfl rfl (r := 2) rfl ?_)
            refine sr_want rfl (j := 11) (d := 43) rfl rfl rfl (v := true) rfl rfl (ow_load (v := .int .i64 t.n) ty3 H rfl 0 rfl rfl rfl rfl ?_)
            refine sr_want rfl (j := 11) (d := 43) rfl rfl rfl (v := true) rfl rfl (ow_eql rfl rfl ?_)
            refine sr_op rfl rfl (ow_pick (v := .bool (decide (t.n = 0))) rfl rfl ?_)
            exact sr_live [47, 2] (again _ _ ⟨_, _, rfl, H, by rw [hg] <;> rfl⟩)
        rintro _ _ ⟨r, _, rfl, H, rfl⟩
        refine sr_op rfl rfl (ow_assign (v := .bool (((decide ((t.text.size : Int) = 1)) && (decide ((classI (u.toNat : Int)) = 4))) && (decide (t.n = 0)))) rfl ?_)
        refine sr_nil ?_
        refine st_ret hb (hR _ _ (.bool (((decide ((t.text.size : Int) = 1)) && (decide ((classI (u.toNat : Int)) = 4))) && (decide (t.n = 0)))) (res_run (vs := [.bool (((decide ((t.text.size : Int) = 1)) && (decide ((classI (u.toNat : Int)) = 4))) && (decide (t.n = 0)))]) Tryz.results100 ⟨_, _, rfl, rfl, rfl⟩) ?_)
        exact ⟨_, rfl, congrArg Value.bool (by rw [valid3 hc4 hu]), (H.drop 1)⟩
      · have hc4 := of_decide_eq_false hc4
        refine st_skip ?_
        refine st_inBlock ?_
        refine st_seq ?_
        refine st_region ?_
        refine sr_op rfl rfl (ow_assign (v := .bool false) rfl ?_)
        refine sr_nil ?_
        refine st_ret hb (hR _ _ (.bool false) (res_run (vs := [.bool false]) Tryz.results100 ⟨_, _, rfl, rfl, rfl⟩) ?_)
        exact ⟨_, rfl, congrArg Value.bool (valid0 hc2 hc3 hc4).symm, (H.drop 1)⟩
theorem Sign_c {B I L w} (H : Hp B I w L) (c : Int) : Calls Tryz.prog 104 #[.int .u8 c] w (Rt fun r w' => r = .bool (signL c) ∧ Hp B I w' L) := by
  refine calls_st (n := 16) Tryz.func104 rfl rfl rfl ?_
  intro G bF cs hb hfn hR hP
  simp only [ini]
  refine st_seq ?_
  refine st_region ?_
  refine sr_op rfl rfl (ow_assign (v := .bool false) rfl ?_)
  refine sr_nil ?_
  refine st_seq ?_
  refine st_region ?_
  refine sr_op rfl rfl (ow_assign (v := .string ⟨#[123, 125, 40, 41, 59, 44, 61, 58, 46, 60, 62, 33, 43, 45, 42, 47]⟩) rfl ?_)
  refine sr_nil ?_
  refine st_seq ?_
  refine st_seq ?_
  refine st_region ?_
  refine sr_op rfl rfl (ow_assign (v := .int .i64 0) rfl ?_)
  refine sr_nil ?_
  refine st_block ?_
  refine st_loop ?_
  refine st_live [0, 2, 3, 4] ?_
  refine st_ind (fun d_ m_ w_ => ∃ (i : Nat) (r_ : Sl), d_ = 16 - i ∧ m_ = (0, .int .u8 c) :: (2, .bool false) :: (3, .string signS) :: (4, .int .i64 (i : Int)) :: r_ ∧ Hp B I w_ (L) ∧ i ≤ 16 ∧ (signS.data.toList.take i).any (fun u => decide ((u.toNat : Int) = c)) = false) _ ⟨0, _, rfl, rfl, H, Nat.zero_le _, rfl⟩ ?_
  rintro _ _ _ ⟨i, r2, rfl, rfl, H, hi, hno⟩ ih3
  obtain ⟨u, hu⟩ := byte_of signS i
  refine st_seq ?_
  refine st_seq ?_
  refine st_region ?_
  refine sr_op rfl rfl (ow_move (v := .int .i64 (i : Int)) rfl ?_)
  refine sr_op rfl rfl (ow_move (v := .string signS) rfl ?_)
  refine sr_op rfl rfl (ow_lenT un9 rfl rfl ?_)
  refine sr_op rfl rfl (ow_lss rfl rfl ?_)
  refine sr_nil ?_
  refine st_cond (decide ((i : Int) < (signS.size : Int))) rfl (fun hc4 => ?_) (fun hc4 => ?_)
  · have hi16 : i < 16 := Int.ofNat_lt.1 (of_decide_eq_true hc4)
    refine st_skip ?_
    refine st_seq ?_
    refine st_block ?_
    refine st_seq ?_
    refine st_region ?_
    refine sr_op rfl rfl (ow_move (v := .string signS) rfl ?_)
    refine sr_op rfl rfl (ow_move (v := .int .i64 (i : Int)) rfl ?_)
    refine sr_op rfl rfl (ow_indexT un9 rfl rfl (by omega) (u := u) (hu hi16).1 ?_)
    refine sr_op rfl rfl (ow_move (v := .int .u8 c) rfl ?_)
    refine sr_op rfl rfl (ow_eql rfl rfl ?_)
    refine sr_nil ?_
    refine st_cond (decide ((u.toNat : Int) = c)) rfl (fun hc5 => ?_) (fun hc5 => ?_)
    · have hc5 := of_decide_eq_true hc5
      refine st_seq ?_
      refine st_region ?_
      refine sr_op rfl rfl (ow_assign (v := .bool true) rfl ?_)
      refine sr_nil ?_
      refine st_ret hb (hR _ _ (.bool true) (res_run (vs := [.bool true]) Tryz.results104 ⟨_, _, rfl, rfl, rfl⟩) ?_)
      exact ⟨_, rfl, congrArg Value.bool (List.any_eq_true.2 ⟨u, List.mem_of_getElem? (hu hi16).2, decide_eq_true hc5⟩).symm, H⟩
    · have hc5 := of_decide_eq_false hc5
      refine st_skip ?_
      refine st_inBlock ?_
      refine st_region ?_
      refine sr_op rfl rfl (ow_move (v := .int .i64 (i : Int)) rfl ?_)
      refine sr_op rfl rfl (ow_add (r := ((i + 1 : Nat) : Int)) rfl rfl (inc_i64 (by omega)) ?_)
      refine sr_op rfl rfl (ow_assign (v := .int .i64 ((i + 1 : Nat) : Int)) rfl ?_)
      refine sr_nil ?_
      exact st_inLoop (st_live [0, 2, 3, 4] (ih3 _ _ _ (by omega) ⟨i + 1, _, rfl, rfl, H, by omega, by rw [take_some (hu hi16).2, List.any_append, hno]; simp only [List.any_cons, List.any_nil, Bool.or_false, Bool.false_or]; exact decide_eq_false hc5⟩))
  · have hi16 : ¬ i < 16 := fun h_ => of_decide_eq_false hc4 (Int.ofNat_lt.2 h_)
    refine st_exit rfl ?_
    refine st_seq ?_
    refine st_region ?_
    refine sr_op rfl rfl (ow_assign (v := .bool false) rfl ?_)
    refine sr_nil ?_
    refine st_ret hb (hR _ _ (.bool false) (res_run (vs := [.bool false]) Tryz.results104 ⟨_, _, rfl, rfl, rfl⟩) ?_)
    rw [List.take_of_length_le (show signS.data.toList.length ≤ i from by have : signS.data.toList.length = 16 := rfl; omega)] at hno
    exact ⟨_, rfl, congrArg Value.bool hno.symm, H⟩
theorem Valid_c {B I L w} (H : Hp B I w L) {t : Tk} {us : List Value} (ht : RepL I (encTk t) us) : Calls Tryz.prog 37 #[.agg us.toArray] w (Rt fun r w' => r = .bool (validB t) ∧ Hp B I w' L) := by
  obtain ⟨u, hu⟩ := byte_of t.text 0
  have d0 := ht
  obtain ⟨rfl, d0_0, d0_1, d0_2, d0_3⟩ := tk_iff.1 ht
  refine calls_st (n := 47) Tryz.func37 rfl rfl rfl ?_
  intro G bF cs hb hfn hR hP
  simp only [ini]
  refine st_seq ?_
  refine st_region ?_
  refine sr_op rfl rfl (ow_box H (v := .agg #[.int .i64 t.kind, .string t.text, .int .i64 t.n, .int .i64 t.at_]) rfl [.int .i64 t.kind, .string t.text, .int .i64 t.n, .int .i64 t.at_] rfl (fun g1 _ H => ?_))
  refine sr_op rfl rfl (ow_assign (v := .bool false) rfl ?_)
  refine sr_nil ?_
  refine st_seq ?_
  refine st_seq ?_
  refine st_region ?_
  refine sr_op rfl rfl (ow_fieldAddr fd71_0 ty3 rfl rfl (r := 0) rfl ?_)
  refine sr_op rfl rfl (ow_load (v := .int .i64 t.kind) ty3 H rfl 0 rfl rfl rfl rfl ?_)
  refine sr_nil ?_
  refine st_block ?_
  refine st_seq ?_
  refine st_region ?_
  refine sr_op rfl rfl (ow_eql rfl rfl ?_)
  refine sr_op rfl rfl (ow_assign (v := .bool (decide (t.kind = 1))) rfl ?_)
  refine sr_nil ?_
  refine st_cond (decide (t.kind = 1)) rfl (fun hc2 => ?_) (fun hc2 => ?_)
  · have hc2 := of_decide_eq_true hc2
    refine st_seq ?_
    refine st_region ?_
    refine sr_op rfl rfl (ow_fieldAddr fd71_1 ty9 rfl rfl (r := 1) rfl ?_)
    refine sr_op rfl rfl (ow_load (v := .string t.text) ty9 H rfl 0 rfl rfl rfl rfl ?_)
    refine sr_op rfl rfl (ow_call en103 rfl (refName_c H t.text d0_1) ?_)
    rintro _ _ ⟨rfl, H⟩
    refine sr_op rfl rfl (ow_move (v := .bool (nameB t.text)) rfl ?_)
    refine sr_cut 4 (fun m_ w_ => ∃ (r_ : Sl) (v_ : Bool), m_ = (14, .bool v_) :: (2, .bool false) :: r_ ∧ Hp B I w_ ((g1, Ob [.int .i64 t.kind, .string t.text, .int .i64 t.n, .int .i64 t.at_] 71) :: L) ∧ v_ = ((nameB t.text) && (decide (t.n = 0)))) (fun again => ?_) ?_
    · rcases hg : nameB t.text with _ | _
      · refine sr_pass rfl (j := 3) (d := 10) rfl rfl rfl (u := false) (v := true) rfl rfl ?_
        refine sr_pass rfl (j := 3) (d := 10) rfl rfl rfl (u := false) (v := true) rfl rfl ?_
        refine sr_pass rfl (j := 3) (d := 10) rfl rfl rfl (u := false) (v := true) rfl rfl ?_
        refine sr_op rfl rfl (ow_pick (v := .bool false) rfl rfl ?_)
        exact sr_live [14, 2] (again _ _ ⟨_, _, rfl, H, by rw [hg] <;> rfl⟩)
      · refine sr_want rfl (j := 3) (d := 10) rfl rfl rfl (v := true) rfl rfl (ow_fieldAddr fd71_2 ty3 rfl rfl (r := 2) rfl ?_)
        refine sr_want rfl (j := 3) (d := 10) rfl rfl rfl (v := true) rfl rfl (ow_load (v := .int .i64 t.n) ty3 H rfl 0 rfl rfl rfl rfl ?_)
        refine sr_want rfl (j := 3) (d := 10) rfl rfl rfl (v := true) rfl rfl (ow_eql rfl rfl ?_)
        refine sr_op rfl rfl (ow_pick (v := .bool (decide (t.n = 0))) rfl rfl ?_)
        exact sr_live [14, 2] (again _ _ ⟨_, _, rfl, H, by rw [hg] <;> rfl⟩)
    rintro _ _ ⟨r, _, rfl, H, rfl⟩
    refine sr_op rfl rfl (ow_assign (v := .bool ((nameB t.text) && (decide (t.n = 0)))) rfl ?_)
    refine sr_nil ?_
    refine st_ret hb (hR _ _ (.bool ((nameB t.text) && (decide (t.n = 0)))) (res_run (vs := [.bool ((nameB t.text) && (decide (t.n = 0)))]) Tryz.results37 ⟨_, _, rfl, rfl, rfl⟩) ?_)
    exact ⟨_, rfl, congrArg Value.bool (by rw [valid1 hc2]), (H.drop 1)⟩
  · have hc2 := of_decide_eq_false hc2
    refine st_seq ?_
    refine st_region ?_
    refine sr_op rfl rfl (ow_eql rfl rfl ?_)
    refine sr_op rfl rfl (ow_assign (v := .bool (decide (t.kind = 2))) rfl ?_)
    refine sr_nil ?_
    refine st_cond (decide (t.kind = 2)) rfl (fun hc3 => ?_) (fun hc3 => ?_)
    · have hc3 := of_decide_eq_true hc3
      refine st_seq ?_
      refine st_region ?_
      refine sr_op rfl rfl (ow_fieldAddr fd71_1 ty9 rfl rfl (r := 1) rfl ?_)
      refine sr_op rfl rfl (ow_load (v := .string t.text) ty9 H rfl 0 rfl rfl rfl rfl ?_)
      refine sr_op rfl rfl (ow_seq rfl rfl ?_)
      refine sr_op rfl rfl (ow_move (v := .bool (decide (t.text = ⟨#[]⟩))) rfl ?_)
      refine sr_cut 4 (fun m_ w_ => ∃ (r_ : Sl) (v_ : Bool), m_ = (24, .bool v_) :: (1, .pointer (some ⟨g1, 0, none⟩)) :: (2, .bool false) :: r_ ∧ Hp B I w_ ((g1, Ob [.int .i64 t.kind, .string t.text, .int .i64 t.n, .int .i64 t.at_] 71) :: L) ∧ v_ = ((decide (t.text = ⟨#[]⟩)) && (decide (0 ≤ t.n)))) (fun again => ?_) ?_
      · rcases hg : decide (t.text = ⟨#[]⟩) with _ | _
        · refine sr_pass rfl (j := 3) (d := 20) rfl rfl rfl (u := false) (v := true) rfl rfl ?_
          refine sr_pass rfl (j := 3) (d := 20) rfl rfl rfl (u := false) (v := true) rfl rfl ?_
          refine sr_pass rfl (j := 3) (d := 20) rfl rfl rfl (u := false) (v := true) rfl rfl ?_
          refine sr_op rfl rfl (ow_pick (v := .bool false) rfl rfl ?_)
          exact sr_live [24, 1, 2] (again _ _ ⟨_, _, rfl, H, by rw [hg] <;> rfl⟩)
        · refine sr_want rfl (j := 3) (d := 20) rfl rfl rfl (v := true) rfl rfl (ow_fieldAddr fd71_2 ty3 rfl rfl (r := 2) rfl ?_)
          refine sr_want rfl (j := 3) (d := 20) rfl rfl rfl (v := true) rfl rfl (ow_load (v := .int .i64 t.n) ty3 H rfl 0 rfl rfl rfl rfl ?_)
          refine sr_want rfl (j := 3) (d := 20) rfl rfl rfl (v := true) rfl rfl (ow_geq rfl rfl ?_)
          refine sr_op rfl rfl (ow_pick (v := .bool (decide (0 ≤ t.n))) rfl rfl ?_)
          exact sr_live [24, 1, 2] (again _ _ ⟨_, _, rfl, H, by rw [hg] <;> rfl⟩)
      rintro _ _ ⟨r, _, rfl, H, rfl⟩
      refine sr_op rfl rfl (ow_move (v := .bool ((decide (t.text = ⟨#[]⟩)) && (decide (0 ≤ t.n)))) rfl ?_)
      refine sr_cut 4 (fun m_ w_ => ∃ (r_ : Sl) (v_ : Bool), m_ = (29, .bool v_) :: (2, .bool false) :: r_ ∧ Hp B I w_ ((g1, Ob [.int .i64 t.kind, .string t.text, .int .i64 t.n, .int .i64 t.at_] 71) :: L) ∧ v_ = (((decide (t.text = ⟨#[]⟩)) && (decide (0 ≤ t.n))) && (decide (t.n ≤ 1099511627776)))) (fun again => ?_) ?_
      · rcases hg : (decide (t.text = ⟨#[]⟩)) && (decide (0 ≤ t.n)) with _ | _
        · refine sr_pass rfl (j := 8) (d := 25) rfl rfl rfl (u := false) (v := true) rfl rfl ?_
          refine sr_pass rfl (j := 8) (d := 25) rfl rfl rfl (u := false) (v := true) rfl rfl ?_
          refine sr_pass rfl (j := 8) (d := 25) rfl rfl rfl (u := false) (v := true) rfl rfl ?_
          refine sr_op rfl rfl (ow_pick (v := .bool false) rfl rfl ?_)
          exact sr_live [29, 2] (again _ _ ⟨_, _, rfl, H, by rw [hg] <;> rfl⟩)
        · refine sr_want rfl (j := 8) (d := 25) rfl rfl rfl (v := true) rfl rfl (ow_fieldAddr fd71_2 ty3 rfl rfl (r := 2) rfl ?_)
          refine sr_want rfl (j := 8) (d := 25) rfl rfl rfl (v := true) rfl rfl (ow_load (v := .int .i64 t.n) ty3 H rfl 0 rfl rfl rfl rfl ?_)
          refine sr_want rfl (j := 8) (d := 25) rfl rfl rfl (v := true) rfl rfl (ow_leq rfl rfl ?_)
          refine sr_op rfl rfl (ow_pick (v := .bool (decide (t.n ≤ 1099511627776))) rfl rfl ?_)
          exact sr_live [29, 2] (again _ _ ⟨_, _, rfl, H, by rw [hg] <;> rfl⟩)
      rintro _ _ ⟨r, _, rfl, H, rfl⟩
      refine sr_op rfl rfl (ow_assign (v := .bool (((decide (t.text = ⟨#[]⟩)) && (decide (0 ≤ t.n))) && (decide (t.n ≤ 1099511627776)))) rfl ?_)
      refine sr_nil ?_
      refine st_ret hb (hR _ _ (.bool (((decide (t.text = ⟨#[]⟩)) && (decide (0 ≤ t.n))) && (decide (t.n ≤ 1099511627776)))) (res_run (vs := [.bool (((decide (t.text = ⟨#[]⟩)) && (decide (0 ≤ t.n))) && (decide (t.n ≤ 1099511627776)))]) Tryz.results37 ⟨_, _, rfl, rfl, rfl⟩) ?_)
      exact ⟨_, rfl, congrArg Value.bool (by rw [valid2 hc3]), (H.drop 1)⟩
    · have hc3 := of_decide_eq_false hc3
      refine st_seq ?_
      refine st_region ?_
      refine sr_op rfl rfl (ow_eql rfl rfl ?_)
      refine sr_op rfl rfl (ow_assign (v := .bool (decide (t.kind = 3))) rfl ?_)
      refine sr_nil ?_
      refine st_cond (decide (t.kind = 3)) rfl (fun hc4 => ?_) (fun hc4 => ?_)
      · have hc4 := of_decide_eq_true hc4
        refine st_seq ?_
        refine st_region ?_
        refine sr_op rfl rfl (ow_fieldAddr fd71_1 ty9 rfl rfl (r := 1) rfl ?_)
        refine sr_op rfl rfl (ow_load (v := .string t.text) ty9 H rfl 0 rfl rfl rfl rfl ?_)
        refine sr_op rfl rfl (ow_lenT un9 rfl rfl ?_)
        refine sr_op rfl rfl (ow_eql rfl rfl ?_)
        refine sr_op rfl rfl (ow_move (v := .bool (decide ((t.text.size : Int) = 1))) rfl ?_)
        refine sr_cut 5 (fun m_ w_ => ∃ (r_ : Sl) (v_ : Bool), m_ = (41, .bool v_) :: (1, .pointer (some ⟨g1, 0, none⟩)) :: (2, .bool false) :: r_ ∧ Hp B I w_ ((g1, Ob [.int .i64 t.kind, .string t.text, .int .i64 t.n, .int .i64 t.at_] 71) :: L) ∧ v_ = ((decide ((t.text.size : Int) = 1)) && (signL (u.toNat : Int)))) (fun again => ?_) ?_
        · rcases hg : decide ((t.text.size : Int) = 1) with _ | _
          · refine sr_pass rfl (j := 4) (d := 36) rfl rfl rfl (u := false) (v := true) rfl rfl ?_
            refine sr_pass rfl (j := 4) (d := 36) rfl rfl rfl (u := false) (v := true) rfl rfl ?_
            refine sr_pass rfl (j := 4) (d := 36) rfl rfl rfl (u := false) (v := true) rfl rfl ?_
            refine sr_pass rfl (j := 4) (d := 36) rfl rfl rfl (u := false) (v := true) rfl rfl ?_
            refine sr_op rfl rfl (ow_pick (v := .bool false) rfl rfl ?_)
            exact sr_live [41, 1, 2] (again _ _ ⟨_, _, rfl, H, by rw [hg] <;> rfl⟩)
          · refine sr_want rfl (j := 4) (d := 36) rfl rfl rfl (v := true) rfl rfl (ow_fieldAddr fd71_1 ty9 rfl rfl (r := 1) rfl ?_)
            refine sr_want rfl (j := 4) (d := 36) rfl rfl rfl (v := true) rfl rfl (ow_load (v := .string t.text) ty9 H rfl 0 rfl rfl rfl rfl ?_)
            refine sr_want rfl (j := 4) (d := 36) rfl rfl rfl (v := true) rfl rfl (ow_indexT un9 rfl rfl (by omega) (u := u) (hu (by first | omega | (simp at *; omega))).1 ?_)
            refine sr_want rfl (j := 4) (d := 36) rfl rfl rfl (v := true) rfl rfl (ow_call en104 rfl (Sign_c H (u.toNat : Int)) ?_)
            rintro _ _ ⟨rfl, H⟩
            refine sr_op rfl rfl (ow_pick (v := .bool (signL (u.toNat : Int))) rfl rfl ?_)
            exact sr_live [41, 1, 2] (again _ _ ⟨_, _, rfl, H, by rw [hg] <;> rfl⟩)
        rintro _ _ ⟨r, _, rfl, H, rfl⟩
        refine sr_op rfl rfl (ow_move (v := .bool ((decide ((t.text.size : Int) = 1)) && (signL (u.toNat : Int)))) rfl ?_)
        refine sr_cut 4 (fun m_ w_ => ∃ (r_ : Sl) (v_ : Bool), m_ = (46, .bool v_) :: (2, .bool false) :: r_ ∧ Hp B I w_ ((g1, Ob [.int .i64 t.kind, .string t.text, .int .i64 t.n, .int .i64 t.at_] 71) :: L) ∧ v_ = (((decide ((t.text.size : Int) = 1)) && (signL (u.toNat : Int))) && (decide (t.n = 0)))) (fun again => ?_) ?_
        · rcases hg : (decide ((t.text.size : Int) = 1)) && (signL (u.toNat : Int)) with _ | _
          · refine sr_pass rfl (j := 10) (d := 42) rfl rfl rfl (u := false) (v := true) rfl rfl ?_
            refine sr_pass rfl (j := 10) (d := 42) rfl rfl rfl (u := false) (v := true) rfl rfl ?_
            refine sr_pass rfl (j := 10) (d := 42) rfl rfl rfl (u := false) (v := true) rfl rfl ?_
            refine sr_op rfl rfl (ow_pick (v := .bool false) rfl rfl ?_)
            exact sr_live [46, 2] (again _ _ ⟨_, _, rfl, H, by rw [hg] <;> rfl⟩)
          · refine sr_want rfl (j := 10) (d := 42) rfl rfl rfl (v := true) rfl rfl (ow_fieldAddr fd71_2 ty3 rfl rfl (r := 2) rfl ?_)
            refine sr_want rfl (j := 10) (d := 42) rfl rfl rfl (v := true) rfl rfl (ow_load (v := .int .i64 t.n) ty3 H rfl 0 rfl rfl rfl rfl ?_)
            refine sr_want rfl (j := 10) (d := 42) rfl rfl rfl (v := true) rfl rfl (ow_eql rfl rfl ?_)
            refine sr_op rfl rfl (ow_pick (v := .bool (decide (t.n = 0))) rfl rfl ?_)
            exact sr_live [46, 2] (again _ _ ⟨_, _, rfl, H, by rw [hg] <;> rfl⟩)
        rintro _ _ ⟨r, _, rfl, H, rfl⟩
        refine sr_op rfl rfl (ow_assign (v := .bool (((decide ((t.text.size : Int) = 1)) && (signL (u.toNat : Int))) && (decide (t.n = 0)))) rfl ?_)
        refine sr_nil ?_
        refine st_ret hb (hR _ _ (.bool (((decide ((t.text.size : Int) = 1)) && (signL (u.toNat : Int))) && (decide (t.n = 0)))) (res_run (vs := [.bool (((decide ((t.text.size : Int) = 1)) && (signL (u.toNat : Int))) && (decide (t.n = 0)))]) Tryz.results37 ⟨_, _, rfl, rfl, rfl⟩) ?_)
        exact ⟨_, rfl, congrArg Value.bool (by rw [valid3 hc4 hu] <;> rw [sign_class]), (H.drop 1)⟩
      · have hc4 := of_decide_eq_false hc4
        refine st_skip ?_
        refine st_inBlock ?_
        refine st_seq ?_
        refine st_region ?_
        refine sr_op rfl rfl (ow_assign (v := .bool false) rfl ?_)
        refine sr_nil ?_
        refine st_ret hb (hR _ _ (.bool false) (res_run (vs := [.bool false]) Tryz.results37 ⟨_, _, rfl, rfl, rfl⟩) ?_)
        exact ⟨_, rfl, congrArg Value.bool (valid0 hc2 hc3 hc4).symm, (H.drop 1)⟩
def sameTk (x y : Tk) : Bool := (decide (x.kind = y.kind) && decide (x.text = y.text)) && decide (x.n = y.n)
def pairB (q : Tk → Tk → Bool) : List Tk → List Tk → Bool
  | [], [] => true
  | x :: l, y :: m => q x y && pairB q l m
  | _, _ => false
theorem pair_all {q : Tk → Tk → Bool} : ∀ {l m : List Tk}, l.length = m.length → (∀ (i : Nat) x y, l[i]? = some x → m[i]? = some y → q x y = true) → pairB q l m = true
  | [], [], _, _ => rfl
  | x :: l, y :: m, h, hq => by
    simp only [pairB, Bool.and_eq_true]
    exact ⟨hq 0 x y rfl rfl, pair_all (by simpa using h) fun i a b ha hb => hq (i + 1) a b (by simpa using ha) (by simpa using hb)⟩
  | [], y :: m, h, _ => by simp at h
  | x :: l, [], h, _ => by simp at h
theorem pair_no {q : Tk → Tk → Bool} : ∀ {l m : List Tk} {i : Nat} {x y : Tk}, l[i]? = some x → m[i]? = some y → q x y = false → pairB q l m = false
  | [], _, i, x, y, hx, _, _ => by simp at hx
  | _ :: _, [], i, x, y, _, hy, _ => by simp at hy
  | a :: l, b :: m, i, x, y, hx, hy, h => by
    simp only [pairB]
    cases i with
    | zero =>
      simp only [List.getElem?_cons_zero, Option.some.injEq] at hx hy
      rw [hx, hy, h, Bool.false_and]
    | succ i => rw [pair_no (l := l) (m := m) (by simpa using hx) (by simpa using hy) h, Bool.and_false]
theorem pair_len {q : Tk → Tk → Bool} : ∀ {l m : List Tk}, ¬ l.length = m.length → pairB q l m = false
  | [], [], h => by simp at h
  | x :: l, y :: m, h => by
    simp only [pairB, pair_len (l := l) (m := m) (by simpa using h), Bool.and_false]
  | [], y :: m, _ => rfl
  | x :: l, [], _ => rfl
theorem pair_lens {q : Tk → Tk → Bool} : ∀ {l m : List Tk}, pairB q l m = true → l.length = m.length
  | [], [], _ => rfl
  | x :: l, y :: m, h => by
    simp only [pairB, Bool.and_eq_true] at h
    simp [pair_lens h.2]
  | [], y :: m, h => by simp [pairB] at h
  | x :: l, [], h => by simp [pairB] at h
def sameTs (l m : List Tk) : Bool := pairB sameTk l m
def atsB (l m : List Tk) : Bool := pairB (fun x y => decide (x.at_ = y.at_)) l m
def eqTs (l m : List Tk) : Bool := sameTs l m && atsB l m
def nsame (x y : Tk) : Bool := !decide (x.kind = y.kind) || (!decide (x.text = y.text) || !decide (x.n = y.n))
theorem nsame_eq (x y : Tk) : nsame x y = !sameTk x y := by simp [nsame, sameTk, Bool.not_and, Bool.or_assoc]
end Go.Proofs.YtghmjnbpkobooaaGreatDoor
