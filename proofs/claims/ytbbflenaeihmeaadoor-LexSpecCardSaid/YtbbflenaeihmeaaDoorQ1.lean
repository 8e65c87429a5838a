/-
  Walks: small functions of lex and of its reference; lists of tokens.
-/
import Derived.Test.YtbbflenaeihmeaaDoorQ0
set_option linter.unusedVariables false
set_option linter.unusedSimpArgs false
set_option maxRecDepth 10000
set_option maxHeartbeats 4000000
namespace Go.Proofs.YtbbflenaeihmeaaDoor
open Go Go.RowKit

theorem ty85 : Ty Tryd.prog 85 1 false (.nilFunc) 8 := ⟨by kernel_rfl, by kernel_rfl⟩
theorem ty86 : Ty Tryd.prog 86 6 true (.agg #[.nilFunc, .nilFunc, .nilFunc, .nilFunc, .nilFunc, .nilFunc]) 48 := ⟨by kernel_rfl, by kernel_rfl⟩
theorem un86 : Tryd.prog.underlying 86 = some (.array 6 85) := Tryd.underlying86
theorem ty88 : Ty Tryd.prog 88 6 true (.agg #[.nilFunc, .nilFunc, .nilFunc, .nilFunc, .nilFunc, .nilFunc]) 48 := ⟨by kernel_rfl, by kernel_rfl⟩
theorem fd88_0 : Fd Tryd.prog 88 0 0 86 := ⟨_, _, Tryd.underlying88, rfl, rfl, rfl⟩
theorem ty99 : Ty Tryd.prog 99 1 false (.nilFunc) 8 := ⟨by kernel_rfl, by kernel_rfl⟩
theorem indexI_c {B I L w} (H : Hp B I w L) {l : List Int} {v : Value} (hl : RepS encI I 1 l v) (s : Int) : Calls Tryd.prog 127 #[v, .int .i64 s] w (Rt fun r w' => r = .int .i64 (idxI l s) ∧ Hp B I w' L) := by
  obtain ⟨s0A, s0c, rfl, s0m, s0M, s0⟩ := RepS.open_ hl
  refine calls_st (n := 19) Tryd.func127 rfl rfl rfl ?_
  intro G bF cs hb hfn hR hP
  simp only [ini]
  refine st_seq ?_
  refine st_region ?_
  refine sr_op rfl rfl (ow_assign (v := .int .i64 0) rfl ?_)
  refine sr_nil ?_
  refine st_seq ?_
  refine st_seq ?_
  refine st_region ?_
  refine sr_op rfl rfl (ow_move (v := .slice s0A l.length s0c) rfl ?_)
  refine sr_op rfl rfl (ow_lenS sl131 rfl rfl ?_)
  refine sr_op rfl rfl (ow_move (v := .int .i64 0) rfl ?_)
  refine sr_nil ?_
  refine st_block ?_
  refine st_loop ?_
  refine st_live [0, 1, 4, 7, 8] ?_
  refine st_ind (fun d_ m_ w_ => ∃ (i : Nat) (r_ : Sl), d_ = l.length - i ∧ m_ = (0, .slice s0A l.length s0c) :: (1, .int .i64 s) :: (4, .int .i64 0) :: (7, .int .i64 (l.length : Int)) :: (8, .int .i64 (i : Int)) :: r_ ∧ Hp B I w_ (L) ∧ i ≤ l.length ∧ idxI l s = ixOfI (l.drop i) s (i : Int)) _ ⟨0, _, rfl, rfl, H, Nat.zero_le _, rfl⟩ ?_
  rintro _ _ _ ⟨i, r2, rfl, rfl, H, hi, hix⟩ ih3
  refine st_seq ?_
  refine st_region ?_
  refine sr_op rfl rfl (ow_lss rfl rfl ?_)
  refine sr_nil ?_
  refine st_seq ?_
  refine st_cond (decide ((i : Int) < (l.length : Int))) rfl (fun hc4 => ?_) (fun hc4 => ?_)
  · have hc4 := of_decide_eq_true hc4
    refine st_skip ?_
    refine st_seq ?_
    refine st_block ?_
    refine st_seq ?_
    refine st_region ?_
    refine sr_op rfl rfl (ow_move (v := .int .i64 (i : Int)) rfl ?_)
    refine sr_op rfl rfl (ow_assign (v := .int .i64 (i : Int)) rfl ?_)
    refine sr_nil ?_
    refine st_seq ?_
    refine st_region ?_
    refine sr_op rfl rfl (ow_move (v := .int .i64 s) rfl ?_)
    refine sr_op rfl rfl (ow_move (v := .slice s0A l.length s0c) rfl ?_)
    refine sr_op rfl rfl (ow_move (v := .int .i64 (i : Int)) rfl ?_)
    obtain ⟨e5, he5⟩ : ∃ q_, l[i]? = some q_ := ⟨_, List.getElem?_eq_getElem (by omega)⟩
    obtain ⟨b5, o5, us5, hA5, hat5, hul5, hr5⟩ := RepS.get s0 he5
    have d5 := hr5
    obtain ⟨rfl, d5_0⟩ := i_iff.1 hr5
    refine sr_op rfl rfl (ow_indexAddrA sl131 ty3 hA5 rfl rfl (by omega) (by omega) (r := o5 + i * 1) rfl ?_)
    refine sr_op rfl rfl (ow_loadI (v := .int .i64 e5) ty3 H rfl hat5 rfl rfl rfl ?_)
    refine sr_op rfl rfl (ow_eql rfl rfl ?_)
    refine sr_nil ?_
    refine st_cond (decide (s = e5)) rfl (fun hc6 => ?_) (fun hc6 => ?_)
    · have hc6 := of_decide_eq_true hc6
      subst hc6
      refine st_seq ?_
      refine st_region ?_
      refine sr_op rfl rfl (ow_move (v := .int .i64 (i : Int)) rfl ?_)
      refine sr_op rfl rfl (ow_assign (v := .int .i64 (i : Int)) rfl ?_)
      refine sr_nil ?_
      refine st_ret hb (hR _ _ (.int .i64 (i : Int)) (res_run (vs := [.int .i64 (i : Int)]) Tryd.results127 ⟨_, _, rfl, rfl, rfl⟩) ?_)
      refine ⟨_, rfl, ?_, H⟩
      rw [hix, drop_some he5]
      simp [ixOfI]
    · have hc6 := of_decide_eq_false hc6
      refine st_skip ?_
      refine st_inBlock ?_
      refine st_region ?_
      refine sr_op rfl rfl (ow_add (r := ((i + 1 : Nat) : Int)) rfl rfl (inc_i64 (by omega)) ?_)
      refine sr_op rfl rfl (ow_move (v := .int .i64 ((i + 1 : Nat) : Int)) rfl ?_)
      refine sr_nil ?_
      exact st_inLoop (st_live [0, 1, 4, 7, 8] (ih3 _ _ _ (by omega) ⟨i + 1, _, rfl, rfl, H, by omega, by rw [hix, drop_some he5]; simp only [ixOfI]; rw [if_neg (fun e => hc6 e.symm)]; rfl⟩))
  · have hc4 := of_decide_eq_false hc4
    refine st_exit rfl ?_
    refine st_seq ?_
    refine st_region ?_
    refine sr_op rfl rfl (ow_assign (v := .int .i64 (-1)) rfl ?_)
    refine sr_nil ?_
    refine st_ret hb (hR _ _ (.int .i64 (-1)) (res_run (vs := [.int .i64 (-1)]) Tryd.results127 ⟨_, _, rfl, rfl, rfl⟩) ?_)
    refine ⟨_, rfl, ?_, H⟩
    have : l.drop i = [] := List.drop_of_length_le (by omega)
    rw [hix, this]
    rfl
theorem containsI_c {B I L w} (H : Hp B I w L) {l : List Int} {v : Value} (hl : RepS encI I 1 l v) (s : Int) : Calls Tryd.prog 119 #[v, .int .i64 s] w (Rt fun r w' => r = .bool (inK l s) ∧ Hp B I w' L) := by
  obtain ⟨s0A, s0c, rfl, s0m, s0M, s0⟩ := RepS.open_ hl
  refine calls_st (n := 9) Tryd.func119 rfl rfl rfl ?_
  intro G bF cs hb hfn hR hP
  simp only [ini]
  refine st_seq ?_
  refine st_region ?_
  refine sr_op rfl rfl (ow_assign (v := .bool false) rfl ?_)
  refine sr_nil ?_
  refine st_seq ?_
  refine st_region ?_
  refine sr_op rfl rfl (ow_move (v := .slice s0A l.length s0c) rfl ?_)
  refine sr_op rfl rfl (ow_move (v := .int .i64 s) rfl ?_)
  refine sr_op rfl rfl (ow_call en127 rfl (indexI_c H s0 s) ?_)
  rintro _ _ ⟨rfl, H⟩
  refine sr_op rfl rfl (ow_geq rfl rfl ?_)
  refine sr_op rfl rfl (ow_assign (v := .bool (decide (0 ≤ (idxI l s)))) rfl ?_)
  refine sr_nil ?_
  refine st_ret hb (hR _ _ (.bool (decide (0 ≤ (idxI l s)))) (res_run (vs := [.bool (decide (0 ≤ (idxI l s)))]) Tryd.results119 ⟨_, _, rfl, rfl, rfl⟩) ?_)
  exact ⟨_, rfl, rfl, H⟩
def prefB (s p : ByteArray) : Bool := decide ((p.size : Int) ≤ (s.size : Int)) && decide (s.extract 0 p.size = p)
theorem HasPrefix1_c {B I L w} (H : Hp B I w L) (s p : ByteArray) : Calls Tryd.prog 122 #[.string s, .string p] w (Rt fun r w' => r = .bool (prefB s p) ∧ Hp B I w' L) := by
  refine calls_st (n := 18) Tryd.func122 rfl rfl rfl ?_
  intro G bF cs hb hfn hR hP
  simp only [ini]
  refine st_seq ?_
  refine st_region ?_
  refine sr_op rfl rfl (ow_assign (v := .bool false) rfl ?_)
  refine sr_nil ?_
  refine st_seq ?_
  refine st_region ?_
  refine sr_op rfl rfl (ow_move (v := .string s) rfl ?_)
  refine sr_op rfl rfl (ow_lenT un9 rfl rfl ?_)
  refine sr_op rfl rfl (ow_move (v := .string p) rfl ?_)
  refine sr_op rfl rfl (ow_lenT un9 rfl rfl ?_)
  refine sr_op rfl rfl (ow_geq rfl rfl ?_)
  refine sr_op rfl rfl (ow_move (v := .bool (decide ((p.size : Int) ≤ (s.size : Int)))) rfl ?_)
  refine sr_cut 7 (fun m_ w_ => ∃ (r_ : Sl) (v_ : Bool), m_ = (17, .bool v_) :: (4, .bool false) :: r_ ∧ Hp B I w_ (L) ∧ v_ = ((decide ((p.size : Int) ≤ (s.size : Int))) && (decide ((s.extract 0 p.size) = p)))) (fun again => ?_) ?_
  · rcases hg : decide ((p.size : Int) ≤ (s.size : Int)) with _ | _
    · refine sr_pass rfl (j := 5) (d := 10) rfl rfl rfl (u := false) (v := true) rfl rfl ?_
      refine sr_pass rfl (j := 5) (d := 10) rfl rfl rfl (u := false) (v := true) rfl rfl ?_
      refine sr_pass rfl (j := 5) (d := 10) rfl rfl rfl (u := false) (v := true) rfl rfl ?_
      refine sr_pass rfl (j := 5) (d := 10) rfl rfl rfl (u := false) (v := true) rfl rfl ?_
      refine sr_pass rfl (j := 5) (d := 10) rfl rfl rfl (u := false) (v := true) rfl rfl ?_
      refine sr_pass rfl (j := 5) (d := 10) rfl rfl rfl (u := false) (v := true) rfl rfl ?_
      refine sr_op rfl rfl (ow_pick (v := .bool false) rfl rfl ?_)
      exact sr_live [17, 4] (again _ _ ⟨_, _, rfl, H, by rw [hg] <;> rfl⟩)
    · refine sr_want rfl (j := 5) (d := 10) rfl rfl rfl (v := true) rfl rfl (ow_move (v := .string s) rfl ?_)
      refine sr_want rfl (j := 5) (d := 10) rfl rfl rfl (v := true) rfl rfl (ow_move (v := .string p) rfl ?_)
      refine sr_want rfl (j := 5) (d := 10) rfl rfl rfl (v := true) rfl rfl (ow_lenT un9 rfl rfl ?_)
      refine sr_want rfl (j := 5) (d := 10) rfl rfl rfl (v := true) rfl rfl (ow_cutT (a := 0) (c := p.size) un9 rfl (.inl ⟨rfl, rfl⟩) (.inr ⟨_, rfl⟩) (by omega) (by first | omega | (simp at hg; omega)) ?_)
      refine sr_want rfl (j := 5) (d := 10) rfl rfl rfl (v := true) rfl rfl (ow_move (v := .string p) rfl ?_)
      refine sr_want rfl (j := 5) (d := 10) rfl rfl rfl (v := true) rfl rfl (ow_seq rfl rfl ?_)
      refine sr_op rfl rfl (ow_pick (v := .bool (decide ((s.extract 0 p.size) = p))) rfl rfl ?_)
      exact sr_live [17, 4] (again _ _ ⟨_, _, rfl, H, by rw [hg] <;> rfl⟩)
  rintro _ _ ⟨r, _, rfl, H, rfl⟩
  refine sr_op rfl rfl (ow_assign (v := .bool ((decide ((p.size : Int) ≤ (s.size : Int))) && (decide ((s.extract 0 p.size) = p)))) rfl ?_)
  refine sr_nil ?_
  refine st_ret hb (hR _ _ (.bool ((decide ((p.size : Int) ≤ (s.size : Int))) && (decide ((s.extract 0 p.size) = p)))) (res_run (vs := [.bool ((decide ((p.size : Int) ≤ (s.size : Int))) && (decide ((s.extract 0 p.size) = p)))]) Tryd.results122 ⟨_, _, rfl, rfl, rfl⟩) ?_)
  exact ⟨_, rfl, rfl, H⟩
theorem HasPrefix_c {B I L w} (H : Hp B I w L) (s p : ByteArray) : Calls Tryd.prog 110 #[.string s, .string p] w (Rt fun r w' => r = .bool (prefB s p) ∧ Hp B I w' L) := by
  refine calls_st (n := 8) Tryd.func110 rfl rfl rfl ?_
  intro G bF cs hb hfn hR hP
  simp only [ini]
  refine st_seq ?_
  refine st_region ?_
  refine sr_op rfl rfl (ow_assign (v := .bool false) rfl ?_)
  refine sr_nil ?_
  refine st_seq ?_
  refine st_region ?_
  refine sr_op rfl rfl (ow_move (v := .string s) rfl ?_)
  refine sr_op rfl rfl (ow_move (v := .string p) rfl ?_)
  refine sr_op rfl rfl (ow_call en122 rfl (HasPrefix1_c H s p) ?_)
  rintro _ _ ⟨rfl, H⟩
  refine sr_op rfl rfl (ow_assign (v := .bool (prefB s p)) rfl ?_)
  refine sr_nil ?_
  refine st_ret hb (hR _ _ (.bool (prefB s p)) (res_run (vs := [.bool (prefB s p)]) Tryd.results110 ⟨_, _, rfl, rfl, rfl⟩) ?_)
  exact ⟨_, rfl, rfl, H⟩
theorem valid1 {t : Tk} (h : t.kind = 1) : validB t = (nameB t.text && decide (t.n = 0)) := by rw [validB, if_pos h]
theorem valid2 {t : Tk} (h : t.kind = 2) : validB t = ((decide (t.text = ⟨#[]⟩) && decide (0 ≤ t.n)) && decide (t.n ≤ 1099511627776)) := by
  rw [validB, if_neg (by omega), if_pos h]
theorem valid3 {t : Tk} {u : UInt8} (h : t.kind = 3) (hu : 0 < t.text.size → t.text[0]? = some u ∧ t.text.data.toList[0]? = some u) : validB t = ((decide ((t.text.size : Int) = 1) && decide (classI (u.toNat : Int) = 4)) && decide (t.n = 0)) := by
  rw [validB, if_neg (by omega), if_neg (by omega), if_pos h]
  by_cases h1 : (t.text.size : Int) = 1
  · rw [← hd_at (hu (by omega)).2]
  · rw [decide_eq_false h1]
    rfl
theorem valid0 {t : Tk} (h1 : ¬ t.kind = 1) (h2 : ¬ t.kind = 2) (h3 : ¬ t.kind = 3) : validB t = false := by
  rw [validB, if_neg h1, if_neg h2, if_neg h3]
def signL (c : Int) : Bool := signS.data.toList.any fun u => decide ((u.toNat : Int) = c)
theorem sign_class (u : UInt8) : signL (u.toNat : Int) = decide (classI (u.toNat : Int) = 4) := by
  have h : ((List.range 256).all fun n => signL (n : Int) == decide (classI (n : Int) = 4)) = true := by kernel_rfl
  have h2 := List.all_eq_true.1 h u.toNat (List.mem_range.2 u.toNat_lt)
  exact eq_of_beq h2
theorem valid_c {B I L w} (H : Hp B I w L) {t : Tk} {us : List Value} (ht : RepL I (encTk t) us) : Calls Tryd.prog 84 #[.agg us.toArray] w (Rt fun r w' => r = .bool (validB t) ∧ Hp B I w' L) := by
  obtain ⟨u, hu⟩ := byte_of t.text 0
  have d0 := ht
  obtain ⟨rfl, d0_0, d0_1, d0_2, d0_3⟩ := tk_iff.1 ht
  refine calls_st (n := 48) Tryd.func84 rfl rfl rfl ?_
  intro G bF cs hb hfn hR hP
  simp only [ini]
  refine st_seq ?_
  refine st_region ?_
  refine sr_op rfl rfl (ow_box H (v := .agg #[.int .i64 t.kind, .string t.text, .int .i64 t.n, .int .i64 t.at_]) rfl [.int .i64 t.kind, .string t.text, .int .i64 t.n, .int .i64 t.at_] rfl (fun g1 _ H => ?_))
  refine sr_op rfl rfl (ow_assign (v := .bool false) rfl ?_)
  refine sr_nil ?_
  refine st_seq ?_
  refine st_seq ?_
  refine st_region ?_
  refine sr_op rfl rfl (ow_fieldAddr fd64_0 ty3 rfl rfl (r := 0) rfl ?_)
  refine sr_op rfl rfl (ow_load (v := .int .i64 t.kind) ty3 H rfl 0 rfl rfl rfl rfl ?_)
  refine sr_nil ?_
  refine st_block ?_
  refine st_seq ?_
  refine st_region ?_
  refine sr_op rfl rfl (ow_eql rfl rfl ?_)
  refine sr_op rfl rfl (ow_assign (v := .bool (decide (t.kind = 1))) rfl ?_)
  refine sr_nil ?_
  refine st_cond (decide (t.kind = 1)) rfl (fun hc2 => ?_) (fun hc2 => ?_)
  · have hc2 := of_decide_eq_true hc2
    refine st_seq ?_
    refine st_region ?_
    refine sr_op rfl rfl (ow_fieldAddr fd64_1 ty9 rfl rfl (r := 1) rfl ?_)
    refine sr_op rfl rfl (ow_load (v := .string t.text) ty9 H rfl 0 rfl rfl rfl rfl ?_)
    refine sr_op rfl rfl (ow_call en42 rfl (Name_c H t.text d0_1) ?_)
    rintro _ _ ⟨rfl, H⟩
    refine sr_op rfl rfl (ow_move (v := .bool (nameB t.text)) rfl ?_)
    refine sr_cut 4 (fun m_ w_ => ∃ (r_ : Sl) (v_ : Bool), m_ = (14, .bool v_) :: (2, .bool false) :: r_ ∧ Hp B I w_ ((g1, Ob [.int .i64 t.kind, .string t.text, .int .i64 t.n, .int .i64 t.at_] 64) :: L) ∧ v_ = ((nameB t.text) && (decide (t.n = 0)))) (fun again => ?_) ?_
    · rcases hg : nameB t.text with _ | _
      · refine sr_pass rfl (j := 3) (d := 10) rfl rfl rfl (u := false) (v := true) rfl rfl ?_
        refine sr_pass rfl (j := 3) (d := 10) rfl rfl rfl (u := false) (v := true) rfl rfl ?_
        refine sr_pass rfl (j := 3) (d := 10) rfl rfl rfl (u := false) (v := true) rfl rfl ?_
        refine sr_op rfl rfl (ow_pick (v := .bool false) rfl rfl ?_)
        exact sr_live [14, 2] (again _ _ ⟨_, _, rfl, H, by rw [hg] <;> rfl⟩)
      · refine sr_want rfl (j := 3) (d := 10) rfl rfl rfl (v := true) rfl rfl (ow_fieldAddr fd64_2 ty3 rfl rfl (r := 2) rfl ?_)
        refine sr_want rfl (j := 3) (d := 10) rfl rfl rfl (v := true) rfl rfl (ow_load (v := .int .i64 t.n) ty3 H rfl 0 rfl rfl rfl rfl ?_)
        refine sr_want rfl (j := 3) (d := 10) rfl rfl rfl (v := true) rfl rfl (ow_eql rfl rfl ?_)
        refine sr_op rfl rfl (ow_pick (v := .bool (decide (t.n = 0))) rfl rfl ?_)
        exact sr_live [14, 2] (again _ _ ⟨_, _, rfl, H, by rw [hg] <;> rfl⟩)
    rintro _ _ ⟨r, _, rfl, H, rfl⟩
    refine sr_op rfl rfl (ow_assign (v := .bool ((nameB t.text) && (decide (t.n = 0)))) rfl ?_)
    refine sr_nil ?_
    refine st_ret hb (hR _ _ (.bool ((nameB t.text) && (decide (t.n = 0)))) (res_run (vs := [.bool ((nameB t.text) && (decide (t.n = 0)))]) Tryd.results84 ⟨_, _, rfl, rfl, rfl⟩) ?_)
    exact ⟨_, rfl, congrArg Value.bool (by rw [valid1 hc2]), (H.drop 1)⟩
  · have hc2 := of_decide_eq_false hc2
    refine st_seq ?_
    refine st_region ?_
    refine sr_op rfl rfl (ow_eql rfl rfl ?_)
    refine sr_op rfl rfl (ow_assign (v := .bool (decide (t.kind = 2))) rfl ?_)
    refine sr_nil ?_
    refine st_cond (decide (t.kind = 2)) rfl (fun hc3 => ?_) (fun hc3 => ?_)
    · have hc3 := of_decide_eq_true hc3
      refine st_seq ?_
      refine st_region ?_
      refine sr_op rfl rfl (ow_fieldAddr fd64_1 ty9 rfl rfl (r := 1) rfl ?_)
      refine sr_op rfl rfl (ow_load (v := .string t.text) ty9 H rfl 0 rfl rfl rfl rfl ?_)
      refine sr_op rfl rfl (ow_seq rfl rfl ?_)
      refine sr_op rfl rfl (ow_move (v := .bool (decide (t.text = ⟨#[]⟩))) rfl ?_)
      refine sr_cut 4 (fun m_ w_ => ∃ (r_ : Sl) (v_ : Bool), m_ = (24, .bool v_) :: (1, .pointer (some ⟨g1, 0, none⟩)) :: (2, .bool false) :: r_ ∧ Hp B I w_ ((g1, Ob [.int .i64 t.kind, .string t.text, .int .i64 t.n, .int .i64 t.at_] 64) :: L) ∧ v_ = ((decide (t.text = ⟨#[]⟩)) && (decide (0 ≤ t.n)))) (fun again => ?_) ?_
      · rcases hg : decide (t.text = ⟨#[]⟩) with _ | _
        · refine sr_pass rfl (j := 3) (d := 20) rfl rfl rfl (u := false) (v := true) rfl rfl ?_
          refine sr_pass rfl (j := 3) (d := 20) rfl rfl rfl (u := false) (v := true) rfl rfl ?_
          refine sr_pass rfl (j := 3) (d := 20) rfl rfl rfl (u := false) (v := true) rfl rfl ?_
          refine sr_op rfl rfl (ow_pick (v := .bool false) rfl rfl ?_)
          exact sr_live [24, 1, 2] (again _ _ ⟨_, _, rfl, H, by rw [hg] <;> rfl⟩)
        · refine sr_want rfl (j := 3) (d := 20) rfl rfl rfl (v := true) rfl rfl (ow_fieldAddr fd64_2 ty3 rfl rfl (r := 2) rfl ?_)
          refine sr_want rfl (j := 3) (d := 20) rfl rfl rfl (v := true) rfl rfl (ow_load (v := .int .i64 t.n) ty3 H rfl 0 rfl rfl rfl rfl ?_)
          refine sr_want rfl (j := 3) (d := 20) rfl rfl rfl (v := true) rfl rfl (ow_geq rfl rfl ?_)
          refine sr_op rfl rfl (ow_pick (v := .bool (decide (0 ≤ t.n))) rfl rfl ?_)
          exact sr_live [24, 1, 2] (again _ _ ⟨_, _, rfl, H, by rw [hg] <;> rfl⟩)
      rintro _ _ ⟨r, _, rfl, H, rfl⟩
      refine sr_op rfl rfl (ow_move (v := .bool ((decide (t.text = ⟨#[]⟩)) && (decide (0 ≤ t.n)))) rfl ?_)
      refine sr_cut 4 (fun m_ w_ => ∃ (r_ : Sl) (v_ : Bool), m_ = (29, .bool v_) :: (2, .bool false) :: r_ ∧ Hp B I w_ ((g1, Ob [.int .i64 t.kind, .string t.text, .int .i64 t.n, .int .i64 t.at_] 64) :: L) ∧ v_ = (((decide (t.text = ⟨#[]⟩)) && (decide (0 ≤ t.n))) && (decide (t.n ≤ 1099511627776)))) (fun again => ?_) ?_
      · rcases hg : (decide (t.text = ⟨#[]⟩)) && (decide (0 ≤ t.n)) with _ | _
        · refine sr_pass rfl (j := 8) (d := 25) rfl rfl rfl (u := false) (v := true) rfl rfl ?_
          refine sr_pass rfl (j := 8) (d := 25) rfl rfl rfl (u := false) (v := true) rfl rfl ?_
          refine sr_pass rfl (j := 8) (d := 25) rfl rfl rfl (u := false) (v := true) rfl rfl ?_
          refine sr_op rfl rfl (ow_pick (v := .bool false) rfl rfl ?_)
          exact sr_live [29, 2] (again _ _ ⟨_, _, rfl, H, by rw [hg] <;> rfl⟩)
        · refine sr_want rfl (j := 8) (d := 25) rfl rfl rfl (v := true) rfl rfl (ow_fieldAddr fd64_2 ty3 rfl rfl (r := 2) rfl ?_)
          refine sr_want rfl (j := 8) (d := 25) rfl rfl rfl (v := true) rfl rfl (ow_load (v := .int .i64 t.n) ty3 H rfl 0 rfl rfl rfl rfl ?_)
          refine sr_want rfl (j := 8) (d := 25) rfl rfl rfl (v := true) rfl rfl (ow_leq rfl rfl ?_)
          refine sr_op rfl rfl (ow_pick (v := .bool (decide (t.n ≤ 1099511627776))) rfl rfl ?_)
          exact sr_live [29, 2] (again _ _ ⟨_, _, rfl, H, by rw [hg] <;> rfl⟩)
      rintro _ _ ⟨r, _, rfl, H, rfl⟩
      refine sr_op rfl rfl (ow_assign (v := .bool (((decide (t.text = ⟨#[]⟩)) && (decide (0 ≤ t.n))) && (decide (t.n ≤ 1099511627776)))) rfl ?_)
      refine sr_nil ?_
      refine st_ret hb (hR _ _ (.bool (((decide (t.text = ⟨#[]⟩)) && (decide (0 ≤ t.n))) && (decide (t.n ≤ 1099511627776)))) (res_run (vs := [.bool (((decide (t.text = ⟨#[]⟩)) && (decide (0 ≤ t.n))) && (decide (t.n ≤ 1099511627776)))]) Tryd.results84 ⟨_, _, rfl, rfl, rfl⟩) ?_)
      exact ⟨_, rfl, congrArg Value.bool (by rw [valid2 hc3]), (H.drop 1)⟩
    · have hc3 := of_decide_eq_false hc3
      refine st_seq ?_
      refine st_region ?_
      refine sr_op rfl rfl (ow_eql rfl rfl ?_)
      refine sr_op rfl rfl (ow_assign (v := .bool (decide (t.kind = 3))) rfl ?_)
      refine sr_nil ?_
      refine st_cond (decide (t.kind = 3)) rfl (fun hc4 => ?_) (fun hc4 => ?_)
      · have hc4 := of_decide_eq_true hc4
        refine st_seq ?_
        refine st_region ?_
        refine sr_op rfl rfl (ow_fieldAddr fd64_1 ty9 rfl rfl (r := 1) rfl ?_)
        refine sr_op rfl rfl (ow_load (v := .string t.text) ty9 H rfl 0 rfl rfl rfl rfl ?_)
        refine sr_op rfl rfl (ow_lenT un9 rfl rfl ?_)
        refine sr_op rfl rfl (ow_eql rfl rfl ?_)
        refine sr_op rfl rfl (ow_move (v := .bool (decide ((t.text.size : Int) = 1))) rfl ?_)
        refine sr_cut 6 (fun m_ w_ => ∃ (r_ : Sl) (v_ : Bool), m_ = (42, .bool v_) :: (1, .pointer (some ⟨g1, 0, none⟩)) :: (2, .bool false) :: r_ ∧ Hp B I w_ ((g1, Ob [.int .i64 t.kind, .string t.text, .int .i64 t.n, .int .i64 t.at_] 64) :: L) ∧ v_ = ((decide ((t.text.size : Int) = 1)) && (decide ((classI (u.toNat : Int)) = 4)))) (fun again => ?_) ?_
        · rcases hg : decide ((t.text.size : Int) = 1) with _ | _
          · refine sr_pass rfl (j := 4) (d := 36) rfl rfl rfl (u := false) (v := true) rfl rfl ?_
            refine sr_pass rfl (j := 4) (d := 36) rfl rfl rfl (u := false) (v := true) rfl rfl ?_
            refine sr_pass rfl (j := 4) (d := 36) rfl rfl rfl (u := false) (v := true) rfl rfl ?_
            refine sr_pass rfl (j := 4) (d := 36) rfl rfl rfl (u := false) (v := true) rfl rfl ?_
            refine sr_pass rfl (j := 4) (d := 36) rfl rfl rfl (u := false) (v := true) rfl rfl ?_
            refine sr_op rfl rfl (ow_pick (v := .bool false) rfl rfl ?_)
            exact sr_live [42, 1, 2] (again _ _ ⟨_, _, rfl, H, by rw [hg] <;> rfl⟩)
          · refine sr_want rfl (j := 4) (d := 36) rfl rfl rfl (v := true) rfl rfl (ow_fieldAddr fd64_1 ty9 rfl rfl (r := 1) rfl ?_)
            refine sr_want rfl (j := 4) (d := 36) rfl rfl rfl (v := true) rfl rfl (ow_load (v := .string t.text) ty9 H rfl 0 rfl rfl rfl rfl ?_)
            refine sr_want rfl (j := 4) (d := 36) rfl rfl rfl (v := true) rfl rfl (ow_indexT un9 rfl rfl (by omega) (u := u) (hu (by first | omega | (simp at *; omega))).1 ?_)
            refine sr_want rfl (j := 4) (d := 36) rfl rfl rfl (v := true) rfl rfl (ow_call en78 rfl (class_c H (u.toNat : Int)) ?_)
            rintro _ _ ⟨rfl, H⟩
            refine sr_want rfl (j := 4) (d := 36) rfl rfl rfl (v := true) rfl rfl (ow_eql rfl rfl ?_)
            refine sr_op rfl rfl (ow_pick (v := .bool (decide ((classI (u.toNat : Int)) = 4))) rfl rfl ?_)
            exact sr_live [42, 1, 2] (again _ _ ⟨_, _, rfl, H, by rw [hg] <;> rfl⟩)
        rintro _ _ ⟨r, _, rfl, H, rfl⟩
        refine sr_op rfl rfl (ow_move (v := .bool ((decide ((t.text.size : Int) = 1)) && (decide ((classI (u.toNat : Int)) = 4)))) rfl ?_)
        refine sr_cut 4 (fun m_ w_ => ∃ (r_ : Sl) (v_ : Bool), m_ = (47, .bool v_) :: (2, .bool false) :: r_ ∧ Hp B I w_ ((g1, Ob [.int .i64 t.kind, .string t.text, .int .i64 t.n, .int .i64 t.at_] 64) :: L) ∧ v_ = (((decide ((t.text.size : Int) = 1)) && (decide ((classI (u.toNat : Int)) = 4))) && (decide (t.n = 0)))) (fun again => ?_) ?_
        · rcases hg : (decide ((t.text.size : Int) = 1)) && (decide ((classI (u.toNat : Int)) = 4)) with _ | _
          · refine sr_pass rfl (j := 11) (d := 43) rfl rfl rfl (u := false) (v := true) rfl rfl ?_
            refine sr_pass rfl (j := 11) (d := 43) rfl rfl rfl (u := false) (v := true) rfl rfl ?_
            refine sr_pass rfl (j := 11) (d := 43) rfl rfl rfl (u := false) (v := true) rfl rfl ?_
            refine sr_op rfl rfl (ow_pick (v := .bool false) rfl rfl ?_)
            exact sr_live [47, 2] (again _ _ ⟨_, _, rfl, H, by rw [hg] <;> rfl⟩)
          · refine sr_want rfl (j := 11) (d := 43) rfl rfl rfl (v := true) rfl rfl (ow_fieldAddr fd64_2 ty3 rfl rfl (r := 2) rfl ?_)
            refine sr_want rfl (j := 11) (d := 43) rfl rfl rfl (v := true) rfl rfl (ow_load (v := .int .i64 t.n) ty3 H rfl 0 rfl rfl rfl rfl ?_)
            refine sr_want rfl (j := 11) (d := 43) rfl rfl rfl (v := true) rfl rfl (ow_eql rfl rfl ?_)
            refine sr_op rfl rfl (ow_pick (v := .bool (decide (t.n = 0))) rfl rfl ?_)
            exact sr_live [47, 2] (again _ _ ⟨_, _, rfl, H, by rw [hg] <;> rfl⟩)
        rintro _ _ ⟨r, _, rfl, H, rfl⟩
        refine sr_op rfl rfl (ow_assign (v := .bool (((decide ((t.text.size : Int) = 1)) && (decide ((classI (u.toNat : Int)) = 4))) && (decide (t.n = 0)))) rfl ?_)
        refine sr_nil ?_
        refine st_ret hb (hR _ _ (.bool (((decide ((t.text.size : Int) = 1)) && (decide ((classI (u.toNat : Int)) = 4))) && (decide (t.n = 0)))) (res_run (vs := [.bool (((decide ((t.text.size : Int) = 1)) && (decide ((classI (u.toNat : Int)) = 4))) && (decide (t.n = 0)))]) Tryd.results84 ⟨_, _, rfl, rfl, rfl⟩) ?_)
        exact ⟨_, rfl, congrArg Value.bool (by rw [valid3 hc4 hu]), (H.drop 1)⟩
      · have hc4 := of_decide_eq_false hc4
        refine st_skip ?_
        refine st_inBlock ?_
        refine st_seq ?_
        refine st_region ?_
        refine sr_op rfl rfl (ow_assign (v := .bool false) rfl ?_)
        refine sr_nil ?_
        refine st_ret hb (hR _ _ (.bool false) (res_run (vs := [.bool false]) Tryd.results84 ⟨_, _, rfl, rfl, rfl⟩) ?_)
        exact ⟨_, rfl, congrArg Value.bool (valid0 hc2 hc3 hc4).symm, (H.drop 1)⟩
theorem Sign_c {B I L w} (H : Hp B I w L) (c : Int) : Calls Tryd.prog 83 #[.int .u8 c] w (Rt fun r w' => r = .bool (signL c) ∧ Hp B I w' L) := by
  refine calls_st (n := 16) Tryd.func83 rfl rfl rfl ?_
  intro G bF cs hb hfn hR hP
  simp only [ini]
  refine st_seq ?_
  refine st_region ?_
  refine sr_op rfl rfl (ow_assign (v := .bool false) rfl ?_)
  refine sr_nil ?_
  refine st_seq ?_
  refine st_region ?_
  refine sr_op rfl rfl (ow_assign (v := .string ⟨#[123, 125, 40, 41, 59, 44, 61, 58, 46, 60, 62, 33, 43, 45, 42, 47]⟩) rfl ?_)
  refine sr_nil ?_
  refine st_seq ?_
  refine st_seq ?_
  refine st_region ?_
  refine sr_op rfl rfl (ow_assign (v := .int .i64 0) rfl ?_)
  refine sr_nil ?_
  refine st_block ?_
  refine st_loop ?_
  refine st_live [0, 2, 3, 4] ?_
  refine st_ind (fun d_ m_ w_ => ∃ (i : Nat) (r_ : Sl), d_ = 16 - i ∧ m_ = (0, .int .u8 c) :: (2, .bool false) :: (3, .string signS) :: (4, .int .i64 (i : Int)) :: r_ ∧ Hp B I w_ (L) ∧ i ≤ 16 ∧ (signS.data.toList.take i).any (fun u => decide ((u.toNat : Int) = c)) = false) _ ⟨0, _, rfl, rfl, H, Nat.zero_le _, rfl⟩ ?_
  rintro _ _ _ ⟨i, r2, rfl, rfl, H, hi, hno⟩ ih3
  obtain ⟨u, hu⟩ := byte_of signS i
  refine st_seq ?_
  refine st_seq ?_
  refine st_region ?_
  refine sr_op rfl rfl (ow_move (v := .int .i64 (i : Int)) rfl ?_)
  refine sr_op rfl rfl (ow_move (v := .string signS) rfl ?_)
  refine sr_op rfl rfl (ow_lenT un9 rfl rfl ?_)
  refine sr_op rfl rfl (ow_lss rfl rfl ?_)
  refine sr_nil ?_
  refine st_cond (decide ((i : Int) < (signS.size : Int))) rfl (fun hc4 => ?_) (fun hc4 => ?_)
  · have hi16 : i < 16 := Int.ofNat_lt.1 (of_decide_eq_true hc4)
    refine st_skip ?_
    refine st_seq ?_
    refine st_block ?_
    refine st_seq ?_
    refine st_region ?_
    refine sr_op rfl rfl (ow_move (v := .string signS) rfl ?_)
    refine sr_op rfl rfl (ow_move (v := .int .i64 (i : Int)) rfl ?_)
    refine sr_op rfl rfl (ow_indexT un9 rfl rfl (by omega) (u := u) (hu hi16).1 ?_)
    refine sr_op rfl rfl (ow_move (v := .int .u8 c) rfl ?_)
    refine sr_op rfl rfl (ow_eql rfl rfl ?_)
    refine sr_nil ?_
    refine st_cond (decide ((u.toNat : Int) = c)) rfl (fun hc5 => ?_) (fun hc5 => ?_)
    · have hc5 := of_decide_eq_true hc5
      refine st_seq ?_
      refine st_region ?_
      refine sr_op rfl rfl (ow_assign (v := .bool true) rfl ?_)
      refine sr_nil ?_
      refine st_ret hb (hR _ _ (.bool true) (res_run (vs := [.bool true]) Tryd.results83 ⟨_, _, rfl, rfl, rfl⟩) ?_)
      exact ⟨_, rfl, congrArg Value.bool (List.any_eq_true.2 ⟨u, List.mem_of_getElem? (hu hi16).2, decide_eq_true hc5⟩).symm, H⟩
    · have hc5 := of_decide_eq_false hc5
      refine st_skip ?_
      refine st_inBlock ?_
      refine st_region ?_
      refine sr_op rfl rfl (ow_move (v := .int .i64 (i : Int)) rfl ?_)
      refine sr_op rfl rfl (ow_add (r := ((i + 1 : Nat) : Int)) rfl rfl (inc_i64 (by omega)) ?_)
      refine sr_op rfl rfl (ow_assign (v := .int .i64 ((i + 1 : Nat) : Int)) rfl ?_)
      refine sr_nil ?_
      exact st_inLoop (st_live [0, 2, 3, 4] (ih3 _ _ _ (by omega) ⟨i + 1, _, rfl, rfl, H, by omega, by rw [take_some (hu hi16).2, List.any_append, hno]; simp only [List.any_cons, List.any_nil, Bool.or_false, Bool.false_or]; exact decide_eq_false hc5⟩))
  · have hi16 : ¬ i < 16 := fun h_ => of_decide_eq_false hc4 (Int.ofNat_lt.2 h_)
    refine st_exit rfl ?_
    refine st_seq ?_
    refine st_region ?_
    refine sr_op rfl rfl (ow_assign (v := .bool false) rfl ?_)
    refine sr_nil ?_
    refine st_ret hb (hR _ _ (.bool false) (res_run (vs := [.bool false]) Tryd.results83 ⟨_, _, rfl, rfl, rfl⟩) ?_)
    rw [List.take_of_length_le (show signS.data.toList.length ≤ i from by have : signS.data.toList.length = 16 := rfl; omega)] at hno
    exact ⟨_, rfl, congrArg Value.bool hno.symm, H⟩
theorem Space_c {B I L w} (H : Hp B I w L) (c : Int) : Calls Tryd.prog 44 #[.int .u8 c] w (Rt fun r w' => r = .bool (spaceB c) ∧ Hp B I w' L) := by
  refine calls_st (n := 17) Tryd.func44 rfl rfl rfl ?_
  intro G bF cs hb hfn hR hP
  simp only [ini]
  refine st_seq ?_
  refine st_region ?_
  refine sr_op rfl rfl (ow_assign (v := .bool false) rfl ?_)
  refine sr_nil ?_
  refine st_seq ?_
  refine st_region ?_
  refine sr_op rfl rfl (ow_move (v := .int .u8 c) rfl ?_)
  refine sr_op rfl rfl (ow_eql rfl rfl ?_)
  refine sr_op rfl rfl (ow_move (v := .bool (decide (c = 32))) rfl ?_)
  refine sr_cut 3 (fun m_ w_ => ∃ (r_ : Sl) (v_ : Bool), m_ = (8, .bool v_) :: (0, .int .u8 c) :: (2, .bool false) :: r_ ∧ Hp B I w_ (L) ∧ v_ = ((decide (c = 32)) || (decide (c = 9)))) (fun again => ?_) ?_
  · rcases hg : decide (c = 32) with _ | _
    · refine sr_want rfl (j := 2) (d := 5) rfl rfl rfl (v := false) rfl rfl (ow_move (v := .int .u8 c) rfl ?_)
      refine sr_want rfl (j := 2) (d := 5) rfl rfl rfl (v := false) rfl rfl (ow_eql rfl rfl ?_)
      refine sr_op rfl rfl (ow_pick (v := .bool (decide (c = 9))) rfl rfl ?_)
      exact sr_live [8, 0, 2] (again _ _ ⟨_, _, rfl, H, by rw [hg] <;> rfl⟩)
    · refine sr_pass rfl (j := 2) (d := 5) rfl rfl rfl (u := true) (v := false) rfl rfl ?_
      refine sr_pass rfl (j := 2) (d := 5) rfl rfl rfl (u := true) (v := false) rfl rfl ?_
      refine sr_op rfl rfl (ow_pick (v := .bool true) rfl rfl ?_)
      exact sr_live [8, 0, 2] (again _ _ ⟨_, _, rfl, H, by rw [hg] <;> rfl⟩)
  rintro _ _ ⟨r, _, rfl, H, rfl⟩
  refine sr_op rfl rfl (ow_move (v := .bool ((decide (c = 32)) || (decide (c = 9)))) rfl ?_)
  refine sr_cut 3 (fun m_ w_ => ∃ (r_ : Sl) (v_ : Bool), m_ = (12, .bool v_) :: (0, .int .u8 c) :: (2, .bool false) :: r_ ∧ Hp B I w_ (L) ∧ v_ = (((decide (c = 32)) || (decide (c = 9))) || (decide (c = 10)))) (fun again => ?_) ?_
  · rcases hg : (decide (c = 32)) || (decide (c = 9)) with _ | _
    · refine sr_want rfl (j := 6) (d := 9) rfl rfl rfl (v := false) rfl rfl (ow_move (v := .int .u8 c) rfl ?_)
      refine sr_want rfl (j := 6) (d := 9) rfl rfl rfl (v := false) rfl rfl (ow_eql rfl rfl ?_)
      refine sr_op rfl rfl (ow_pick (v := .bool (decide (c = 10))) rfl rfl ?_)
      exact sr_live [12, 0, 2] (again _ _ ⟨_, _, rfl, H, by rw [hg] <;> rfl⟩)
    · refine sr_pass rfl (j := 6) (d := 9) rfl rfl rfl (u := true) (v := false) rfl rfl ?_
      refine sr_pass rfl (j := 6) (d := 9) rfl rfl rfl (u := true) (v := false) rfl rfl ?_
      refine sr_op rfl rfl (ow_pick (v := .bool true) rfl rfl ?_)
      exact sr_live [12, 0, 2] (again _ _ ⟨_, _, rfl, H, by rw [hg] <;> rfl⟩)
  rintro _ _ ⟨r, _, rfl, H, rfl⟩
  refine sr_op rfl rfl (ow_move (v := .bool (((decide (c = 32)) || (decide (c = 9))) || (decide (c = 10)))) rfl ?_)
  refine sr_cut 3 (fun m_ w_ => ∃ (r_ : Sl) (v_ : Bool), m_ = (16, .bool v_) :: (2, .bool false) :: r_ ∧ Hp B I w_ (L) ∧ v_ = ((((decide (c = 32)) || (decide (c = 9))) || (decide (c = 10))) || (decide (c = 13)))) (fun again => ?_) ?_
  · rcases hg : ((decide (c = 32)) || (decide (c = 9))) || (decide (c = 10)) with _ | _
    · refine sr_want rfl (j := 10) (d := 13) rfl rfl rfl (v := false) rfl rfl (ow_move (v := .int .u8 c) rfl ?_)
      refine sr_want rfl (j := 10) (d := 13) rfl rfl rfl (v := false) rfl rfl (ow_eql rfl rfl ?_)
      refine sr_op rfl rfl (ow_pick (v := .bool (decide (c = 13))) rfl rfl ?_)
      exact sr_live [16, 2] (again _ _ ⟨_, _, rfl, H, by rw [hg] <;> rfl⟩)
    · refine sr_pass rfl (j := 10) (d := 13) rfl rfl rfl (u := true) (v := false) rfl rfl ?_
      refine sr_pass rfl (j := 10) (d := 13) rfl rfl rfl (u := true) (v := false) rfl rfl ?_
      refine sr_op rfl rfl (ow_pick (v := .bool true) rfl rfl ?_)
      exact sr_live [16, 2] (again _ _ ⟨_, _, rfl, H, by rw [hg] <;> rfl⟩)
  rintro _ _ ⟨r, _, rfl, H, rfl⟩
  refine sr_op rfl rfl (ow_assign (v := .bool ((((decide (c = 32)) || (decide (c = 9))) || (decide (c = 10))) || (decide (c = 13)))) rfl ?_)
  refine sr_nil ?_
  refine st_ret hb (hR _ _ (.bool ((((decide (c = 32)) || (decide (c = 9))) || (decide (c = 10))) || (decide (c = 13)))) (res_run (vs := [.bool ((((decide (c = 32)) || (decide (c = 9))) || (decide (c = 10))) || (decide (c = 13)))]) Tryd.results44 ⟨_, _, rfl, rfl, rfl⟩) ?_)
  exact ⟨_, rfl, rfl, H⟩
theorem Valid_c {B I L w} (H : Hp B I w L) {t : Tk} {us : List Value} (ht : RepL I (encTk t) us) : Calls Tryd.prog 87 #[.agg us.toArray] w (Rt fun r w' => r = .bool (validB t) ∧ Hp B I w' L) := by
  obtain ⟨u, hu⟩ := byte_of t.text 0
  have d0 := ht
  obtain ⟨rfl, d0_0, d0_1, d0_2, d0_3⟩ := tk_iff.1 ht
  refine calls_st (n := 47) Tryd.func87 rfl rfl rfl ?_
  intro G bF cs hb hfn hR hP
  simp only [ini]
  refine st_seq ?_
  refine st_region ?_
  refine sr_op rfl rfl (ow_box H (v := .agg #[.int .i64 t.kind, .string t.text, .int .i64 t.n, .int .i64 t.at_]) rfl [.int .i64 t.kind, .string t.text, .int .i64 t.n, .int .i64 t.at_] rfl (fun g1 _ H => ?_))
  refine sr_op rfl rfl (ow_assign (v := .bool false) rfl ?_)
  refine sr_nil ?_
  refine st_seq ?_
  refine st_seq ?_
  refine st_region ?_
  refine sr_op rfl rfl (ow_fieldAddr fd64_0 ty3 rfl rfl (r := 0) rfl ?_)
  refine sr_op rfl rfl (ow_load (v := .int .i64 t.kind) ty3 H rfl 0 rfl rfl rfl rfl ?_)
  refine sr_nil ?_
  refine st_block ?_
  refine st_seq ?_
  refine st_region ?_
  refine sr_op rfl rfl (ow_eql rfl rfl ?_)
  refine sr_op rfl rfl (ow_assign (v := .bool (decide (t.kind = 1))) rfl ?_)
  refine sr_nil ?_
  refine st_cond (decide (t.kind = 1)) rfl (fun hc2 => ?_) (fun hc2 => ?_)
  · have hc2 := of_decide_eq_true hc2
    refine st_seq ?_
    refine st_region ?_
    refine sr_op rfl rfl (ow_fieldAddr fd64_1 ty9 rfl rfl (r := 1) rfl ?_)
    refine sr_op rfl rfl (ow_load (v := .string t.text) ty9 H rfl 0 rfl rfl rfl rfl ?_)
    refine sr_op rfl rfl (ow_call en43 rfl (refName_c H t.text d0_1) ?_)
    rintro _ _ ⟨rfl, H⟩
    refine sr_op rfl rfl (ow_move (v := .bool (nameB t.text)) rfl ?_)
    refine sr_cut 4 (fun m_ w_ => ∃ (r_ : Sl) (v_ : Bool), m_ = (14, .bool v_) :: (2, .bool false) :: r_ ∧ Hp B I w_ ((g1, Ob [.int .i64 t.kind, .string t.text, .int .i64 t.n, .int .i64 t.at_] 64) :: L) ∧ v_ = ((nameB t.text) && (decide (t.n = 0)))) (fun again => ?_) ?_
    · rcases hg : nameB t.text with _ | _
      · refine sr_pass rfl (j := 3) (d := 10) rfl rfl rfl (u := false) (v := true) rfl rfl ?_
        refine sr_pass rfl (j := 3) (d := 10) rfl rfl rfl (u := false) (v := true) rfl rfl ?_
        refine sr_pass rfl (j := 3) (d := 10) rfl rfl rfl (u := false) (v := true) rfl rfl ?_
        refine sr_op rfl rfl (ow_pick (v := .bool false) rfl rfl ?_)
        exact sr_live [14, 2] (again _ _ ⟨_, _, rfl, H, by rw [hg] <;> rfl⟩)
      · refine sr_want rfl (j := 3) (d := 10) rfl rfl rfl (v := true) rfl rfl (ow_fieldAddr fd64_2 ty3 rfl rfl (r := 2) rfl ?_)
        refine sr_want rfl (j := 3) (d := 10) rfl rfl rfl (v := true) rfl rfl (ow_load (v := .int .i64 t.n) ty3 H rfl 0 rfl rfl rfl rfl ?_)
        refine sr_want rfl (j := 3) (d := 10) rfl rfl rfl (v := true) rfl rfl (ow_eql rfl rfl ?_)
        refine sr_op rfl rfl (ow_pick (v := .bool (decide (t.n = 0))) rfl rfl ?_)
        exact sr_live [14, 2] (again _ _ ⟨_, _, rfl, H, by rw [hg] <;> rfl⟩)
    rintro _ _ ⟨r, _, rfl, H, rfl⟩
    refine sr_op rfl rfl (ow_assign (v := .bool ((nameB t.text) && (decide (t.n = 0)))) rfl ?_)
    refine sr_nil ?_
    refine st_ret hb (hR _ _ (.bool ((nameB t.text) && (decide (t.n = 0)))) (res_run (vs := [.bool ((nameB t.text) && (decide (t.n = 0)))]) Tryd.results87 ⟨_, _, rfl, rfl, rfl⟩) ?_)
    exact ⟨_, rfl, congrArg Value.bool (by rw [valid1 hc2]), (H.drop 1)⟩
  · have hc2 := of_decide_eq_false hc2
    refine st_seq ?_
    refine st_region ?_
    refine sr_op rfl rfl (ow_eql rfl rfl ?_)
    refine sr_op rfl rfl (ow_assign (v := .bool (decide (t.kind = 2))) rfl ?_)
    refine sr_nil ?_
    refine st_cond (decide (t.kind = 2)) rfl (fun hc3 => ?_) (fun hc3 => ?_)
    · have hc3 := of_decide_eq_true hc3
      refine st_seq ?_
      refine st_region ?_
      refine sr_op rfl rfl (ow_fieldAddr fd64_1 ty9 rfl rfl (r := 1) rfl ?_)
      refine sr_op rfl rfl (ow_load (v := .string t.text) ty9 H rfl 0 rfl rfl rfl rfl ?_)
      refine sr_op rfl rfl (ow_seq rfl rfl ?_)
      refine sr_op rfl rfl (ow_move (v := .bool (decide (t.text = ⟨#[]⟩))) rfl ?_)
      refine sr_cut 4 (fun m_ w_ => ∃ (r_ : Sl) (v_ : Bool), m_ = (24, .bool v_) :: (1, .pointer (some ⟨g1, 0, none⟩)) :: (2, .bool false) :: r_ ∧ Hp B I w_ ((g1, Ob [.int .i64 t.kind, .string t.text, .int .i64 t.n, .int .i64 t.at_] 64) :: L) ∧ v_ = ((decide (t.text = ⟨#[]⟩)) && (decide (0 ≤ t.n)))) (fun again => ?_) ?_
      · rcases hg : decide (t.text = ⟨#[]⟩) with _ | _
        · refine sr_pass rfl (j := 3) (d := 20) rfl rfl rfl (u := false) (v := true) rfl rfl ?_
          refine sr_pass rfl (j := 3) (d := 20) rfl rfl rfl (u := false) (v := true) rfl rfl ?_
          refine sr_pass rfl (j := 3) (d := 20) rfl rfl rfl (u := false) (v := true) rfl rfl ?_
          refine sr_op rfl rfl (ow_pick (v := .bool false) rfl rfl ?_)
          exact sr_live [24, 1, 2] (again _ _ ⟨_, _, rfl, H, by rw [hg] <;> rfl⟩)
        · refine sr_want rfl (j := 3) (d := 20) rfl rfl rfl (v := true) rfl rfl (ow_fieldAddr fd64_2 ty3 rfl rfl (r := 2) rfl ?_)
          refine sr_want rfl (j := 3) (d := 20) rfl rfl rfl (v := true) rfl rfl (ow_load (v := .int .i64 t.n) ty3 H rfl 0 rfl rfl rfl rfl ?_)
          refine sr_want rfl (j := 3) (d := 20) rfl rfl rfl (v := true) rfl rfl (ow_geq rfl rfl ?_)
          refine sr_op rfl rfl (ow_pick (v := .bool (decide (0 ≤ t.n))) rfl rfl ?_)
          exact sr_live [24, 1, 2] (again _ _ ⟨_, _, rfl, H, by rw [hg] <;> rfl⟩)
      rintro _ _ ⟨r, _, rfl, H, rfl⟩
      refine sr_op rfl rfl (ow_move (v := .bool ((decide (t.text = ⟨#[]⟩)) && (decide (0 ≤ t.n)))) rfl ?_)
      refine sr_cut 4 (fun m_ w_ => ∃ (r_ : Sl) (v_ : Bool), m_ = (29, .bool v_) :: (2, .bool false) :: r_ ∧ Hp B I w_ ((g1, Ob [.int .i64 t.kind, .string t.text, .int .i64 t.n, .int .i64 t.at_] 64) :: L) ∧ v_ = (((decide (t.text = ⟨#[]⟩)) && (decide (0 ≤ t.n))) && (decide (t.n ≤ 1099511627776)))) (fun again => ?_) ?_
      · rcases hg : (decide (t.text = ⟨#[]⟩)) && (decide (0 ≤ t.n)) with _ | _
        · refine sr_pass rfl (j := 8) (d := 25) rfl rfl rfl (u := false) (v := true) rfl rfl ?_
          refine sr_pass rfl (j := 8) (d := 25) rfl rfl rfl (u := false) (v := true) rfl rfl ?_
          refine sr_pass rfl (j := 8) (d := 25) rfl rfl rfl (u := false) (v := true) rfl rfl ?_
          refine sr_op rfl rfl (ow_pick (v := .bool false) rfl rfl ?_)
          exact sr_live [29, 2] (again _ _ ⟨_, _, rfl, H, by rw [hg] <;> rfl⟩)
        · refine sr_want rfl (j := 8) (d := 25) rfl rfl rfl (v := true) rfl rfl (ow_fieldAddr fd64_2 ty3 rfl rfl (r := 2) rfl ?_)
          refine sr_want rfl (j := 8) (d := 25) rfl rfl rfl (v := true) rfl rfl (ow_load (v := .int .i64 t.n) ty3 H rfl 0 rfl rfl rfl rfl ?_)
          refine sr_want rfl (j := 8) (d := 25) rfl rfl rfl (v := true) rfl rfl (ow_leq rfl rfl ?_)
          refine sr_op rfl rfl (ow_pick (v := .bool (decide (t.n ≤ 1099511627776))) rfl rfl ?_)
          exact sr_live [29, 2] (again _ _ ⟨_, _, rfl, H, by rw [hg] <;> rfl⟩)
      rintro _ _ ⟨r, _, rfl, H, rfl⟩
      refine sr_op rfl rfl (ow_assign (v := .bool (((decide (t.text = ⟨#[]⟩)) && (decide (0 ≤ t.n))) && (decide (t.n ≤ 1099511627776)))) rfl ?_)
      refine sr_nil ?_
      refine st_ret hb (hR _ _ (.bool (((decide (t.text = ⟨#[]⟩)) && (decide (0 ≤ t.n))) && (decide (t.n ≤ 1099511627776)))) (res_run (vs := [.bool (((decide (t.text = ⟨#[]⟩)) && (decide (0 ≤ t.n))) && (decide (t.n ≤ 1099511627776)))]) Tryd.results87 ⟨_, _, rfl, rfl, rfl⟩) ?_)
      exact ⟨_, rfl, congrArg Value.bool (by rw [valid2 hc3]), (H.drop 1)⟩
    · have hc3 := of_decide_eq_false hc3
      refine st_seq ?_
      refine st_region ?_
      refine sr_op rfl rfl (ow_eql rfl rfl ?_)
      refine sr_op rfl rfl (ow_assign (v := .bool (decide (t.kind = 3))) rfl ?_)
      refine sr_nil ?_
      refine st_cond (decide (t.kind = 3)) rfl (fun hc4 => ?_) (fun hc4 => ?_)
      · have hc4 := of_decide_eq_true hc4
        refine st_seq ?_
        refine st_region ?_
        refine sr_op rfl rfl (ow_fieldAddr fd64_1 ty9 rfl rfl (r := 1) rfl ?_)
        refine sr_op rfl rfl (ow_load (v := .string t.text) ty9 H rfl 0 rfl rfl rfl rfl ?_)
        refine sr_op rfl rfl (ow_lenT un9 rfl rfl ?_)
        refine sr_op rfl rfl (ow_eql rfl rfl ?_)
        refine sr_op rfl rfl (ow_move (v := .bool (decide ((t.text.size : Int) = 1))) rfl ?_)
        refine sr_cut 5 (fun m_ w_ => ∃ (r_ : Sl) (v_ : Bool), m_ = (41, .bool v_) :: (1, .pointer (some ⟨g1, 0, none⟩)) :: (2, .bool false) :: r_ ∧ Hp B I w_ ((g1, Ob [.int .i64 t.kind, .string t.text, .int .i64 t.n, .int .i64 t.at_] 64) :: L) ∧ v_ = ((decide ((t.text.size : Int) = 1)) && (signL (u.toNat : Int)))) (fun again => ?_) ?_
        · rcases hg : decide ((t.text.size : Int) = 1) with _ | _
          · refine sr_pass rfl (j := 4) (d := 36) rfl rfl rfl (u := false) (v := true) rfl rfl ?_
            refine sr_pass rfl (j := 4) (d := 36) rfl rfl rfl (u := false) (v := true) rfl rfl ?_
            refine sr_pass rfl (j := 4) (d := 36) rfl rfl rfl (u := false) (v := true) rfl rfl ?_
            refine sr_pass rfl (j := 4) (d := 36) rfl rfl rfl (u := false) (v := true) rfl rfl ?_
            refine sr_op rfl rfl (ow_pick (v := .bool false) rfl rfl ?_)
            exact sr_live [41, 1, 2] (again _ _ ⟨_, _, rfl, H, by rw [hg] <;> rfl⟩)
          · refine sr_want rfl (j := 4) (d := 36) rfl rfl rfl (v := true) rfl rfl (ow_fieldAddr fd64_1 ty9 rfl rfl (r := 1) rfl ?_)
            refine sr_want rfl (j := 4) (d := 36) rfl rfl rfl (v := true) rfl rfl (ow_load (v := .string t.text) ty9 H rfl 0 rfl rfl rfl rfl ?_)
            refine sr_want rfl (j := 4) (d := 36) rfl rfl rfl (v := true) rfl rfl (ow_indexT un9 rfl rfl (by omega) (u := u) (hu (by first | omega | (simp at *; omega))).1 ?_)
            refine sr_want rfl (j := 4) (d := 36) rfl rfl rfl (v := true) rfl rfl (ow_call en83 rfl (Sign_c H (u.toNat : Int)) ?_)
            rintro _ _ ⟨rfl, H⟩
            refine sr_op rfl rfl (ow_pick (v := .bool (signL (u.toNat : Int))) rfl rfl ?_)
            exact sr_live [41, 1, 2] (again _ _ ⟨_, _, rfl, H, by rw [hg] <;> rfl⟩)
        rintro _ _ ⟨r, _, rfl, H, rfl⟩
        refine sr_op rfl rfl (ow_move (v := .bool ((decide ((t.text.size : Int) = 1)) && (signL (u.toNat : Int)))) rfl ?_)
        refine sr_cut 4 (fun m_ w_ => ∃ (r_ : Sl) (v_ : Bool), m_ = (46, .bool v_) :: (2, .bool false) :: r_ ∧ Hp B I w_ ((g1, Ob [.int .i64 t.kind, .string t.text, .int .i64 t.n, .int .i64 t.at_] 64) :: L) ∧ v_ = (((decide ((t.text.size : Int) = 1)) && (signL (u.toNat : Int))) && (decide (t.n = 0)))) (fun again => ?_) ?_
        · rcases hg : (decide ((t.text.size : Int) = 1)) && (signL (u.toNat : Int)) with _ | _
          · refine sr_pass rfl (j := 10) (d := 42) rfl rfl rfl (u := false) (v := true) rfl rfl ?_
            refine sr_pass rfl (j := 10) (d := 42) rfl rfl rfl (u := false) (v := true) rfl rfl ?_
            refine sr_pass rfl (j := 10) (d := 42) rfl rfl rfl (u := false) (v := true) rfl rfl ?_
            refine sr_op rfl rfl (ow_pick (v := .bool false) rfl rfl ?_)
            exact sr_live [46, 2] (again _ _ ⟨_, _, rfl, H, by rw [hg] <;> rfl⟩)
          · refine sr_want rfl (j := 10) (d := 42) rfl rfl rfl (v := true) rfl rfl (ow_fieldAddr fd64_2 ty3 rfl rfl (r := 2) rfl ?_)
            refine sr_want rfl (j := 10) (d := 42) rfl rfl rfl (v := true) rfl rfl (ow_load (v := .int .i64 t.n) ty3 H rfl 0 rfl rfl rfl rfl ?_)
            refine sr_want rfl (j := 10) (d := 42) rfl rfl rfl (v := true) rfl rfl (ow_eql rfl rfl ?_)
            refine sr_op rfl rfl (ow_pick (v := .bool (decide (t.n = 0))) rfl rfl ?_)
            exact sr_live [46, 2] (again _ _ ⟨_, _, rfl, H, by rw [hg] <;> rfl⟩)
        rintro _ _ ⟨r, _, rfl, H, rfl⟩
        refine sr_op rfl rfl (ow_assign (v := .bool (((decide ((t.text.size : Int) = 1)) && (signL (u.toNat : Int))) && (decide (t.n = 0)))) rfl ?_)
        refine sr_nil ?_
        refine st_ret hb (hR _ _ (.bool (((decide ((t.text.size : Int) = 1)) && (signL (u.toNat : Int))) && (decide (t.n = 0)))) (res_run (vs := [.bool (((decide ((t.text.size : Int) = 1)) && (signL (u.toNat : Int))) && (decide (t.n = 0)))]) Tryd.results87 ⟨_, _, rfl, rfl, rfl⟩) ?_)
        exact ⟨_, rfl, congrArg Value.bool (by rw [valid3 hc4 hu] <;> rw [sign_class]), (H.drop 1)⟩
      · have hc4 := of_decide_eq_false hc4
        refine st_skip ?_
        refine st_inBlock ?_
        refine st_seq ?_
        refine st_region ?_
        refine sr_op rfl rfl (ow_assign (v := .bool false) rfl ?_)
        refine sr_nil ?_
        refine st_ret hb (hR _ _ (.bool false) (res_run (vs := [.bool false]) Tryd.results87 ⟨_, _, rfl, rfl, rfl⟩) ?_)
        exact ⟨_, rfl, congrArg Value.bool (valid0 hc2 hc3 hc4).symm, (H.drop 1)⟩
def sameTk (x y : Tk) : Bool := (decide (x.kind = y.kind) && decide (x.text = y.text)) && decide (x.n = y.n)
def pairB (q : Tk → Tk → Bool) : List Tk → List Tk → Bool
  | [], [] => true
  | x :: l, y :: m => q x y && pairB q l m
  | _, _ => false
theorem pair_all {q : Tk → Tk → Bool} : ∀ {l m : List Tk}, l.length = m.length → (∀ (i : Nat) x y, l[i]? = some x → m[i]? = some y → q x y = true) → pairB q l m = true
  | [], [], _, _ => rfl
  | x :: l, y :: m, h, hq => by
    simp only [pairB, Bool.and_eq_true]
    exact ⟨hq 0 x y rfl rfl, pair_all (by simpa using h) fun i a b ha hb => hq (i + 1) a b (by simpa using ha) (by simpa using hb)⟩
  | [], y :: m, h, _ => by simp at h
  | x :: l, [], h, _ => by simp at h
theorem pair_no {q : Tk → Tk → Bool} : ∀ {l m : List Tk} {i : Nat} {x y : Tk}, l[i]? = some x → m[i]? = some y → q x y = false → pairB q l m = false
  | [], _, i, x, y, hx, _, _ => by simp at hx
  | _ :: _, [], i, x, y, _, hy, _ => by simp at hy
  | a :: l, b :: m, i, x, y, hx, hy, h => by
    simp only [pairB]
    cases i with
    | zero =>
      simp only [List.getElem?_cons_zero, Option.some.injEq] at hx hy
      rw [hx, hy, h, Bool.false_and]
    | succ i => rw [pair_no (l := l) (m := m) (by simpa using hx) (by simpa using hy) h, Bool.and_false]
theorem pair_len {q : Tk → Tk → Bool} : ∀ {l m : List Tk}, ¬ l.length = m.length → pairB q l m = false
  | [], [], h => by simp at h
  | x :: l, y :: m, h => by
    simp only [pairB, pair_len (l := l) (m := m) (by simpa using h), Bool.and_false]
  | [], y :: m, _ => rfl
  | x :: l, [], _ => rfl
theorem pair_lens {q : Tk → Tk → Bool} : ∀ {l m : List Tk}, pairB q l m = true → l.length = m.length
  | [], [], _ => rfl
  | x :: l, y :: m, h => by
    simp only [pairB, Bool.and_eq_true] at h
    simp [pair_lens h.2]
  | [], y :: m, h => by simp [pairB] at h
  | x :: l, [], h => by simp [pairB] at h
def sameTs (l m : List Tk) : Bool := pairB sameTk l m
def atsB (l m : List Tk) : Bool := pairB (fun x y => decide (x.at_ = y.at_)) l m
def eqTs (l m : List Tk) : Bool := sameTs l m && atsB l m
def nsame (x y : Tk) : Bool := !decide (x.kind = y.kind) || (!decide (x.text = y.text) || !decide (x.n = y.n))
theorem nsame_eq (x y : Tk) : nsame x y = !sameTk x y := by simp [nsame, sameTk, Bool.not_and, Bool.or_assoc]
theorem same1_c {B I L w} (H : Hp B I w L) {x y : Tk} {us ws : List Value} (hx : RepL I (encTk x) us) (hy : RepL I (encTk y) ws) : Calls Tryd.prog 90 #[.agg us.toArray, .agg ws.toArray] w (Rt fun r w' => r = .bool (sameTk x y) ∧ Hp B I w' L) := by
  have d0 := hx
  obtain ⟨rfl, d0_0, d0_1, d0_2, d0_3⟩ := tk_iff.1 hx
  have d1 := hy
  obtain ⟨rfl, d1_0, d1_1, d1_2, d1_3⟩ := tk_iff.1 hy
  refine calls_st (n := 24) Tryd.func90 rfl rfl rfl ?_
  intro G bF cs hb hfn hR hP
  simp only [ini]
  refine st_seq ?_
  refine st_region ?_
  refine sr_op rfl rfl (ow_box H (v := .agg #[.int .i64 x.kind, .string x.text, .int .i64 x.n, .int .i64 x.at_]) rfl [.int .i64 x.kind, .string x.text, .int .i64 x.n, .int .i64 x.at_] rfl (fun g1 _ H => ?_))
  refine sr_op rfl rfl (ow_box H (v := .agg #[.int .i64 y.kind, .string y.text, .int .i64 y.n, .int .i64 y.at_]) rfl [.int .i64 y.kind, .string y.text, .int .i64 y.n, .int .i64 y.at_] rfl (fun g2 _ H => ?_))
  refine sr_op rfl rfl (ow_assign (v := .bool false) rfl ?_)
  refine sr_nil ?_
  refine st_seq ?_
  refine st_region ?_
  refine sr_op rfl rfl (ow_fieldAddr fd64_0 ty3 rfl rfl (r := 0) rfl ?_)
  refine sr_op rfl rfl (ow_load (v := .int .i64 x.kind) ty3 H rfl 1 rfl rfl rfl rfl ?_)
  refine sr_op rfl rfl (ow_fieldAddr fd64_0 ty3 rfl rfl (r := 0) rfl ?_)
  refine sr_op rfl rfl (ow_load (v := .int .i64 y.kind) ty3 H rfl 0 rfl rfl rfl rfl ?_)
  refine sr_op rfl rfl (ow_eql rfl rfl ?_)
  refine sr_op rfl rfl (ow_move (v := .bool (decide (x.kind = y.kind))) rfl ?_)
  refine sr_cut 6 (fun m_ w_ => ∃ (r_ : Sl) (v_ : Bool), m_ = (16, .bool v_) :: (2, .pointer (some ⟨g1, 0, none⟩)) :: (3, .pointer (some ⟨g2, 0, none⟩)) :: (4, .bool false) :: r_ ∧ Hp B I w_ ((g2, Ob [.int .i64 y.kind, .string y.text, .int .i64 y.n, .int .i64 y.at_] 64) :: (g1, Ob [.int .i64 x.kind, .string x.text, .int .i64 x.n, .int .i64 x.at_] 64) :: L) ∧ v_ = ((decide (x.kind = y.kind)) && (decide (x.text = y.text)))) (fun again => ?_) ?_
  · rcases hg : decide (x.kind = y.kind) with _ | _
    · refine sr_pass rfl (j := 5) (d := 10) rfl rfl rfl (u := false) (v := true) rfl rfl ?_
      refine sr_pass rfl (j := 5) (d := 10) rfl rfl rfl (u := false) (v := true) rfl rfl ?_
      refine sr_pass rfl (j := 5) (d := 10) rfl rfl rfl (u := false) (v := true) rfl rfl ?_
      refine sr_pass rfl (j := 5) (d := 10) rfl rfl rfl (u := false) (v := true) rfl rfl ?_
      refine sr_pass rfl (j := 5) (d := 10) rfl rfl rfl (u := false) (v := true) rfl rfl ?_
      refine sr_op rfl rfl (ow_pick (v := .bool false) rfl rfl ?_)
      exact sr_live [16, 2, 3, 4] (again _ _ ⟨_, _, rfl, H, by rw [hg] <;> rfl⟩)
    · refine sr_want rfl (j := 5) (d := 10) rfl rfl rfl (v := true) rfl rfl (ow_fieldAddr fd64_1 ty9 rfl rfl (r := 1) rfl ?_)
      refine sr_want rfl (j := 5) (d := 10) rfl rfl rfl (v := true) rfl rfl (ow_load (v := .string x.text) ty9 H rfl 1 rfl rfl rfl rfl ?_)
      refine sr_want rfl (j := 5) (d := 10) rfl rfl rfl (v := true) rfl rfl (ow_fieldAddr fd64_1 ty9 rfl rfl (r := 1) rfl ?_)
      refine sr_want rfl (j := 5) (d := 10) rfl rfl rfl (v := true) rfl rfl (ow_load (v := .string y.text) ty9 H rfl 0 rfl rfl rfl rfl ?_)
      refine sr_want rfl (j := 5) (d := 10) rfl rfl rfl (v := true) rfl rfl (ow_seq rfl rfl ?_)
      refine sr_op rfl rfl (ow_pick (v := .bool (decide (x.text = y.text))) rfl rfl ?_)
      exact sr_live [16, 2, 3, 4] (again _ _ ⟨_, _, rfl, H, by rw [hg] <;> rfl⟩)
  rintro _ _ ⟨r, _, rfl, H, rfl⟩
  refine sr_op rfl rfl (ow_move (v := .bool ((decide (x.kind = y.kind)) && (decide (x.text = y.text)))) rfl ?_)
  refine sr_cut 6 (fun m_ w_ => ∃ (r_ : Sl) (v_ : Bool), m_ = (23, .bool v_) :: (4, .bool false) :: r_ ∧ Hp B I w_ ((g2, Ob [.int .i64 y.kind, .string y.text, .int .i64 y.n, .int .i64 y.at_] 64) :: (g1, Ob [.int .i64 x.kind, .string x.text, .int .i64 x.n, .int .i64 x.at_] 64) :: L) ∧ v_ = (((decide (x.kind = y.kind)) && (decide (x.text = y.text))) && (decide (x.n = y.n)))) (fun again => ?_) ?_
  · rcases hg : (decide (x.kind = y.kind)) && (decide (x.text = y.text)) with _ | _
    · refine sr_pass rfl (j := 12) (d := 17) rfl rfl rfl (u := false) (v := true) rfl rfl ?_
      refine sr_pass rfl (j := 12) (d := 17) rfl rfl rfl (u := false) (v := true) rfl rfl ?_
      refine sr_pass rfl (j := 12) (d := 17) rfl rfl rfl (u := false) (v := true) rfl rfl ?_
      refine sr_pass rfl (j := 12) (d := 17) rfl rfl rfl (u := false) (v := true) rfl rfl ?_
      refine sr_pass rfl (j := 12) (d := 17) rfl rfl rfl (u := false) (v := true) rfl rfl ?_
      refine sr_op rfl rfl (ow_pick (v := .bool false) rfl rfl ?_)
      exact sr_live [23, 4] (again _ _ ⟨_, _, rfl, H, by rw [hg] <;> rfl⟩)
    · refine sr_want rfl (j := 12) (d := 17) rfl rfl rfl (v := true) rfl rfl (ow_fieldAddr fd64_2 ty3 rfl rfl (r := 2) rfl ?_)
      refine sr_want rfl (j := 12) (d := 17) rfl rfl rfl (v := true) rfl rfl (ow_load (v := .int .i64 x.n) ty3 H rfl 1 rfl rfl rfl rfl ?_)
      refine sr_want rfl (j := 12) (d := 17) rfl rfl rfl (v := true) rfl rfl (ow_fieldAddr fd64_2 ty3 rfl rfl (r := 2) rfl ?_)
      refine sr_want rfl (j := 12) (d := 17) rfl rfl rfl (v := true) rfl rfl (ow_load (v := .int .i64 y.n) ty3 H rfl 0 rfl rfl rfl rfl ?_)
      refine sr_want rfl (j := 12) (d := 17) rfl rfl rfl (v := true) rfl rfl (ow_eql rfl rfl ?_)
      refine sr_op rfl rfl (ow_pick (v := .bool (decide (x.n = y.n))) rfl rfl ?_)
      exact sr_live [23, 4] (again _ _ ⟨_, _, rfl, H, by rw [hg] <;> rfl⟩)
  rintro _ _ ⟨r, _, rfl, H, rfl⟩
  refine sr_op rfl rfl (ow_assign (v := .bool (((decide (x.kind = y.kind)) && (decide (x.text = y.text))) && (decide (x.n = y.n)))) rfl ?_)
  refine sr_nil ?_
  refine st_ret hb (hR _ _ (.bool (((decide (x.kind = y.kind)) && (decide (x.text = y.text))) && (decide (x.n = y.n)))) (res_run (vs := [.bool (((decide (x.kind = y.kind)) && (decide (x.text = y.text))) && (decide (x.n = y.n)))]) Tryd.results90 ⟨_, _, rfl, rfl, rfl⟩) ?_)
  exact ⟨_, rfl, rfl, (H.drop 2)⟩
theorem EqualFunc_c {B I L w} (H : Hp B I w L) {l m : List Tk} {v u : Value} (hl : RepS encTk I 4 l v) (hm : RepS encTk I 4 m u) : Calls Tryd.prog 89 #[v, u, .func (.func 90) #[] #[]] w (Rt fun r w' => r = .bool (sameTs l m) ∧ Hp B I w' L) := by
  obtain ⟨s0A, s0c, rfl, s0m, s0M, s0⟩ := RepS.open_ hl
  obtain ⟨s1A, s1c, rfl, s1m, s1M, s1⟩ := RepS.open_ hm
  refine calls_st (n := 32) Tryd.func89 rfl rfl rfl ?_
  intro G bF cs hb hfn hR hP
  simp only [ini]
  refine st_seq ?_
  refine st_region ?_
  refine sr_op rfl rfl (ow_assign (v := .bool false) rfl ?_)
  refine sr_nil ?_
  refine st_seq ?_
  refine st_seq ?_
  refine st_region ?_
  refine sr_op rfl rfl (ow_move (v := .slice s0A l.length s0c) rfl ?_)
  refine sr_op rfl rfl (ow_lenS sl53 rfl rfl ?_)
  refine sr_op rfl rfl (ow_move (v := .slice s1A m.length s1c) rfl ?_)
  refine sr_op rfl rfl (ow_lenS sl53 rfl rfl ?_)
  refine sr_op rfl rfl (ow_neq rfl rfl ?_)
  refine sr_nil ?_
  refine st_cond (!decide ((l.length : Int) = (m.length : Int))) rfl (fun hc1 => ?_) (fun hc1 => ?_)
  · have hc1 := bnt hc1
    have hc1 := of_decide_eq_false hc1
    refine st_seq ?_
    refine st_region ?_
    refine sr_op rfl rfl (ow_assign (v := .bool false) rfl ?_)
    refine sr_nil ?_
    refine st_ret hb (hR _ _ (.bool false) (res_run (vs := [.bool false]) Tryd.results89 ⟨_, _, rfl, rfl, rfl⟩) ?_)
    exact ⟨_, rfl, congrArg Value.bool (show false = sameTs l m from (pair_len (by omega)).symm), H⟩
  · have hc1 := bnf hc1
    have hc1 := of_decide_eq_true hc1
    have hlen : l.length = m.length := by omega
    refine st_skip ?_
    refine st_seq ?_
    refine st_seq ?_
    refine st_region ?_
    refine sr_op rfl rfl (ow_move (v := .slice s0A l.length s0c) rfl ?_)
    refine sr_op rfl rfl (ow_lenS sl53 rfl rfl ?_)
    refine sr_op rfl rfl (ow_move (v := .int .i64 0) rfl ?_)
    refine sr_nil ?_
    refine st_block ?_
    refine st_loop ?_
    refine st_live [1, 2, 6, 15, 16, 17] ?_
    refine st_ind (fun d_ m_ w_ => ∃ (i : Nat) (r_ : Sl), d_ = l.length - i ∧ m_ = (1, .slice s1A m.length s1c) :: (2, .func (.func 90) #[] #[]) :: (6, .bool false) :: (15, .slice s0A l.length s0c) :: (16, .int .i64 (l.length : Int)) :: (17, .int .i64 (i : Int)) :: r_ ∧ Hp B I w_ (L) ∧ i ≤ l.length ∧ ∀ (q_ : Nat) x_ y_, q_ < i → l[q_]? = some x_ → m[q_]? = some y_ → sameTk x_ y_ = true) _ ⟨0, _, rfl, rfl, H, Nat.zero_le _, by intro q_ x_ y_ h_; omega⟩ ?_
    rintro _ _ _ ⟨i, r3, rfl, rfl, H, hi, hdone⟩ ih4
    refine st_seq ?_
    refine st_region ?_
    refine sr_op rfl rfl (ow_lss rfl rfl ?_)
    refine sr_nil ?_
    refine st_seq ?_
    refine st_cond (decide ((i : Int) < (l.length : Int))) rfl (fun hc5 => ?_) (fun hc5 => ?_)
    · have hc5 := of_decide_eq_true hc5
      refine st_skip ?_
      refine st_seq ?_
      refine st_block ?_
      refine st_seq ?_
      refine st_region ?_
      refine sr_op rfl rfl (ow_move (v := .int .i64 (i : Int)) rfl ?_)
      obtain ⟨e6, he6⟩ : ∃ q_, l[i]? = some q_ := ⟨_, List.getElem?_eq_getElem (by omega)⟩
      obtain ⟨b6, o6, us6, hA6, hat6, hul6, hr6⟩ := RepS.get s0 he6
      have d6 := hr6
      obtain ⟨rfl, d6_0, d6_1, d6_2, d6_3⟩ := tk_iff.1 hr6
      refine sr_op rfl rfl (ow_indexAddrA sl53 ty64 hA6 rfl rfl (by omega) (by omega) (r := o6 + i * 4) rfl ?_)
      refine sr_op rfl rfl (ow_loadI (v := .agg #[.int .i64 e6.kind, .string e6.text, .int .i64 e6.n, .int .i64 e6.at_]) ty64 H rfl hat6 rfl rfl rfl ?_)
      refine sr_op rfl rfl (ow_alloc ty64 H [.int .i64 0, .string ⟨#[]⟩, .int .i64 0, .int .i64 0] rfl (fun g7 _ H => ?_))
      refine sr_op rfl rfl (ow_assign (v := .int .i64 (i : Int)) rfl ?_)
      refine sr_op rfl rfl (ow_store ty64 H rfl (v := .agg #[.int .i64 e6.kind, .string e6.text, .int .i64 e6.n, .int .i64 e6.at_]) rfl [.int .i64 e6.kind, .string e6.text, .int .i64 e6.n, .int .i64 e6.at_] rfl rfl rfl 0 rfl rfl (fun _ H => ?_))
      refine sr_nil ?_
      refine st_seq ?_
      refine st_region ?_
      refine sr_op rfl rfl (ow_move (v := .slice s1A m.length s1c) rfl ?_)
      refine sr_op rfl rfl (ow_move (v := .int .i64 (i : Int)) rfl ?_)
      obtain ⟨e8, he8⟩ : ∃ q_, m[i]? = some q_ := ⟨_, List.getElem?_eq_getElem (by omega)⟩
      obtain ⟨b8, o8, us8, hA8, hat8, hul8, hr8⟩ := RepS.get s1 he8
      have d8 := hr8
      obtain ⟨rfl, d8_0, d8_1, d8_2, d8_3⟩ := tk_iff.1 hr8
      refine sr_op rfl rfl (ow_indexAddrA sl53 ty64 hA8 rfl rfl (by omega) (by omega) (r := o8 + i * 4) rfl ?_)
      refine sr_op rfl rfl (ow_loadI (v := .agg #[.int .i64 e8.kind, .string e8.text, .int .i64 e8.n, .int .i64 e8.at_]) ty64 H rfl hat8 rfl rfl rfl ?_)
      refine sr_op rfl rfl (ow_alloc ty64 H [.int .i64 0, .string ⟨#[]⟩, .int .i64 0, .int .i64 0] rfl (fun g9 _ H => ?_))
      refine sr_op rfl rfl (ow_store ty64 H rfl (v := .agg #[.int .i64 e8.kind, .string e8.text, .int .i64 e8.n, .int .i64 e8.at_]) rfl [.int .i64 e8.kind, .string e8.text, .int .i64 e8.n, .int .i64 e8.at_] rfl rfl rfl 0 rfl rfl (fun _ H => ?_))
      refine sr_nil ?_
      refine st_seq ?_
      refine st_region ?_
      refine sr_op rfl rfl (ow_move (v := .func (.func 90) #[] #[]) rfl ?_)
      refine sr_op rfl rfl (ow_load (v := .agg #[.int .i64 e6.kind, .string e6.text, .int .i64 e6.n, .int .i64 e6.at_]) ty64 H rfl 1 rfl rfl rfl rfl ?_)
      refine sr_op rfl rfl (ow_load (v := .agg #[.int .i64 e8.kind, .string e8.text, .int .i64 e8.n, .int .i64 e8.at_]) ty64 H rfl 0 rfl rfl rfl rfl ?_)
      refine sr_op rfl rfl (ow_callV en90 (first := []) (cap := []) rfl rfl (same1_c H d6 d8) ?_)
      rintro _ _ ⟨rfl, H⟩
      refine sr_op rfl rfl (ow_not rfl ?_)
      refine sr_nil ?_
      refine st_cond (!(sameTk e6 e8)) rfl (fun hc10 => ?_) (fun hc10 => ?_)
      · have hbad := bnt hc10
        refine st_seq ?_
        refine st_region ?_
        refine sr_op rfl rfl (ow_assign (v := .bool false) rfl ?_)
        refine sr_nil ?_
        refine st_ret hb (hR _ _ (.bool false) (res_run (vs := [.bool false]) Tryd.results89 ⟨_, _, rfl, rfl, rfl⟩) ?_)
        exact ⟨_, rfl, congrArg Value.bool (show false = sameTs l m from (pair_no he6 he8 hbad).symm), (H.drop 2)⟩
      · have hgood := bnf hc10
        refine st_skip ?_
        refine st_inBlock ?_
        refine st_region ?_
        refine sr_op rfl rfl (ow_add (r := ((i + 1 : Nat) : Int)) rfl rfl (inc_i64 (by omega)) ?_)
        refine sr_op rfl rfl (ow_move (v := .int .i64 ((i + 1 : Nat) : Int)) rfl ?_)
        refine sr_nil ?_
        exact st_inLoop (st_live [1, 2, 6, 15, 16, 17] (ih4 _ _ _ (by omega) ⟨i + 1, _, rfl, rfl, H.drop 2, by omega, by
            intro q_ x_ y_ h_ hx_ hy_
            by_cases e_ : q_ = i
            · subst e_
              rw [he6] at hx_
              rw [he8] at hy_
              cases hx_
              cases hy_
              exact hgood
            · exact hdone q_ x_ y_ (by omega) hx_ hy_⟩))
    · have hc5 := of_decide_eq_false hc5
      refine st_exit rfl ?_
      refine st_seq ?_
      refine st_region ?_
      refine sr_op rfl rfl (ow_assign (v := .bool true) rfl ?_)
      refine sr_nil ?_
      refine st_ret hb (hR _ _ (.bool true) (res_run (vs := [.bool true]) Tryd.results89 ⟨_, _, rfl, rfl, rfl⟩) ?_)
      exact ⟨_, rfl, congrArg Value.bool (show true = sameTs l m from (pair_all hlen (fun q_ x_ y_ hx_ hy_ => hdone q_ x_ y_ (by have := (List.getElem?_eq_some_iff.1 hx_).1; omega) hx_ hy_)).symm), H⟩
theorem lexSame_c {B I L w} (H : Hp B I w L) {l m : List Tk} {v u : Value} (hl : RepS encTk I 4 l v) (hm : RepS encTk I 4 m u) : Calls Tryd.prog 40 #[v, u] w (Rt fun r w' => r = .bool (sameTs l m) ∧ Hp B I w' L) := by
  obtain ⟨s0A, s0c, rfl, s0m, s0M, s0⟩ := RepS.open_ hl
  obtain ⟨s1A, s1c, rfl, s1m, s1M, s1⟩ := RepS.open_ hm
  refine calls_st (n := 8) Tryd.func40 rfl rfl rfl ?_
  intro G bF cs hb hfn hR hP
  simp only [ini]
  refine st_seq ?_
  refine st_region ?_
  refine sr_op rfl rfl (ow_assign (v := .bool false) rfl ?_)
  refine sr_nil ?_
  refine st_seq ?_
  refine st_region ?_
  refine sr_op rfl rfl (ow_move (v := .slice s0A l.length s0c) rfl ?_)
  refine sr_op rfl rfl (ow_move (v := .slice s1A m.length s1c) rfl ?_)
  refine sr_op rfl rfl (ow_call en89 rfl (EqualFunc_c H s0 s1) ?_)
  rintro _ _ ⟨rfl, H⟩
  refine sr_op rfl rfl (ow_assign (v := .bool (sameTs l m)) rfl ?_)
  refine sr_nil ?_
  refine st_ret hb (hR _ _ (.bool (sameTs l m)) (res_run (vs := [.bool (sameTs l m)]) Tryd.results40 ⟨_, _, rfl, rfl, rfl⟩) ?_)
  exact ⟨_, rfl, rfl, H⟩
theorem refSame_c {B I L w} (H : Hp B I w L) {l m : List Tk} {v u : Value} (hl : RepS encTk I 4 l v) (hm : RepS encTk I 4 m u) : Calls Tryd.prog 41 #[v, u] w (Rt fun r w' => r = .bool (sameTs l m) ∧ Hp B I w' L) := by
  obtain ⟨s0A, s0c, rfl, s0m, s0M, s0⟩ := RepS.open_ hl
  obtain ⟨s1A, s1c, rfl, s1m, s1M, s1⟩ := RepS.open_ hm
  refine calls_st (n := 54) Tryd.func41 rfl rfl rfl ?_
  intro G bF cs hb hfn hR hP
  simp only [ini]
  refine st_seq ?_
  refine st_region ?_
  refine sr_op rfl rfl (ow_assign (v := .bool false) rfl ?_)
  refine sr_nil ?_
  refine st_seq ?_
  refine st_seq ?_
  refine st_region ?_
  refine sr_op rfl rfl (ow_move (v := .slice s0A l.length s0c) rfl ?_)
  refine sr_op rfl rfl (ow_lenS sl53 rfl rfl ?_)
  refine sr_op rfl rfl (ow_move (v := .slice s1A m.length s1c) rfl ?_)
  refine sr_op rfl rfl (ow_lenS sl53 rfl rfl ?_)
  refine sr_op rfl rfl (ow_neq rfl rfl ?_)
  refine sr_nil ?_
  refine st_cond (!decide ((l.length : Int) = (m.length : Int))) rfl (fun hc1 => ?_) (fun hc1 => ?_)
  · have hc1 := bnt hc1
    have hc1 := of_decide_eq_false hc1
    refine st_seq ?_
    refine st_region ?_
    refine sr_op rfl rfl (ow_assign (v := .bool false) rfl ?_)
    refine sr_nil ?_
    refine st_ret hb (hR _ _ (.bool false) (res_run (vs := [.bool false]) Tryd.results41 ⟨_, _, rfl, rfl, rfl⟩) ?_)
    exact ⟨_, rfl, congrArg Value.bool (show false = sameTs l m from (pair_len (by omega)).symm), H⟩
  · have hc1 := bnf hc1
    have hc1 := of_decide_eq_true hc1
    have hlen : l.length = m.length := by omega
    refine st_skip ?_
    refine st_seq ?_
    refine st_seq ?_
    refine st_region ?_
    refine sr_op rfl rfl (ow_assign (v := .int .i64 0) rfl ?_)
    refine sr_nil ?_
    refine st_block ?_
    refine st_loop ?_
    refine st_live [0, 1, 4, 5] ?_
    refine st_ind (fun d_ m_ w_ => ∃ (i : Nat) (r_ : Sl), d_ = l.length - i ∧ m_ = (0, .slice s0A l.length s0c) :: (1, .slice s1A m.length s1c) :: (4, .bool false) :: (5, .int .i64 (i : Int)) :: r_ ∧ Hp B I w_ (L) ∧ i ≤ l.length ∧ ∀ (q_ : Nat) x_ y_, q_ < i → l[q_]? = some x_ → m[q_]? = some y_ → sameTk x_ y_ = true) _ ⟨0, _, rfl, rfl, H, Nat.zero_le _, by intro q_ x_ y_ h_; omega⟩ ?_
    rintro _ _ _ ⟨i, r3, rfl, rfl, H, hi, hdone⟩ ih4
    refine st_seq ?_
    refine st_seq ?_
    refine st_region ?_
    refine sr_op rfl rfl (ow_move (v := .int .i64 (i : Int)) rfl ?_)
    refine sr_op rfl rfl (ow_move (v := .slice s0A l.length s0c) rfl ?_)
    refine sr_op rfl rfl (ow_lenS sl53 rfl rfl ?_)
    refine sr_op rfl rfl (ow_lss rfl rfl ?_)
    refine sr_nil ?_
    refine st_cond (decide ((i : Int) < (l.length : Int))) rfl (fun hc5 => ?_) (fun hc5 => ?_)
    · have hc5 := of_decide_eq_true hc5
      refine st_skip ?_
      refine st_seq ?_
      refine st_block ?_
      refine st_seq ?_
      obtain ⟨e6, he6⟩ : ∃ q_, l[i]? = some q_ := ⟨_, List.getElem?_eq_getElem (by omega)⟩
      obtain ⟨b6, o6, us6, hA6, hat6, hul6, hr6⟩ := RepS.get s0 he6
      have d6 := hr6
      obtain ⟨rfl, d6_0, d6_1, d6_2, d6_3⟩ := tk_iff.1 hr6
      obtain ⟨e7, he7⟩ : ∃ q_, m[i]? = some q_ := ⟨_, List.getElem?_eq_getElem (by omega)⟩
      obtain ⟨b7, o7, us7, hA7, hat7, hul7, hr7⟩ := RepS.get s1 he7
      have d7 := hr7
      obtain ⟨rfl, d7_0, d7_1, d7_2, d7_3⟩ := tk_iff.1 hr7
      refine st_cut (fun m_ w_ => ∃ (r_ : Sl) (v53_ : Bool), m_ = (0, .slice s0A l.length s0c) :: (1, .slice s1A m.length s1c) :: (4, .bool false) :: (5, .int .i64 (i : Int)) :: (53, .bool v53_) :: r_ ∧ Hp B I w_ (L) ∧ v53_ = (!(decide (e6.kind = e7.kind)) || (!(decide (e6.text = e7.text)) || (!decide (e6.n = e7.n))))) (fun again => ?_) ?_
      · rcases Bool.eq_false_or_eq_true (decide (e6.kind = e7.kind)) with hg8 | hg8
        · rcases Bool.eq_false_or_eq_true (decide (e6.text = e7.text)) with hg9 | hg9
          · refine st_draw (F := (fun w_ => ∃ I2, Le I I2 ∧ Hp B I2 w_ [])) (p0 := [0, 1, 2, 3, 4, 5, 6, 7, 8, 9, 10, 11, 12, 13, 14, 15, 16, 17, 18, 19, 20, 21, 22, 23, 24, 25, 26, 27, 28, 29, 30, 31, 32, 33, 34, 35, 36]) (plan := []) [] [] [(53, .bool (!decide (e6.n = e7.n))), (52, .bool (!decide (e6.n = e7.n))), (51, .int .i64 e7.n), (50, .pointer (some ⟨b7, o7 + i * 4 + 2, none⟩)), (49, .pointer (some ⟨b7, o7 + i * 4, none⟩)), (48, .int .i64 (i : Int)), (47, .slice s1A m.length s1c), (46, .int .i64 e6.n), (45, .pointer (some ⟨b6, o6 + i * 4 + 2, none⟩)), (44, .pointer (some ⟨b6, o6 + i * 4, none⟩)), (43, .int .i64 (i : Int)), (42, .slice s0A l.length s0c), (41, .bool (!decide (e6.text = e7.text))), (40, .bool (!decide (e6.text = e7.text))), (39, .bool (!decide (e6.text = e7.text))), (38, .string e7.text), (37, .pointer (some ⟨b7, o7 + i * 4 + 1, none⟩)), (36, .pointer (some ⟨b7, o7 + i * 4, none⟩)), (35, .int .i64 (i : Int)), (34, .slice s1A m.length s1c), (33, .string e6.text), (32, .pointer (some ⟨b6, o6 + i * 4 + 1, none⟩)), (31, .pointer (some ⟨b6, o6 + i * 4, none⟩)), (30, .int .i64 (i : Int)), (29, .slice s0A l.length s0c), (28, .bool (!decide (e6.kind = e7.kind))), (27, .bool (!decide (e6.kind = e7.kind))), (26, .int .i64 e7.kind), (25, .pointer (some ⟨b7, o7 + i * 4 + 0, none⟩)), (24, .pointer (some ⟨b7, o7 + i * 4, none⟩)), (23, .int .i64 (i : Int)), (22, .slice s1A m.length s1c), (21, .int .i64 e6.kind), (20, .pointer (some ⟨b6, o6 + i * 4 + 0, none⟩)), (19, .pointer (some ⟨b6, o6 + i * 4, none⟩)), (18, .int .i64 (i : Int)), (17, .slice s0A l.length s0c)] (by kernel_rfl) rfl ?_ ⟨_, Le.refl _, H.drew.pick [] (by decide)⟩ ?_
            · refine ⟨kn_op rfl rfl (wantB_none rfl) fun _ hF2 => ?_, ?_⟩
              · obtain ⟨_, hle2, H2⟩ := hF2
                refine  (ow_move (v := .slice s0A l.length s0c) rfl ?_)
                exact ⟨rfl, rfl⟩
              refine ⟨kn_op rfl rfl (wantB_none rfl) fun _ hF2 => ?_, ?_⟩
              · obtain ⟨_, hle2, H2⟩ := hF2
                refine  (ow_move (v := .int .i64 (i : Int)) rfl ?_)
                exact ⟨rfl, rfl⟩
              refine ⟨kn_op rfl rfl (wantB_none rfl) fun _ hF2 => ?_, ?_⟩
              · obtain ⟨_, hle2, H2⟩ := hF2
                refine  (ow_indexAddrA sl53 ty64 hA6 rfl rfl (by omega) (by omega) (r := o6 + i * 4) rfl ?_)
                exact ⟨rfl, rfl⟩
              refine ⟨kn_op rfl rfl (wantB_none rfl) fun _ hF2 => ?_, ?_⟩
              · obtain ⟨_, hle2, H2⟩ := hF2
                refine  (ow_fieldAddr fd64_0 ty3 rfl rfl (r := o6 + i * 4 + 0) rfl ?_)
                exact ⟨rfl, rfl⟩
              refine ⟨kn_op rfl rfl (wantB_none rfl) fun _ hF2 => ?_, ?_⟩
              · obtain ⟨_, hle2, H2⟩ := hF2
                refine  (ow_loadI (v := .int .i64 e6.kind) ty3 H2 rfl (At.mono hle2 (At.sub (vs := [.int .i64 e6.kind]) hat6 0 rfl)) rfl rfl rfl ?_)
                exact ⟨rfl, rfl⟩
              refine ⟨kn_op rfl rfl (wantB_none rfl) fun _ hF2 => ?_, ?_⟩
              · obtain ⟨_, hle2, H2⟩ := hF2
                refine  (ow_move (v := .slice s1A m.length s1c) rfl ?_)
                exact ⟨rfl, rfl⟩
              refine ⟨kn_op rfl rfl (wantB_none rfl) fun _ hF2 => ?_, ?_⟩
              · obtain ⟨_, hle2, H2⟩ := hF2
                refine  (ow_move (v := .int .i64 (i : Int)) rfl ?_)
                exact ⟨rfl, rfl⟩
              refine ⟨kn_op rfl rfl (wantB_none rfl) fun _ hF2 => ?_, ?_⟩
              · obtain ⟨_, hle2, H2⟩ := hF2
                refine  (ow_indexAddrA sl53 ty64 hA7 rfl rfl (by omega) (by omega) (r := o7 + i * 4) rfl ?_)
                exact ⟨rfl, rfl⟩
              refine ⟨kn_op rfl rfl (wantB_none rfl) fun _ hF2 => ?_, ?_⟩
              · obtain ⟨_, hle2, H2⟩ := hF2
                refine  (ow_fieldAddr fd64_0 ty3 rfl rfl (r := o7 + i * 4 + 0) rfl ?_)
                exact ⟨rfl, rfl⟩
              refine ⟨kn_op rfl rfl (wantB_none rfl) fun _ hF2 => ?_, ?_⟩
              · obtain ⟨_, hle2, H2⟩ := hF2
                refine  (ow_loadI (v := .int .i64 e7.kind) ty3 H2 rfl (At.mono hle2 (At.sub (vs := [.int .i64 e7.kind]) hat7 0 rfl)) rfl rfl rfl ?_)
                exact ⟨rfl, rfl⟩
              refine ⟨kn_op rfl rfl (wantB_none rfl) fun _ hF2 => ?_, ?_⟩
              · obtain ⟨_, hle2, H2⟩ := hF2
                refine  (ow_neq rfl rfl ?_)
                exact ⟨rfl, rfl⟩
              refine ⟨kn_op rfl rfl (wantB_none rfl) fun _ hF2 => ?_, ?_⟩
              · obtain ⟨_, hle2, H2⟩ := hF2
                refine  (ow_move (v := .bool (!decide (e6.kind = e7.kind))) rfl ?_)
                exact ⟨rfl, rfl⟩
              refine ⟨kn_op rfl rfl ((wantB_some (j := 11) rfl rfl (d := 28) rfl rfl (u := false) (by exact congrArg Value.bool (congrArg (a₂ := true) not hg8))).trans rfl) fun _ hF2 => ?_, ?_⟩
              · obtain ⟨_, hle2, H2⟩ := hF2
                refine  (ow_move (v := .slice s0A l.length s0c) rfl ?_)
                exact ⟨rfl, rfl⟩
              refine ⟨kn_op rfl rfl ((wantB_some (j := 11) rfl rfl (d := 28) rfl rfl (u := false) (by exact congrArg Value.bool (congrArg (a₂ := true) not hg8))).trans rfl) fun _ hF2 => ?_, ?_⟩
              · obtain ⟨_, hle2, H2⟩ := hF2
                refine  (ow_move (v := .int .i64 (i : Int)) rfl ?_)
                exact ⟨rfl, rfl⟩
              refine ⟨kn_op rfl rfl ((wantB_some (j := 11) rfl rfl (d := 28) rfl rfl (u := false) (by exact congrArg Value.bool (congrArg (a₂ := true) not hg8))).trans rfl) fun _ hF2 => ?_, ?_⟩
              · obtain ⟨_, hle2, H2⟩ := hF2
                refine  (ow_indexAddrA sl53 ty64 hA6 rfl rfl (by omega) (by omega) (r := o6 + i * 4) rfl ?_)
                exact ⟨rfl, rfl⟩
              refine ⟨kn_op rfl rfl ((wantB_some (j := 11) rfl rfl (d := 28) rfl rfl (u := false) (by exact congrArg Value.bool (congrArg (a₂ := true) not hg8))).trans rfl) fun _ hF2 => ?_, ?_⟩
              · obtain ⟨_, hle2, H2⟩ := hF2
                refine  (ow_fieldAddr fd64_1 ty9 rfl rfl (r := o6 + i * 4 + 1) rfl ?_)
                exact ⟨rfl, rfl⟩
              refine ⟨kn_op rfl rfl ((wantB_some (j := 11) rfl rfl (d := 28) rfl rfl (u := false) (by exact congrArg Value.bool (congrArg (a₂ := true) not hg8))).trans rfl) fun _ hF2 => ?_, ?_⟩
              · obtain ⟨_, hle2, H2⟩ := hF2
                refine  (ow_loadI (v := .string e6.text) ty9 H2 rfl (At.mono hle2 (At.sub (vs := [.string e6.text]) hat6 1 rfl)) rfl rfl rfl ?_)
                exact ⟨rfl, rfl⟩
              refine ⟨kn_op rfl rfl ((wantB_some (j := 11) rfl rfl (d := 28) rfl rfl (u := false) (by exact congrArg Value.bool (congrArg (a₂ := true) not hg8))).trans rfl) fun _ hF2 => ?_, ?_⟩
              · obtain ⟨_, hle2, H2⟩ := hF2
                refine  (ow_move (v := .slice s1A m.length s1c) rfl ?_)
                exact ⟨rfl, rfl⟩
              refine ⟨kn_op rfl rfl ((wantB_some (j := 11) rfl rfl (d := 28) rfl rfl (u := false) (by exact congrArg Value.bool (congrArg (a₂ := true) not hg8))).trans rfl) fun _ hF2 => ?_, ?_⟩
              · obtain ⟨_, hle2, H2⟩ := hF2
                refine  (ow_move (v := .int .i64 (i : Int)) rfl ?_)
                exact ⟨rfl, rfl⟩
              refine ⟨kn_op rfl rfl ((wantB_some (j := 11) rfl rfl (d := 28) rfl rfl (u := false) (by exact congrArg Value.bool (congrArg (a₂ := true) not hg8))).trans rfl) fun _ hF2 => ?_, ?_⟩
              · obtain ⟨_, hle2, H2⟩ := hF2
                refine  (ow_indexAddrA sl53 ty64 hA7 rfl rfl (by omega) (by omega) (r := o7 + i * 4) rfl ?_)
                exact ⟨rfl, rfl⟩
              refine ⟨kn_op rfl rfl ((wantB_some (j := 11) rfl rfl (d := 28) rfl rfl (u := false) (by exact congrArg Value.bool (congrArg (a₂ := true) not hg8))).trans rfl) fun _ hF2 => ?_, ?_⟩
              · obtain ⟨_, hle2, H2⟩ := hF2
                refine  (ow_fieldAddr fd64_1 ty9 rfl rfl (r := o7 + i * 4 + 1) rfl ?_)
                exact ⟨rfl, rfl⟩
              refine ⟨kn_op rfl rfl ((wantB_some (j := 11) rfl rfl (d := 28) rfl rfl (u := false) (by exact congrArg Value.bool (congrArg (a₂ := true) not hg8))).trans rfl) fun _ hF2 => ?_, ?_⟩
              · obtain ⟨_, hle2, H2⟩ := hF2
                refine  (ow_loadI (v := .string e7.text) ty9 H2 rfl (At.mono hle2 (At.sub (vs := [.string e7.text]) hat7 1 rfl)) rfl rfl rfl ?_)
                exact ⟨rfl, rfl⟩
              refine ⟨kn_op rfl rfl ((wantB_some (j := 11) rfl rfl (d := 28) rfl rfl (u := false) (by exact congrArg Value.bool (congrArg (a₂ := true) not hg8))).trans rfl) fun _ hF2 => ?_, ?_⟩
              · obtain ⟨_, hle2, H2⟩ := hF2
                refine  (ow_sne rfl rfl ?_)
                exact ⟨rfl, rfl⟩
              refine ⟨kn_op rfl rfl (wantB_none rfl) fun _ hF2 => ?_, ?_⟩
              · obtain ⟨_, hle2, H2⟩ := hF2
                refine  (ow_pick (a := false) (v := .bool (!decide (e6.text = e7.text))) (congrArg Value.bool (congrArg (a₂ := true) not hg8)) rfl ?_)
                exact ⟨rfl, rfl⟩
              refine ⟨kn_op rfl rfl (wantB_none rfl) fun _ hF2 => ?_, ?_⟩
              · obtain ⟨_, hle2, H2⟩ := hF2
                refine  (ow_move (v := .bool (!decide (e6.text = e7.text))) rfl ?_)
                exact ⟨rfl, rfl⟩
              refine ⟨kn_op rfl rfl ((wantB_some (j := 24) rfl rfl (d := 41) rfl rfl (u := false) (by exact congrArg Value.bool (congrArg (a₂ := true) not hg9))).trans rfl) fun _ hF2 => ?_, ?_⟩
              · obtain ⟨_, hle2, H2⟩ := hF2
                refine  (ow_move (v := .slice s0A l.length s0c) rfl ?_)
                exact ⟨rfl, rfl⟩
              refine ⟨kn_op rfl rfl ((wantB_some (j := 24) rfl rfl (d := 41) rfl rfl (u := false) (by exact congrArg Value.bool (congrArg (a₂ := true) not hg9))).trans rfl) fun _ hF2 => ?_, ?_⟩
              · obtain ⟨_, hle2, H2⟩ := hF2
                refine  (ow_move (v := .int .i64 (i : Int)) rfl ?_)
                exact ⟨rfl, rfl⟩
              refine ⟨kn_op rfl rfl ((wantB_some (j := 24) rfl rfl (d := 41) rfl rfl (u := false) (by exact congrArg Value.bool (congrArg (a₂ := true) not hg9))).trans rfl) fun _ hF2 => ?_, ?_⟩
              · obtain ⟨_, hle2, H2⟩ := hF2
                refine  (ow_indexAddrA sl53 ty64 hA6 rfl rfl (by omega) (by omega) (r := o6 + i * 4) rfl ?_)
                exact ⟨rfl, rfl⟩
              refine ⟨kn_op rfl rfl ((wantB_some (j := 24) rfl rfl (d := 41) rfl rfl (u := false) (by exact congrArg Value.bool (congrArg (a₂ := true) not hg9))).trans rfl) fun _ hF2 => ?_, ?_⟩
              · obtain ⟨_, hle2, H2⟩ := hF2
                refine  (ow_fieldAddr fd64_2 ty3 rfl rfl (r := o6 + i * 4 + 2) rfl ?_)
                exact ⟨rfl, rfl⟩
              refine ⟨kn_op rfl rfl ((wantB_some (j := 24) rfl rfl (d := 41) rfl rfl (u := false) (by exact congrArg Value.bool (congrArg (a₂ := true) not hg9))).trans rfl) fun _ hF2 => ?_, ?_⟩
              · obtain ⟨_, hle2, H2⟩ := hF2
                refine  (ow_loadI (v := .int .i64 e6.n) ty3 H2 rfl (At.mono hle2 (At.sub (vs := [.int .i64 e6.n]) hat6 2 rfl)) rfl rfl rfl ?_)
                exact ⟨rfl, rfl⟩
              refine ⟨kn_op rfl rfl ((wantB_some (j := 24) rfl rfl (d := 41) rfl rfl (u := false) (by exact congrArg Value.bool (congrArg (a₂ := true) not hg9))).trans rfl) fun _ hF2 => ?_, ?_⟩
              · obtain ⟨_, hle2, H2⟩ := hF2
                refine  (ow_move (v := .slice s1A m.length s1c) rfl ?_)
                exact ⟨rfl, rfl⟩
              refine ⟨kn_op rfl rfl ((wantB_some (j := 24) rfl rfl (d := 41) rfl rfl (u := false) (by exact congrArg Value.bool (congrArg (a₂ := true) not hg9))).trans rfl) fun _ hF2 => ?_, ?_⟩
              · obtain ⟨_, hle2, H2⟩ := hF2
                refine  (ow_move (v := .int .i64 (i : Int)) rfl ?_)
                exact ⟨rfl, rfl⟩
              refine ⟨kn_op rfl rfl ((wantB_some (j := 24) rfl rfl (d := 41) rfl rfl (u := false) (by exact congrArg Value.bool (congrArg (a₂ := true) not hg9))).trans rfl) fun _ hF2 => ?_, ?_⟩
              · obtain ⟨_, hle2, H2⟩ := hF2
                refine  (ow_indexAddrA sl53 ty64 hA7 rfl rfl (by omega) (by omega) (r := o7 + i * 4) rfl ?_)
                exact ⟨rfl, rfl⟩
              refine ⟨kn_op rfl rfl ((wantB_some (j := 24) rfl rfl (d := 41) rfl rfl (u := false) (by exact congrArg Value.bool (congrArg (a₂ := true) not hg9))).trans rfl) fun _ hF2 => ?_, ?_⟩
              · obtain ⟨_, hle2, H2⟩ := hF2
                refine  (ow_fieldAddr fd64_2 ty3 rfl rfl (r := o7 + i * 4 + 2) rfl ?_)
                exact ⟨rfl, rfl⟩
              refine ⟨kn_op rfl rfl ((wantB_some (j := 24) rfl rfl (d := 41) rfl rfl (u := false) (by exact congrArg Value.bool (congrArg (a₂ := true) not hg9))).trans rfl) fun _ hF2 => ?_, ?_⟩
              · obtain ⟨_, hle2, H2⟩ := hF2
                refine  (ow_loadI (v := .int .i64 e7.n) ty3 H2 rfl (At.mono hle2 (At.sub (vs := [.int .i64 e7.n]) hat7 2 rfl)) rfl rfl rfl ?_)
                exact ⟨rfl, rfl⟩
              refine ⟨kn_op rfl rfl ((wantB_some (j := 24) rfl rfl (d := 41) rfl rfl (u := false) (by exact congrArg Value.bool (congrArg (a₂ := true) not hg9))).trans rfl) fun _ hF2 => ?_, ?_⟩
              · obtain ⟨_, hle2, H2⟩ := hF2
                refine  (ow_neq rfl rfl ?_)
                exact ⟨rfl, rfl⟩
              refine ⟨kn_op rfl rfl (wantB_none rfl) fun _ hF2 => ?_, ?_⟩
              · obtain ⟨_, hle2, H2⟩ := hF2
                refine  (ow_pick (a := false) (v := .bool (!decide (e6.n = e7.n))) (congrArg Value.bool (congrArg (a₂ := true) not hg9)) rfl ?_)
                exact ⟨rfl, rfl⟩
              exact trivial
            have H := H.drew
            refine cw_nil ?_
            exact st_live [0, 1, 4, 5, 53] (again _ _ ⟨_, _, rfl, H, by first | rfl | (rw [hg8, hg9] <;> rfl) | simp [hg8, hg9]⟩)
          · refine st_draw (F := (fun w_ => ∃ I2, Le I I2 ∧ Hp B I2 w_ [])) (p0 := [0, 1, 2, 3, 4, 5, 6, 7, 8, 9, 10, 11, 12, 13, 14, 15, 16, 17, 18, 19, 20, 21, 22, 23, 24, 25, 26, 27, 28, 29, 30, 31, 32, 33, 34, 35, 36]) (plan := []) [] [] [(53, .bool true), (52, undef), (51, undef), (50, undef), (49, undef), (48, undef), (47, undef), (46, undef), (45, undef), (44, undef), (43, undef), (42, undef), (41, .bool (!decide (e6.text = e7.text))), (40, .bool (!decide (e6.text = e7.text))), (39, .bool (!decide (e6.text = e7.text))), (38, .string e7.text), (37, .pointer (some ⟨b7, o7 + i * 4 + 1, none⟩)), (36, .pointer (some ⟨b7, o7 + i * 4, none⟩)), (35, .int .i64 (i : Int)), (34, .slice s1A m.length s1c), (33, .string e6.text), (32, .pointer (some ⟨b6, o6 + i * 4 + 1, none⟩)), (31, .pointer (some ⟨b6, o6 + i * 4, none⟩)), (30, .int .i64 (i : Int)), (29, .slice s0A l.length s0c), (28, .bool (!decide (e6.kind = e7.kind))), (27, .bool (!decide (e6.kind = e7.kind))), (26, .int .i64 e7.kind), (25, .pointer (some ⟨b7, o7 + i * 4 + 0, none⟩)), (24, .pointer (some ⟨b7, o7 + i * 4, none⟩)), (23, .int .i64 (i : Int)), (22, .slice s1A m.length s1c), (21, .int .i64 e6.kind), (20, .pointer (some ⟨b6, o6 + i * 4 + 0, none⟩)), (19, .pointer (some ⟨b6, o6 + i * 4, none⟩)), (18, .int .i64 (i : Int)), (17, .slice s0A l.length s0c)] (by kernel_rfl) rfl ?_ ⟨_, Le.refl _, H.drew.pick [] (by decide)⟩ ?_
            · refine ⟨kn_op rfl rfl (wantB_none rfl) fun _ hF2 => ?_, ?_⟩
              · obtain ⟨_, hle2, H2⟩ := hF2
                refine  (ow_move (v := .slice s0A l.length s0c) rfl ?_)
                exact ⟨rfl, rfl⟩
              refine ⟨kn_op rfl rfl (wantB_none rfl) fun _ hF2 => ?_, ?_⟩
              · obtain ⟨_, hle2, H2⟩ := hF2
                refine  (ow_move (v := .int .i64 (i : Int)) rfl ?_)
                exact ⟨rfl, rfl⟩
              refine ⟨kn_op rfl rfl (wantB_none rfl) fun _ hF2 => ?_, ?_⟩
              · obtain ⟨_, hle2, H2⟩ := hF2
                refine  (ow_indexAddrA sl53 ty64 hA6 rfl rfl (by omega) (by omega) (r := o6 + i * 4) rfl ?_)
                exact ⟨rfl, rfl⟩
              refine ⟨kn_op rfl rfl (wantB_none rfl) fun _ hF2 => ?_, ?_⟩
              · obtain ⟨_, hle2, H2⟩ := hF2
                refine  (ow_fieldAddr fd64_0 ty3 rfl rfl (r := o6 + i * 4 + 0) rfl ?_)
                exact ⟨rfl, rfl⟩
              refine ⟨kn_op rfl rfl (wantB_none rfl) fun _ hF2 => ?_, ?_⟩
              · obtain ⟨_, hle2, H2⟩ := hF2
                refine  (ow_loadI (v := .int .i64 e6.kind) ty3 H2 rfl (At.mono hle2 (At.sub (vs := [.int .i64 e6.kind]) hat6 0 rfl)) rfl rfl rfl ?_)
                exact ⟨rfl, rfl⟩
              refine ⟨kn_op rfl rfl (wantB_none rfl) fun _ hF2 => ?_, ?_⟩
              · obtain ⟨_, hle2, H2⟩ := hF2
                refine  (ow_move (v := .slice s1A m.length s1c) rfl ?_)
                exact ⟨rfl, rfl⟩
              refine ⟨kn_op rfl rfl (wantB_none rfl) fun _ hF2 => ?_, ?_⟩
              · obtain ⟨_, hle2, H2⟩ := hF2
                refine  (ow_move (v := .int .i64 (i : Int)) rfl ?_)
                exact ⟨rfl, rfl⟩
              refine ⟨kn_op rfl rfl (wantB_none rfl) fun _ hF2 => ?_, ?_⟩
              · obtain ⟨_, hle2, H2⟩ := hF2
                refine  (ow_indexAddrA sl53 ty64 hA7 rfl rfl (by omega) (by omega) (r := o7 + i * 4) rfl ?_)
                exact ⟨rfl, rfl⟩
              refine ⟨kn_op rfl rfl (wantB_none rfl) fun _ hF2 => ?_, ?_⟩
              · obtain ⟨_, hle2, H2⟩ := hF2
                refine  (ow_fieldAddr fd64_0 ty3 rfl rfl (r := o7 + i * 4 + 0) rfl ?_)
                exact ⟨rfl, rfl⟩
              refine ⟨kn_op rfl rfl (wantB_none rfl) fun _ hF2 => ?_, ?_⟩
              · obtain ⟨_, hle2, H2⟩ := hF2
                refine  (ow_loadI (v := .int .i64 e7.kind) ty3 H2 rfl (At.mono hle2 (At.sub (vs := [.int .i64 e7.kind]) hat7 0 rfl)) rfl rfl rfl ?_)
                exact ⟨rfl, rfl⟩
              refine ⟨kn_op rfl rfl (wantB_none rfl) fun _ hF2 => ?_, ?_⟩
              · obtain ⟨_, hle2, H2⟩ := hF2
                refine  (ow_neq rfl rfl ?_)
                exact ⟨rfl, rfl⟩
              refine ⟨kn_op rfl rfl (wantB_none rfl) fun _ hF2 => ?_, ?_⟩
              · obtain ⟨_, hle2, H2⟩ := hF2
                refine  (ow_move (v := .bool (!decide (e6.kind = e7.kind))) rfl ?_)
                exact ⟨rfl, rfl⟩
              refine ⟨kn_op rfl rfl ((wantB_some (j := 11) rfl rfl (d := 28) rfl rfl (u := false) (by exact congrArg Value.bool (congrArg (a₂ := true) not hg8))).trans rfl) fun _ hF2 => ?_, ?_⟩
              · obtain ⟨_, hle2, H2⟩ := hF2
                refine  (ow_move (v := .slice s0A l.length s0c) rfl ?_)
                exact ⟨rfl, rfl⟩
              refine ⟨kn_op rfl rfl ((wantB_some (j := 11) rfl rfl (d := 28) rfl rfl (u := false) (by exact congrArg Value.bool (congrArg (a₂ := true) not hg8))).trans rfl) fun _ hF2 => ?_, ?_⟩
              · obtain ⟨_, hle2, H2⟩ := hF2
                refine  (ow_move (v := .int .i64 (i : Int)) rfl ?_)
                exact ⟨rfl, rfl⟩
              refine ⟨kn_op rfl rfl ((wantB_some (j := 11) rfl rfl (d := 28) rfl rfl (u := false) (by exact congrArg Value.bool (congrArg (a₂ := true) not hg8))).trans rfl) fun _ hF2 => ?_, ?_⟩
              · obtain ⟨_, hle2, H2⟩ := hF2
                refine  (ow_indexAddrA sl53 ty64 hA6 rfl rfl (by omega) (by omega) (r := o6 + i * 4) rfl ?_)
                exact ⟨rfl, rfl⟩
              refine ⟨kn_op rfl rfl ((wantB_some (j := 11) rfl rfl (d := 28) rfl rfl (u := false) (by exact congrArg Value.bool (congrArg (a₂ := true) not hg8))).trans rfl) fun _ hF2 => ?_, ?_⟩
              · obtain ⟨_, hle2, H2⟩ := hF2
                refine  (ow_fieldAddr fd64_1 ty9 rfl rfl (r := o6 + i * 4 + 1) rfl ?_)
                exact ⟨rfl, rfl⟩
              refine ⟨kn_op rfl rfl ((wantB_some (j := 11) rfl rfl (d := 28) rfl rfl (u := false) (by exact congrArg Value.bool (congrArg (a₂ := true) not hg8))).trans rfl) fun _ hF2 => ?_, ?_⟩
              · obtain ⟨_, hle2, H2⟩ := hF2
                refine  (ow_loadI (v := .string e6.text) ty9 H2 rfl (At.mono hle2 (At.sub (vs := [.string e6.text]) hat6 1 rfl)) rfl rfl rfl ?_)
                exact ⟨rfl, rfl⟩
              refine ⟨kn_op rfl rfl ((wantB_some (j := 11) rfl rfl (d := 28) rfl rfl (u := false) (by exact congrArg Value.bool (congrArg (a₂ := true) not hg8))).trans rfl) fun _ hF2 => ?_, ?_⟩
              · obtain ⟨_, hle2, H2⟩ := hF2
                refine  (ow_move (v := .slice s1A m.length s1c) rfl ?_)
                exact ⟨rfl, rfl⟩
              refine ⟨kn_op rfl rfl ((wantB_some (j := 11) rfl rfl (d := 28) rfl rfl (u := false) (by exact congrArg Value.bool (congrArg (a₂ := true) not hg8))).trans rfl) fun _ hF2 => ?_, ?_⟩
              · obtain ⟨_, hle2, H2⟩ := hF2
                refine  (ow_move (v := .int .i64 (i : Int)) rfl ?_)
                exact ⟨rfl, rfl⟩
              refine ⟨kn_op rfl rfl ((wantB_some (j := 11) rfl rfl (d := 28) rfl rfl (u := false) (by exact congrArg Value.bool (congrArg (a₂ := true) not hg8))).trans rfl) fun _ hF2 => ?_, ?_⟩
              · obtain ⟨_, hle2, H2⟩ := hF2
                refine  (ow_indexAddrA sl53 ty64 hA7 rfl rfl (by omega) (by omega) (r := o7 + i * 4) rfl ?_)
                exact ⟨rfl, rfl⟩
              refine ⟨kn_op rfl rfl ((wantB_some (j := 11) rfl rfl (d := 28) rfl rfl (u := false) (by exact congrArg Value.bool (congrArg (a₂ := true) not hg8))).trans rfl) fun _ hF2 => ?_, ?_⟩
              · obtain ⟨_, hle2, H2⟩ := hF2
                refine  (ow_fieldAddr fd64_1 ty9 rfl rfl (r := o7 + i * 4 + 1) rfl ?_)
                exact ⟨rfl, rfl⟩
              refine ⟨kn_op rfl rfl ((wantB_some (j := 11) rfl rfl (d := 28) rfl rfl (u := false) (by exact congrArg Value.bool (congrArg (a₂ := true) not hg8))).trans rfl) fun _ hF2 => ?_, ?_⟩
              · obtain ⟨_, hle2, H2⟩ := hF2
                refine  (ow_loadI (v := .string e7.text) ty9 H2 rfl (At.mono hle2 (At.sub (vs := [.string e7.text]) hat7 1 rfl)) rfl rfl rfl ?_)
                exact ⟨rfl, rfl⟩
              refine ⟨kn_op rfl rfl ((wantB_some (j := 11) rfl rfl (d := 28) rfl rfl (u := false) (by exact congrArg Value.bool (congrArg (a₂ := true) not hg8))).trans rfl) fun _ hF2 => ?_, ?_⟩
              · obtain ⟨_, hle2, H2⟩ := hF2
                refine  (ow_sne rfl rfl ?_)
                exact ⟨rfl, rfl⟩
              refine ⟨kn_op rfl rfl (wantB_none rfl) fun _ hF2 => ?_, ?_⟩
              · obtain ⟨_, hle2, H2⟩ := hF2
                refine  (ow_pick (a := false) (v := .bool (!decide (e6.text = e7.text))) (congrArg Value.bool (congrArg (a₂ := true) not hg8)) rfl ?_)
                exact ⟨rfl, rfl⟩
              refine ⟨kn_op rfl rfl (wantB_none rfl) fun _ hF2 => ?_, ?_⟩
              · obtain ⟨_, hle2, H2⟩ := hF2
                refine  (ow_move (v := .bool (!decide (e6.text = e7.text))) rfl ?_)
                exact ⟨rfl, rfl⟩
              refine ⟨kn_pass rfl rfl ((wantB_some (j := 24) rfl rfl (d := 41) rfl rfl (u := true) (by exact congrArg Value.bool (congrArg (a₂ := false) not hg9))).trans rfl) rfl, ?_⟩
              refine ⟨kn_pass rfl rfl ((wantB_some (j := 24) rfl rfl (d := 41) rfl rfl (u := true) (by exact congrArg Value.bool (congrArg (a₂ := false) not hg9))).trans rfl) rfl, ?_⟩
              refine ⟨kn_pass rfl rfl ((wantB_some (j := 24) rfl rfl (d := 41) rfl rfl (u := true) (by exact congrArg Value.bool (congrArg (a₂ := false) not hg9))).trans rfl) rfl, ?_⟩
              refine ⟨kn_pass rfl rfl ((wantB_some (j := 24) rfl rfl (d := 41) rfl rfl (u := true) (by exact congrArg Value.bool (congrArg (a₂ := false) not hg9))).trans rfl) rfl, ?_⟩
              refine ⟨kn_pass rfl rfl ((wantB_some (j := 24) rfl rfl (d := 41) rfl rfl (u := true) (by exact congrArg Value.bool (congrArg (a₂ := false) not hg9))).trans rfl) rfl, ?_⟩
              refine ⟨kn_pass rfl rfl ((wantB_some (j := 24) rfl rfl (d := 41) rfl rfl (u := true) (by exact congrArg Value.bool (congrArg (a₂ := false) not hg9))).trans rfl) rfl, ?_⟩
              refine ⟨kn_pass rfl rfl ((wantB_some (j := 24) rfl rfl (d := 41) rfl rfl (u := true) (by exact congrArg Value.bool (congrArg (a₂ := false) not hg9))).trans rfl) rfl, ?_⟩
              refine ⟨kn_pass rfl rfl ((wantB_some (j := 24) rfl rfl (d := 41) rfl rfl (u := true) (by exact congrArg Value.bool (congrArg (a₂ := false) not hg9))).trans rfl) rfl, ?_⟩
              refine ⟨kn_pass rfl rfl ((wantB_some (j := 24) rfl rfl (d := 41) rfl rfl (u := true) (by exact congrArg Value.bool (congrArg (a₂ := false) not hg9))).trans rfl) rfl, ?_⟩
              refine ⟨kn_pass rfl rfl ((wantB_some (j := 24) rfl rfl (d := 41) rfl rfl (u := true) (by exact congrArg Value.bool (congrArg (a₂ := false) not hg9))).trans rfl) rfl, ?_⟩
              refine ⟨kn_pass rfl rfl ((wantB_some (j := 24) rfl rfl (d := 41) rfl rfl (u := true) (by exact congrArg Value.bool (congrArg (a₂ := false) not hg9))).trans rfl) rfl, ?_⟩
              refine ⟨kn_op rfl rfl (wantB_none rfl) fun _ hF2 => ?_, ?_⟩
              · obtain ⟨_, hle2, H2⟩ := hF2
                refine  (ow_pick (a := true) (v := .bool true) (congrArg Value.bool (congrArg (a₂ := false) not hg9)) rfl ?_)
                exact ⟨rfl, rfl⟩
              exact trivial
            have H := H.drew
            refine cw_nil ?_
            exact st_live [0, 1, 4, 5, 53] (again _ _ ⟨_, _, rfl, H, by first | rfl | (rw [hg8, hg9] <;> rfl) | simp [hg8, hg9]⟩)
        · refine st_draw (F := (fun w_ => ∃ I2, Le I I2 ∧ Hp B I2 w_ [])) (p0 := [0, 1, 2, 3, 4, 5, 6, 7, 8, 9, 10, 11, 12, 13, 14, 15, 16, 17, 18, 19, 20, 21, 22, 23, 24, 25, 26, 27, 28, 29, 30, 31, 32, 33, 34, 35, 36]) (plan := []) [] [] [(53, .bool true), (52, undef), (51, undef), (50, undef), (49, undef), (48, undef), (47, undef), (46, undef), (45, undef), (44, undef), (43, undef), (42, undef), (41, .bool true), (40, .bool true), (39, undef), (38, undef), (37, undef), (36, undef), (35, undef), (34, undef), (33, undef), (32, undef), (31, undef), (30, undef), (29, undef), (28, .bool (!decide (e6.kind = e7.kind))), (27, .bool (!decide (e6.kind = e7.kind))), (26, .int .i64 e7.kind), (25, .pointer (some ⟨b7, o7 + i * 4 + 0, none⟩)), (24, .pointer (some ⟨b7, o7 + i * 4, none⟩)), (23, .int .i64 (i : Int)), (22, .slice s1A m.length s1c), (21, .int .i64 e6.kind), (20, .pointer (some ⟨b6, o6 + i * 4 + 0, none⟩)), (19, .pointer (some ⟨b6, o6 + i * 4, none⟩)), (18, .int .i64 (i : Int)), (17, .slice s0A l.length s0c)] (by kernel_rfl) rfl ?_ ⟨_, Le.refl _, H.drew.pick [] (by decide)⟩ ?_
          · refine ⟨kn_op rfl rfl (wantB_none rfl) fun _ hF2 => ?_, ?_⟩
            · obtain ⟨_, hle2, H2⟩ := hF2
              refine  (ow_move (v := .slice s0A l.length s0c) rfl ?_)
              exact ⟨rfl, rfl⟩
            refine ⟨kn_op rfl rfl (wantB_none rfl) fun _ hF2 => ?_, ?_⟩
            · obtain ⟨_, hle2, H2⟩ := hF2
              refine  (ow_move (v := .int .i64 (i : Int)) rfl ?_)
              exact ⟨rfl, rfl⟩
            refine ⟨kn_op rfl rfl (wantB_none rfl) fun _ hF2 => ?_, ?_⟩
            · obtain ⟨_, hle2, H2⟩ := hF2
              refine  (ow_indexAddrA sl53 ty64 hA6 rfl rfl (by omega) (by omega) (r := o6 + i * 4) rfl ?_)
              exact ⟨rfl, rfl⟩
            refine ⟨kn_op rfl rfl (wantB_none rfl) fun _ hF2 => ?_, ?_⟩
            · obtain ⟨_, hle2, H2⟩ := hF2
              refine  (ow_fieldAddr fd64_0 ty3 rfl rfl (r := o6 + i * 4 + 0) rfl ?_)
              exact ⟨rfl, rfl⟩
            refine ⟨kn_op rfl rfl (wantB_none rfl) fun _ hF2 => ?_, ?_⟩
            · obtain ⟨_, hle2, H2⟩ := hF2
              refine  (ow_loadI (v := .int .i64 e6.kind) ty3 H2 rfl (At.mono hle2 (At.sub (vs := [.int .i64 e6.kind]) hat6 0 rfl)) rfl rfl rfl ?_)
              exact ⟨rfl, rfl⟩
            refine ⟨kn_op rfl rfl (wantB_none rfl) fun _ hF2 => ?_, ?_⟩
            · obtain ⟨_, hle2, H2⟩ := hF2
              refine  (ow_move (v := .slice s1A m.length s1c) rfl ?_)
              exact ⟨rfl, rfl⟩
            refine ⟨kn_op rfl rfl (wantB_none rfl) fun _ hF2 => ?_, ?_⟩
            · obtain ⟨_, hle2, H2⟩ := hF2
              refine  (ow_move (v := .int .i64 (i : Int)) rfl ?_)
              exact ⟨rfl, rfl⟩
            refine ⟨kn_op rfl rfl (wantB_none rfl) fun _ hF2 => ?_, ?_⟩
            · obtain ⟨_, hle2, H2⟩ := hF2
              refine  (ow_indexAddrA sl53 ty64 hA7 rfl rfl (by omega) (by omega) (r := o7 + i * 4) rfl ?_)
              exact ⟨rfl, rfl⟩
            refine ⟨kn_op rfl rfl (wantB_none rfl) fun _ hF2 => ?_, ?_⟩
            · obtain ⟨_, hle2, H2⟩ := hF2
              refine  (ow_fieldAddr fd64_0 ty3 rfl rfl (r := o7 + i * 4 + 0) rfl ?_)
              exact ⟨rfl, rfl⟩
            refine ⟨kn_op rfl rfl (wantB_none rfl) fun _ hF2 => ?_, ?_⟩
            · obtain ⟨_, hle2, H2⟩ := hF2
              refine  (ow_loadI (v := .int .i64 e7.kind) ty3 H2 rfl (At.mono hle2 (At.sub (vs := [.int .i64 e7.kind]) hat7 0 rfl)) rfl rfl rfl ?_)
              exact ⟨rfl, rfl⟩
            refine ⟨kn_op rfl rfl (wantB_none rfl) fun _ hF2 => ?_, ?_⟩
            · obtain ⟨_, hle2, H2⟩ := hF2
              refine  (ow_neq rfl rfl ?_)
              exact ⟨rfl, rfl⟩
            refine ⟨kn_op rfl rfl (wantB_none rfl) fun _ hF2 => ?_, ?_⟩
            · obtain ⟨_, hle2, H2⟩ := hF2
              refine  (ow_move (v := .bool (!decide (e6.kind = e7.kind))) rfl ?_)
              exact ⟨rfl, rfl⟩
            refine ⟨kn_pass rfl rfl ((wantB_some (j := 11) rfl rfl (d := 28) rfl rfl (u := true) (by exact congrArg Value.bool (congrArg (a₂ := false) not hg8))).trans rfl) rfl, ?_⟩
            refine ⟨kn_pass rfl rfl ((wantB_some (j := 11) rfl rfl (d := 28) rfl rfl (u := true) (by exact congrArg Value.bool (congrArg (a₂ := false) not hg8))).trans rfl) rfl, ?_⟩
            refine ⟨kn_pass rfl rfl ((wantB_some (j := 11) rfl rfl (d := 28) rfl rfl (u := true) (by exact congrArg Value.bool (congrArg (a₂ := false) not hg8))).trans rfl) rfl, ?_⟩
            refine ⟨kn_pass rfl rfl ((wantB_some (j := 11) rfl rfl (d := 28) rfl rfl (u := true) (by exact congrArg Value.bool (congrArg (a₂ := false) not hg8))).trans rfl) rfl, ?_⟩
            refine ⟨kn_pass rfl rfl ((wantB_some (j := 11) rfl rfl (d := 28) rfl rfl (u := true) (by exact congrArg Value.bool (congrArg (a₂ := false) not hg8))).trans rfl) rfl, ?_⟩
            refine ⟨kn_pass rfl rfl ((wantB_some (j := 11) rfl rfl (d := 28) rfl rfl (u := true) (by exact congrArg Value.bool (congrArg (a₂ := false) not hg8))).trans rfl) rfl, ?_⟩
            refine ⟨kn_pass rfl rfl ((wantB_some (j := 11) rfl rfl (d := 28) rfl rfl (u := true) (by exact congrArg Value.bool (congrArg (a₂ := false) not hg8))).trans rfl) rfl, ?_⟩
            refine ⟨kn_pass rfl rfl ((wantB_some (j := 11) rfl rfl (d := 28) rfl rfl (u := true) (by exact congrArg Value.bool (congrArg (a₂ := false) not hg8))).trans rfl) rfl, ?_⟩
            refine ⟨kn_pass rfl rfl ((wantB_some (j := 11) rfl rfl (d := 28) rfl rfl (u := true) (by exact congrArg Value.bool (congrArg (a₂ := false) not hg8))).trans rfl) rfl, ?_⟩
            refine ⟨kn_pass rfl rfl ((wantB_some (j := 11) rfl rfl (d := 28) rfl rfl (u := true) (by exact congrArg Value.bool (congrArg (a₂ := false) not hg8))).trans rfl) rfl, ?_⟩
            refine ⟨kn_pass rfl rfl ((wantB_some (j := 11) rfl rfl (d := 28) rfl rfl (u := true) (by exact congrArg Value.bool (congrArg (a₂ := false) not hg8))).trans rfl) rfl, ?_⟩
            refine ⟨kn_op rfl rfl (wantB_none rfl) fun _ hF2 => ?_, ?_⟩
            · obtain ⟨_, hle2, H2⟩ := hF2
              refine  (ow_pick (a := true) (v := .bool true) (congrArg Value.bool (congrArg (a₂ := false) not hg8)) rfl ?_)
              exact ⟨rfl, rfl⟩
            refine ⟨kn_op rfl rfl (wantB_none rfl) fun _ hF2 => ?_, ?_⟩
            · obtain ⟨_, hle2, H2⟩ := hF2
              refine  (ow_move (v := .bool true) rfl ?_)
              exact ⟨rfl, rfl⟩
            refine ⟨kn_pass rfl rfl ((wantB_some (j := 24) rfl rfl (d := 41) rfl rfl (u := true) rfl).trans rfl) rfl, ?_⟩
            refine ⟨kn_pass rfl rfl ((wantB_some (j := 24) rfl rfl (d := 41) rfl rfl (u := true) rfl).trans rfl) rfl, ?_⟩
            refine ⟨kn_pass rfl rfl ((wantB_some (j := 24) rfl rfl (d := 41) rfl rfl (u := true) rfl).trans rfl) rfl, ?_⟩
            refine ⟨kn_pass rfl rfl ((wantB_some (j := 24) rfl rfl (d := 41) rfl rfl (u := true) rfl).trans rfl) rfl, ?_⟩
            refine ⟨kn_pass rfl rfl ((wantB_some (j := 24) rfl rfl (d := 41) rfl rfl (u := true) rfl).trans rfl) rfl, ?_⟩
            refine ⟨kn_pass rfl rfl ((wantB_some (j := 24) rfl rfl (d := 41) rfl rfl (u := true) rfl).trans rfl) rfl, ?_⟩
            refine ⟨kn_pass rfl rfl ((wantB_some (j := 24) rfl rfl (d := 41) rfl rfl (u := true) rfl).trans rfl) rfl, ?_⟩
            refine ⟨kn_pass rfl rfl ((wantB_some (j := 24) rfl rfl (d := 41) rfl rfl (u := true) rfl).trans rfl) rfl, ?_⟩
            refine ⟨kn_pass rfl rfl ((wantB_some (j := 24) rfl rfl (d := 41) rfl rfl (u := true) rfl).trans rfl) rfl, ?_⟩
            refine ⟨kn_pass rfl rfl ((wantB_some (j := 24) rfl rfl (d := 41) rfl rfl (u := true) rfl).trans rfl) rfl, ?_⟩
            refine ⟨kn_pass rfl rfl ((wantB_some (j := 24) rfl rfl (d := 41) rfl rfl (u := true) rfl).trans rfl) rfl, ?_⟩
            refine ⟨kn_op rfl rfl (wantB_none rfl) fun _ hF2 => ?_, ?_⟩
            · obtain ⟨_, hle2, H2⟩ := hF2
              refine  (ow_pick (v := .bool true) rfl rfl ?_)
              exact ⟨rfl, rfl⟩
            exact trivial
          have H := H.drew
          refine cw_nil ?_
          exact st_live [0, 1, 4, 5, 53] (again _ _ ⟨_, _, rfl, H, by first | rfl | (rw [hg8] <;> rfl) | simp [hg8]⟩)
      rintro _ _ ⟨r10, _, rfl, H, rfl⟩
      refine st_cond (!(decide (e6.kind = e7.kind)) || (!(decide (e6.text = e7.text)) || (!decide (e6.n = e7.n)))) rfl (fun hc11 => ?_) (fun hc11 => ?_)
      · have hbad : sameTk e6 e7 = false := by
          have h_ := (nsame_eq e6 e7).symm.trans hc11
          exact bnt h_
        refine st_seq ?_
        refine st_region ?_
        refine sr_op rfl rfl (ow_assign (v := .bool false) rfl ?_)
        refine sr_nil ?_
        refine st_ret hb (hR _ _ (.bool false) (res_run (vs := [.bool false]) Tryd.results41 ⟨_, _, rfl, rfl, rfl⟩) ?_)
        exact ⟨_, rfl, congrArg Value.bool (show false = sameTs l m from (pair_no he6 he7 hbad).symm), H⟩
      · have hgood : sameTk e6 e7 = true := by
          have h_ := (nsame_eq e6 e7).symm.trans hc11
          exact bnf h_
        refine st_skip ?_
        refine st_inBlock ?_
        refine st_region ?_
        refine sr_op rfl rfl (ow_move (v := .int .i64 (i : Int)) rfl ?_)
        refine sr_op rfl rfl (ow_add (r := ((i + 1 : Nat) : Int)) rfl rfl (inc_i64 (by omega)) ?_)
        refine sr_op rfl rfl (ow_assign (v := .int .i64 ((i + 1 : Nat) : Int)) rfl ?_)
        refine sr_nil ?_
        exact st_inLoop (st_live [0, 1, 4, 5] (ih4 _ _ _ (by omega) ⟨i + 1, _, rfl, rfl, H, by omega, by
            intro q_ x_ y_ h_ hx_ hy_
            by_cases e_ : q_ = i
            · subst e_
              rw [he6] at hx_
              rw [he7] at hy_
              cases hx_
              cases hy_
              exact hgood
            · exact hdone q_ x_ y_ (by omega) hx_ hy_⟩))
    · have hc5 := of_decide_eq_false hc5
      refine st_exit rfl ?_
      refine st_seq ?_
      refine st_region ?_
      refine sr_op rfl rfl (ow_assign (v := .bool true) rfl ?_)
      refine sr_nil ?_
      refine st_ret hb (hR _ _ (.bool true) (res_run (vs := [.bool true]) Tryd.results41 ⟨_, _, rfl, rfl, rfl⟩) ?_)
      exact ⟨_, rfl, congrArg Value.bool (show true = sameTs l m from (pair_all hlen (fun q_ x_ y_ hx_ hy_ => hdone q_ x_ y_ (by have := (List.getElem?_eq_some_iff.1 hx_).1; omega) hx_ hy_)).symm), H⟩
theorem Equal_c {B I L w} (H : Hp B I w L) {l m : List Tk} {v u : Value} (hl : RepS encTk I 4 l v) (hm : RepS encTk I 4 m u) : Calls Tryd.prog 36 #[v, u] w (Rt fun r w' => r = .bool (eqTs l m) ∧ Hp B I w' L) := by
  obtain ⟨s0A, s0c, rfl, s0m, s0M, s0⟩ := RepS.open_ hl
  obtain ⟨s1A, s1c, rfl, s1m, s1M, s1⟩ := RepS.open_ hm
  refine calls_st (n := 27) Tryd.func36 rfl rfl rfl ?_
  intro G bF cs hb hfn hR hP
  simp only [ini]
  refine st_seq ?_
  refine st_region ?_
  refine sr_op rfl rfl (ow_assign (v := .bool false) rfl ?_)
  refine sr_nil ?_
  refine st_seq ?_
  refine st_seq ?_
  refine st_region ?_
  refine sr_op rfl rfl (ow_move (v := .slice s0A l.length s0c) rfl ?_)
  refine sr_op rfl rfl (ow_move (v := .slice s1A m.length s1c) rfl ?_)
  refine sr_op rfl rfl (ow_call en41 rfl (refSame_c H s0 s1) ?_)
  rintro _ _ ⟨rfl, H⟩
  refine sr_op rfl rfl (ow_not rfl ?_)
  refine sr_nil ?_
  refine st_cond (!(sameTs l m)) rfl (fun hc1 => ?_) (fun hc1 => ?_)
  · have hns := bnt hc1
    refine st_seq ?_
    refine st_region ?_
    refine sr_op rfl rfl (ow_assign (v := .bool false) rfl ?_)
    refine sr_nil ?_
    refine st_ret hb (hR _ _ (.bool false) (res_run (vs := [.bool false]) Tryd.results36 ⟨_, _, rfl, rfl, rfl⟩) ?_)
    exact ⟨_, rfl, congrArg Value.bool (by rw [eqTs, hns, Bool.false_and]), H⟩
  · have hs := bnf hc1
    have hlen := pair_lens hs
    refine st_skip ?_
    refine st_seq ?_
    refine st_seq ?_
    refine st_region ?_
    refine sr_op rfl rfl (ow_assign (v := .int .i64 0) rfl ?_)
    refine sr_nil ?_
    refine st_block ?_
    refine st_loop ?_
    refine st_live [0, 1, 4, 5] ?_
    refine st_ind (fun d_ m_ w_ => ∃ (i : Nat) (r_ : Sl), d_ = l.length - i ∧ m_ = (0, .slice s0A l.length s0c) :: (1, .slice s1A m.length s1c) :: (4, .bool false) :: (5, .int .i64 (i : Int)) :: r_ ∧ Hp B I w_ (L) ∧ i ≤ l.length ∧ ∀ (q_ : Nat) x_ y_, q_ < i → l[q_]? = some x_ → m[q_]? = some y_ → (fun x_ y_ => decide (x_.at_ = y_.at_)) x_ y_ = true) _ ⟨0, _, rfl, rfl, H, Nat.zero_le _, by intro q_ x_ y_ h_; omega⟩ ?_
    rintro _ _ _ ⟨i, r3, rfl, rfl, H, hi, hdone⟩ ih4
    refine st_seq ?_
    refine st_seq ?_
    refine st_region ?_
    refine sr_op rfl rfl (ow_move (v := .int .i64 (i : Int)) rfl ?_)
    refine sr_op rfl rfl (ow_move (v := .slice s0A l.length s0c) rfl ?_)
    refine sr_op rfl rfl (ow_lenS sl53 rfl rfl ?_)
    refine sr_op rfl rfl (ow_lss rfl rfl ?_)
    refine sr_nil ?_
    refine st_cond (decide ((i : Int) < (l.length : Int))) rfl (fun hc5 => ?_) (fun hc5 => ?_)
    · have hc5 := of_decide_eq_true hc5
      refine st_skip ?_
      refine st_seq ?_
      refine st_block ?_
      refine st_seq ?_
      obtain ⟨e6, he6⟩ : ∃ q_, l[i]? = some q_ := ⟨_, List.getElem?_eq_getElem (by omega)⟩
      obtain ⟨b6, o6, us6, hA6, hat6, hul6, hr6⟩ := RepS.get s0 he6
      have d6 := hr6
      obtain ⟨rfl, d6_0, d6_1, d6_2, d6_3⟩ := tk_iff.1 hr6
      obtain ⟨e7, he7⟩ : ∃ q_, m[i]? = some q_ := ⟨_, List.getElem?_eq_getElem (by omega)⟩
      obtain ⟨b7, o7, us7, hA7, hat7, hul7, hr7⟩ := RepS.get s1 he7
      have d7 := hr7
      obtain ⟨rfl, d7_0, d7_1, d7_2, d7_3⟩ := tk_iff.1 hr7
      refine st_draw (F := (fun w_ => ∃ I2, Le I I2 ∧ Hp B I2 w_ [])) (p0 := [0, 1, 2, 3, 4, 5, 6, 7, 8, 9, 10]) (plan := []) [] [] [(26, .bool (!decide (e6.at_ = e7.at_))), (25, .int .i64 e7.at_), (24, .pointer (some ⟨b7, o7 + i * 4 + 3, none⟩)), (23, .pointer (some ⟨b7, o7 + i * 4, none⟩)), (22, .int .i64 (i : Int)), (21, .slice s1A m.length s1c), (20, .int .i64 e6.at_), (19, .pointer (some ⟨b6, o6 + i * 4 + 3, none⟩)), (18, .pointer (some ⟨b6, o6 + i * 4, none⟩)), (17, .int .i64 (i : Int)), (16, .slice s0A l.length s0c)] (by kernel_rfl) rfl ?_ ⟨_, Le.refl _, H.drew.pick [] (by decide)⟩ ?_
      · refine ⟨kn_op rfl rfl (wantB_none rfl) fun _ hF2 => ?_, ?_⟩
        · obtain ⟨_, hle2, H2⟩ := hF2
          refine  (ow_move (v := .slice s0A l.length s0c) rfl ?_)
          exact ⟨rfl, rfl⟩
        refine ⟨kn_op rfl rfl (wantB_none rfl) fun _ hF2 => ?_, ?_⟩
        · obtain ⟨_, hle2, H2⟩ := hF2
          refine  (ow_move (v := .int .i64 (i : Int)) rfl ?_)
          exact ⟨rfl, rfl⟩
        refine ⟨kn_op rfl rfl (wantB_none rfl) fun _ hF2 => ?_, ?_⟩
        · obtain ⟨_, hle2, H2⟩ := hF2
          refine  (ow_indexAddrA sl53 ty64 hA6 rfl rfl (by omega) (by omega) (r := o6 + i * 4) rfl ?_)
          exact ⟨rfl, rfl⟩
        refine ⟨kn_op rfl rfl (wantB_none rfl) fun _ hF2 => ?_, ?_⟩
        · obtain ⟨_, hle2, H2⟩ := hF2
          refine  (ow_fieldAddr fd64_3 ty3 rfl rfl (r := o6 + i * 4 + 3) rfl ?_)
          exact ⟨rfl, rfl⟩
        refine ⟨kn_op rfl rfl (wantB_none rfl) fun _ hF2 => ?_, ?_⟩
        · obtain ⟨_, hle2, H2⟩ := hF2
          refine  (ow_loadI (v := .int .i64 e6.at_) ty3 H2 rfl (At.mono hle2 (At.sub (vs := [.int .i64 e6.at_]) hat6 3 rfl)) rfl rfl rfl ?_)
          exact ⟨rfl, rfl⟩
        refine ⟨kn_op rfl rfl (wantB_none rfl) fun _ hF2 => ?_, ?_⟩
        · obtain ⟨_, hle2, H2⟩ := hF2
          refine  (ow_move (v := .slice s1A m.length s1c) rfl ?_)
          exact ⟨rfl, rfl⟩
        refine ⟨kn_op rfl rfl (wantB_none rfl) fun _ hF2 => ?_, ?_⟩
        · obtain ⟨_, hle2, H2⟩ := hF2
          refine  (ow_move (v := .int .i64 (i : Int)) rfl ?_)
          exact ⟨rfl, rfl⟩
        refine ⟨kn_op rfl rfl (wantB_none rfl) fun _ hF2 => ?_, ?_⟩
        · obtain ⟨_, hle2, H2⟩ := hF2
          refine  (ow_indexAddrA sl53 ty64 hA7 rfl rfl (by omega) (by omega) (r := o7 + i * 4) rfl ?_)
          exact ⟨rfl, rfl⟩
        refine ⟨kn_op rfl rfl (wantB_none rfl) fun _ hF2 => ?_, ?_⟩
        · obtain ⟨_, hle2, H2⟩ := hF2
          refine  (ow_fieldAddr fd64_3 ty3 rfl rfl (r := o7 + i * 4 + 3) rfl ?_)
          exact ⟨rfl, rfl⟩
        refine ⟨kn_op rfl rfl (wantB_none rfl) fun _ hF2 => ?_, ?_⟩
        · obtain ⟨_, hle2, H2⟩ := hF2
          refine  (ow_loadI (v := .int .i64 e7.at_) ty3 H2 rfl (At.mono hle2 (At.sub (vs := [.int .i64 e7.at_]) hat7 3 rfl)) rfl rfl rfl ?_)
          exact ⟨rfl, rfl⟩
        refine ⟨kn_op rfl rfl (wantB_none rfl) fun _ hF2 => ?_, ?_⟩
        · obtain ⟨_, hle2, H2⟩ := hF2
          refine  (ow_neq rfl rfl ?_)
          exact ⟨rfl, rfl⟩
        exact trivial
      have H := H.drew
      refine cw_nil ?_
      refine st_cond (!decide (e6.at_ = e7.at_)) rfl (fun hc8 => ?_) (fun hc8 => ?_)
      · have hbad := bnt hc8
        refine st_seq ?_
        refine st_region ?_
        refine sr_op rfl rfl (ow_assign (v := .bool false) rfl ?_)
        refine sr_nil ?_
        refine st_ret hb (hR _ _ (.bool false) (res_run (vs := [.bool false]) Tryd.results36 ⟨_, _, rfl, rfl, rfl⟩) ?_)
        exact ⟨_, rfl, congrArg Value.bool (by rw [eqTs, atsB, pair_no he6 he7 hbad, Bool.and_false]), H⟩
      · have hgood := bnf hc8
        refine st_skip ?_
        refine st_inBlock ?_
        refine st_region ?_
        refine sr_op rfl rfl (ow_move (v := .int .i64 (i : Int)) rfl ?_)
        refine sr_op rfl rfl (ow_add (r := ((i + 1 : Nat) : Int)) rfl rfl (inc_i64 (by omega)) ?_)
        refine sr_op rfl rfl (ow_assign (v := .int .i64 ((i + 1 : Nat) : Int)) rfl ?_)
        refine sr_nil ?_
        exact st_inLoop (st_live [0, 1, 4, 5] (ih4 _ _ _ (by omega) ⟨i + 1, _, rfl, rfl, H, by omega, by
            intro q_ x_ y_ h_ hx_ hy_
            by_cases e_ : q_ = i
            · subst e_
              rw [he6] at hx_
              rw [he7] at hy_
              cases hx_
              cases hy_
              exact hgood
            · exact hdone q_ x_ y_ (by omega) hx_ hy_⟩))
    · have hc5 := of_decide_eq_false hc5
      refine st_exit rfl ?_
      refine st_seq ?_
      refine st_region ?_
      refine sr_op rfl rfl (ow_assign (v := .bool true) rfl ?_)
      refine sr_nil ?_
      refine st_ret hb (hR _ _ (.bool true) (res_run (vs := [.bool true]) Tryd.results36 ⟨_, _, rfl, rfl, rfl⟩) ?_)
      exact ⟨_, rfl, congrArg Value.bool (by rw [eqTs, hs, atsB, pair_all hlen (fun q_ x_ y_ hx_ hy_ => hdone q_ x_ y_ (by have := (List.getElem?_eq_some_iff.1 hx_).1; omega) hx_ hy_)]; rfl), H⟩
def sumT : List Tk → Nat
  | [] => 0
  | t :: l => t.text.size + sumT l
theorem sumT_snoc : ∀ (l : List Tk) (t : Tk), sumT (l ++ [t]) = sumT l + t.text.size
  | [], t => by simp [sumT]
  | x :: l, t => by simp only [List.cons_append, sumT, sumT_snoc l t]; omega
theorem sumT_le {b : Nat} : ∀ {l : List Tk}, (∀ t ∈ l, t.text.size ≤ b) → sumT l ≤ l.length * b
  | [], _ => by simp [sumT]
  | x :: l, h => by
    have h1 := sumT_le (l := l) fun t ht => h t (List.mem_cons_of_mem _ ht)
    have h2 := h x (List.mem_cons_self ..)
    simp only [sumT, List.length_cons, Nat.succ_mul]
    omega
def fewT (l : List Tk) : Bool := decide ((l.length : Int) ≤ 200) && decide ((sumT l : Int) ≤ 2000)
theorem FewT_c {B I L w} (H : Hp B I w L) {l : List Tk} {v : Value} (hl : RepS encTk I 4 l v) (hbt : ∀ t ∈ l, t.text.size ≤ 140737488355328) : Calls Tryd.prog 37 #[v] w (Rt fun r w' => r = .bool (fewT l) ∧ Hp B I w' L) := by
  obtain ⟨s0A, s0c, rfl, s0m, s0M, s0⟩ := RepS.open_ hl
  refine calls_st (n := 26) Tryd.func37 rfl rfl rfl ?_
  intro G bF cs hb hfn hR hP
  simp only [ini]
  refine st_seq ?_
  refine st_region ?_
  refine sr_op rfl rfl (ow_assign (v := .bool false) rfl ?_)
  refine sr_nil ?_
  refine st_seq ?_
  refine st_region ?_
  refine sr_op rfl rfl (ow_assign (v := .int .i64 0) rfl ?_)
  refine sr_nil ?_
  refine st_seq ?_
  refine st_seq ?_
  refine st_region ?_
  refine sr_op rfl rfl (ow_assign (v := .int .i64 0) rfl ?_)
  refine sr_nil ?_
  refine st_block ?_
  refine st_loop ?_
  refine st_live [0, 2, 3, 4] ?_
  refine st_ind (fun d_ m_ w_ => ∃ (i : Nat) (n : Int) (r_ : Sl), d_ = l.length - i ∧ m_ = (0, .slice s0A l.length s0c) :: (2, .bool false) :: (3, .int .i64 n) :: (4, .int .i64 (i : Int)) :: r_ ∧ Hp B I w_ (L) ∧ i ≤ l.length ∧ (i ≤ 200 → n = (sumT (l.take i) : Int))) _ ⟨0, 0, _, rfl, rfl, H, Nat.zero_le _, fun _ => rfl⟩ ?_
  rintro _ _ _ ⟨i, n, r2, rfl, rfl, H, hi, hn⟩ ih3
  refine st_seq ?_
  refine st_seq ?_
  refine st_region ?_
  refine sr_op rfl rfl (ow_move (v := .int .i64 (i : Int)) rfl ?_)
  refine sr_op rfl rfl (ow_move (v := .slice s0A l.length s0c) rfl ?_)
  refine sr_op rfl rfl (ow_lenS sl53 rfl rfl ?_)
  refine sr_op rfl rfl (ow_lss rfl rfl ?_)
  refine sr_nil ?_
  refine st_cond (decide ((i : Int) < (l.length : Int))) rfl (fun hc4 => ?_) (fun hc4 => ?_)
  · have hc4 := of_decide_eq_true hc4
    refine st_skip ?_
    refine st_seq ?_
    refine st_block ?_
    refine st_region ?_
    refine sr_op rfl rfl (ow_move (v := .int .i64 n) rfl ?_)
    refine sr_op rfl rfl (ow_move (v := .slice s0A l.length s0c) rfl ?_)
    refine sr_op rfl rfl (ow_move (v := .int .i64 (i : Int)) rfl ?_)
    obtain ⟨e5, he5⟩ : ∃ q_, l[i]? = some q_ := ⟨_, List.getElem?_eq_getElem (by omega)⟩
    obtain ⟨b5, o5, us5, hA5, hat5, hul5, hr5⟩ := RepS.get s0 he5
    have d5 := hr5
    obtain ⟨rfl, d5_0, d5_1, d5_2, d5_3⟩ := tk_iff.1 hr5
    refine sr_op rfl rfl (ow_indexAddrA sl53 ty64 hA5 rfl rfl (by omega) (by omega) (r := o5 + i * 4) rfl ?_)
    refine sr_op rfl rfl (ow_fieldAddr fd64_1 ty9 rfl rfl (r := o5 + i * 4 + 1) rfl ?_)
    refine sr_op rfl rfl (ow_loadI (v := .string e5.text) ty9 H rfl (At.sub (vs := [.string e5.text]) hat5 1 rfl) rfl rfl rfl ?_)
    refine sr_op rfl rfl (ow_lenT un9 rfl rfl ?_)
    refine sr_op rfl rfl (ow_add (r := IntKind.i64.wrap (n + (e5.text.size : Int))) rfl rfl rfl ?_)
    refine sr_op rfl rfl (ow_assign (v := .int .i64 (IntKind.i64.wrap (n + (e5.text.size : Int)))) rfl ?_)
    refine sr_nil ?_
    refine st_inBlock ?_
    refine st_region ?_
    refine sr_op rfl rfl (ow_move (v := .int .i64 (i : Int)) rfl ?_)
    refine sr_op rfl rfl (ow_add (r := ((i + 1 : Nat) : Int)) rfl rfl (inc_i64 (by omega)) ?_)
    refine sr_op rfl rfl (ow_assign (v := .int .i64 ((i + 1 : Nat) : Int)) rfl ?_)
    refine sr_nil ?_
    exact st_inLoop (st_live [0, 2, 3, 4] (ih3 _ _ _ (by omega) ⟨i + 1, IntKind.i64.wrap (n + (e5.text.size : Int)), _, rfl, rfl, H, by omega, by
        intro h_
        have h1_ := hn (by omega)
        have h2_ := sumT_le (l := l.take i) (fun t ht => hbt t (List.mem_of_mem_take ht))
        have h3_ := hbt _ (List.mem_of_getElem? he5)
        rw [List.length_take] at h2_
        have h4_ : min i l.length * 140737488355328 ≤ 200 * 140737488355328 := Nat.mul_le_mul_right _ (by omega)
        rw [take_some he5, sumT_snoc, h1_, wrap_i64 (by omega) (by omega)]
        omega⟩))
  · have hc4 := of_decide_eq_false hc4
    refine st_exit rfl ?_
    refine st_seq ?_
    refine st_region ?_
    refine sr_op rfl rfl (ow_move (v := .slice s0A l.length s0c) rfl ?_)
    refine sr_op rfl rfl (ow_lenS sl53 rfl rfl ?_)
    refine sr_op rfl rfl (ow_leq rfl rfl ?_)
    refine sr_op rfl rfl (ow_move (v := .bool (decide ((l.length : Int) ≤ 200))) rfl ?_)
    refine sr_cut 3 (fun m_ w_ => ∃ (r_ : Sl) (v_ : Bool), m_ = (25, .bool v_) :: (2, .bool false) :: r_ ∧ Hp B I w_ (L) ∧ v_ = ((decide ((l.length : Int) ≤ 200)) && (decide (n ≤ 2000)))) (fun again => ?_) ?_
    · rcases hg : decide ((l.length : Int) ≤ 200) with _ | _
      · refine sr_pass rfl (j := 3) (d := 22) rfl rfl rfl (u := false) (v := true) rfl rfl ?_
        refine sr_pass rfl (j := 3) (d := 22) rfl rfl rfl (u := false) (v := true) rfl rfl ?_
        refine sr_op rfl rfl (ow_pick (v := .bool false) rfl rfl ?_)
        exact sr_live [25, 2] (again _ _ ⟨_, _, rfl, H, by rw [hg] <;> rfl⟩)
      · refine sr_want rfl (j := 3) (d := 22) rfl rfl rfl (v := true) rfl rfl (ow_move (v := .int .i64 n) rfl ?_)
        refine sr_want rfl (j := 3) (d := 22) rfl rfl rfl (v := true) rfl rfl (ow_leq rfl rfl ?_)
        refine sr_op rfl rfl (ow_pick (v := .bool (decide (n ≤ 2000))) rfl rfl ?_)
        exact sr_live [25, 2] (again _ _ ⟨_, _, rfl, H, by rw [hg] <;> rfl⟩)
    rintro _ _ ⟨r, _, rfl, H, rfl⟩
    refine sr_op rfl rfl (ow_assign (v := .bool ((decide ((l.length : Int) ≤ 200)) && (decide (n ≤ 2000)))) rfl ?_)
    refine sr_nil ?_
    refine st_ret hb (hR _ _ (.bool ((decide ((l.length : Int) ≤ 200)) && (decide (n ≤ 2000)))) (res_run (vs := [.bool ((decide ((l.length : Int) ≤ 200)) && (decide (n ≤ 2000)))]) Tryd.results37 ⟨_, _, rfl, rfl, rfl⟩) ?_)
    refine ⟨_, rfl, congrArg Value.bool ?_, H⟩
    rw [List.take_of_length_le (by omega)] at hn
    rw [fewT]
    by_cases h_ : l.length ≤ 200
    · rw [hn (by omega)]
    · rw [decide_eq_false (show ¬ (l.length : Int) ≤ 200 from by omega), Bool.false_and, Bool.false_and]
end Go.Proofs.YtbbflenaeihmeaaDoor
