/-
  Walks: the statement LexPlaces.
-/
import Derived.Test.YtbbflenaeihmeaaDoorQC
import Derived.Test.YtbbflenaeihmeaaDoorLA
set_option linter.unusedVariables false
set_option linter.unusedSimpArgs false
set_option maxRecDepth 10000
set_option maxHeartbeats 4000000
namespace Go.Proofs.YtbbflenaeihmeaaDoor
open Go Go.RowKit

theorem s63_of {s : ByteArray} (h : s.size ≤ 140737488355328) : S63 s := by
  unfold S63
  omega
theorem com_eq {src : ByteArray} {to_ i : Nat} {c : Bool} {u v : UInt8} (hu : i < src.size → src[i]? = some u ∧ src.data.toList[i]? = some u) (hv : i + 1 < src.size → src[i + 1]? = some v ∧ src.data.toList[i + 1]? = some v) (hi : i < to_) (ht : to_ ≤ src.size) : comN src to_ i c = ((!decide ((u.toNat : Int) = 10)) && (c || (((decide ((u.toNat : Int) = 47)) && (decide (((i + 1 : Nat) : Int) < (to_ : Int)))) && (decide ((v.toNat : Int) = 47))))) := by
  unfold comN
  rw [byteN_at (hu (by omega)).2]
  by_cases h : i + 1 < to_
  · rw [byteN_at (hv (by omega)).2]
    rfl
  · rw [decide_eq_false (show ¬ ((i : Int) + 1 < (to_ : Int)) by omega), decide_eq_false (show ¬ (((i + 1 : Nat) : Int) < (to_ : Int)) by omega)]
    simp
theorem places_cases {src : ByteArray} (hz : src.size ≤ 3000) : (∃ a, lexE src = ([], a, 30)) ∨ (∃ l, lexE src = (l, 0, 0) ∧ Steps src 0 src.size l) := by
  rcases lexE_ways (src := src) (by omega) with ⟨ts, h1, h2⟩ | ⟨b, ts, h1, h2, h3, h4⟩
  · exact .inr ⟨ts, h2, h1⟩
  · exact .inl ⟨_, h4⟩
theorem LexPlaces_c {B I L w} (H : Hp B I w L) (src : ByteArray) (hS : src.size ≤ 140737488355328) (hlib : LibAt I) : Calls Tryd.prog 12 #[.string src] w (Rt fun r w' => r = .bool true ∧ Hp B I w' L) := by
  rcases Classical.em (3000 < (src.size : Int)) with hbig | hbig
  rotate_left
  have hcs := places_cases (src := src) (by omega)
  rcases hcs with ⟨a, hx⟩ | ⟨l, hx, hst⟩
  · refine calls_st (n := 132) Tryd.func12 rfl rfl rfl ?_
    intro G bF cs hb hfn hR hP
    simp only [ini]
    refine st_seq ?_
    refine st_region ?_
    refine sr_op rfl rfl (ow_assign (v := .bool false) rfl ?_)
    refine sr_nil ?_
    refine st_seq ?_
    refine st_seq ?_
    refine st_region ?_
    refine sr_op rfl rfl (ow_call en33 rfl (lexSane_c H hlib) ?_)
    rintro _ _ ⟨rfl, H⟩
    refine sr_op rfl rfl (ow_not rfl ?_)
    refine sr_nil ?_
    refine st_no rfl ?_
    refine st_skip ?_
    refine st_seq ?_
    refine st_seq ?_
    refine st_region ?_
    refine sr_op rfl rfl (ow_move (v := .string src) rfl ?_)
    refine sr_op rfl rfl (ow_lenT un9 rfl rfl ?_)
    refine sr_op rfl rfl (ow_gtr rfl rfl ?_)
    refine sr_nil ?_
    refine st_no (congrArg Value.bool (decide_eq_false hbig)) ?_
    refine st_skip ?_
    refine st_seq ?_
    refine st_region ?_
    refine sr_op rfl rfl (ow_move (v := .string src) rfl ?_)
    refine sr_op rfl rfl (ow_call en34 rfl (Lex_as H (s63_of hS) hlib hx) ?_)
    rintro _ _ ⟨I1, v1, hI1, H, rfl, hl1⟩
    obtain ⟨s1A, s1c, rfl, s1m, s1M, s1⟩ := RepS.open_ hl1
    refine sr_op rfl rfl (ow_move (v := .tuple #[.slice s1A 0 s1c, .int .i64 a, .int .i64 30]) rfl ?_)
    refine sr_op rfl rfl (ow_extract (v := .slice s1A 0 s1c) rfl rfl ?_)
    refine sr_op rfl rfl (ow_extract (v := .int .i64 a) rfl rfl ?_)
    refine sr_op rfl rfl (ow_extract (v := .int .i64 30) rfl rfl ?_)
    refine sr_op rfl rfl (ow_assign (v := .slice s1A 0 s1c) rfl ?_)
    refine sr_op rfl rfl (ow_assign (v := .int .i64 a) rfl ?_)
    refine sr_op rfl rfl (ow_assign (v := .int .i64 30) rfl ?_)
    refine sr_nil ?_
    refine st_seq ?_
    refine st_seq ?_
    refine st_region ?_
    refine sr_op rfl rfl (ow_move (v := .int .i64 30) rfl ?_)
    refine sr_op rfl rfl (ow_neq rfl rfl ?_)
    refine sr_nil ?_
    refine st_yes rfl ?_
    refine st_seq ?_
    refine st_region ?_
    refine sr_op rfl rfl (ow_move (v := .slice s1A 0 s1c) rfl ?_)
    refine sr_op rfl rfl (ow_lenS sl53 rfl rfl ?_)
    refine sr_op rfl rfl (ow_eql rfl rfl ?_)
    refine sr_op rfl rfl (ow_assign (v := .bool true) rfl ?_)
    refine sr_nil ?_
    refine st_ret hb (hR _ _ (.bool true) (res_run (vs := [.bool true]) Tryd.results12 ⟨_, _, rfl, rfl, rfl⟩) ?_)
    exact ⟨_, rfl, rfl, (Hp.back H hI1)⟩
  · refine calls_st (n := 132) Tryd.func12 rfl rfl rfl ?_
    intro G bF cs hb hfn hR hP
    simp only [ini]
    refine st_seq ?_
    refine st_region ?_
    refine sr_op rfl rfl (ow_assign (v := .bool false) rfl ?_)
    refine sr_nil ?_
    refine st_seq ?_
    refine st_seq ?_
    refine st_region ?_
    refine sr_op rfl rfl (ow_call en33 rfl (lexSane_c H hlib) ?_)
    rintro _ _ ⟨rfl, H⟩
    refine sr_op rfl rfl (ow_not rfl ?_)
    refine sr_nil ?_
    refine st_no rfl ?_
    refine st_skip ?_
    refine st_seq ?_
    refine st_seq ?_
    refine st_region ?_
    refine sr_op rfl rfl (ow_move (v := .string src) rfl ?_)
    refine sr_op rfl rfl (ow_lenT un9 rfl rfl ?_)
    refine sr_op rfl rfl (ow_gtr rfl rfl ?_)
    refine sr_nil ?_
    refine st_no (congrArg Value.bool (decide_eq_false hbig)) ?_
    refine st_skip ?_
    refine st_seq ?_
    refine st_region ?_
    refine sr_op rfl rfl (ow_move (v := .string src) rfl ?_)
    refine sr_op rfl rfl (ow_call en34 rfl (Lex_as H (s63_of hS) hlib hx) ?_)
    rintro _ _ ⟨I1, v1, hI1, H, rfl, hl1⟩
    obtain ⟨s1A, s1c, rfl, s1m, s1M, s1⟩ := RepS.open_ hl1
    refine sr_op rfl rfl (ow_move (v := .tuple #[.slice s1A l.length s1c, .int .i64 0, .int .i64 0]) rfl ?_)
    refine sr_op rfl rfl (ow_extract (v := .slice s1A l.length s1c) rfl rfl ?_)
    refine sr_op rfl rfl (ow_extract (v := .int .i64 0) rfl rfl ?_)
    refine sr_op rfl rfl (ow_extract (v := .int .i64 0) rfl rfl ?_)
    refine sr_op rfl rfl (ow_assign (v := .slice s1A l.length s1c) rfl ?_)
    refine sr_op rfl rfl (ow_assign (v := .int .i64 0) rfl ?_)
    refine sr_op rfl rfl (ow_assign (v := .int .i64 0) rfl ?_)
    refine sr_nil ?_
    refine st_seq ?_
    refine st_seq ?_
    refine st_region ?_
    refine sr_op rfl rfl (ow_move (v := .int .i64 0) rfl ?_)
    refine sr_op rfl rfl (ow_neq rfl rfl ?_)
    refine sr_nil ?_
    refine st_no rfl ?_
    refine st_skip ?_
    refine st_seq ?_
    refine st_region ?_
    refine sr_op rfl rfl (ow_assign (v := .int .i64 0) rfl ?_)
    refine sr_nil ?_
    refine st_seq ?_
    refine st_seq ?_
    refine st_region ?_
    refine sr_op rfl rfl (ow_assign (v := .int .i64 0) rfl ?_)
    refine sr_nil ?_
    refine st_block ?_
    refine st_loop ?_
    refine st_live [0, 2, 3, 6, 7] ?_
    refine st_ind (fun d_ m_ w_ => ∃ (k i : Nat) (J2 : Im) (r_ : Sl), d_ = l.length + 1 - k ∧ m_ = (0, .string src) :: (2, .bool false) :: (3, .slice s1A l.length s1c) :: (6, .int .i64 (i : Int)) :: (7, .int .i64 (k : Int)) :: r_ ∧ Hp B J2 w_ (L) ∧ Le I1 J2 ∧ k ≤ l.length ∧ i ≤ src.size ∧ Steps src i src.size (l.drop k)) _ ⟨0, 0, I1, _, rfl, rfl, H, Le.refl _, Nat.zero_le _, Nat.zero_le _, by rw [List.drop_zero]; exact hst⟩ ?_
    rintro _ _ _ ⟨k, i, J2, r3, rfl, rfl, H, hJ2, hk, hi, hst⟩ ih4
    refine st_seq ?_
    refine st_seq ?_
    refine st_region ?_
    refine sr_op rfl rfl (ow_move (v := .int .i64 (k : Int)) rfl ?_)
    refine sr_op rfl rfl (ow_move (v := .slice s1A l.length s1c) rfl ?_)
    refine sr_op rfl rfl (ow_lenS sl53 rfl rfl ?_)
    refine sr_op rfl rfl (ow_leq rfl rfl ?_)
    refine sr_nil ?_
    refine st_cond (decide ((k : Int) ≤ (l.length : Int))) rfl (fun hc5 => ?_) (fun hc5 => ?_)
    · skip
      refine st_skip ?_
      refine st_seq ?_
      refine st_block ?_
      refine st_seq ?_
      refine st_region ?_
      refine sr_op rfl rfl (ow_move (v := .string src) rfl ?_)
      refine sr_op rfl rfl (ow_lenT un9 rfl rfl ?_)
      refine sr_op rfl rfl (ow_assign (v := .int .i64 (src.size : Int)) rfl ?_)
      refine sr_nil ?_
      refine st_seq ?_
      refine st_seq ?_
      refine st_region ?_
      refine sr_op rfl rfl (ow_move (v := .int .i64 (k : Int)) rfl ?_)
      refine sr_op rfl rfl (ow_move (v := .slice s1A l.length s1c) rfl ?_)
      refine sr_op rfl rfl (ow_lenS sl53 rfl rfl ?_)
      refine sr_op rfl rfl (ow_lss rfl rfl ?_)
      refine sr_nil ?_
      refine st_cond (decide ((k : Int) < (l.length : Int))) rfl (fun hc6 => ?_) (fun hc6 => ?_)
      · have hkl := of_decide_eq_true hc6
        obtain ⟨⟨kd, tx, nn, p⟩, htk⟩ : ∃ q_ : Tk, l[k]? = some q_ := ⟨_, List.getElem?_eq_getElem (by omega)⟩
        rw [drop_some htk] at hst
        obtain ⟨a, hia, haz, hat_, hgr, hvl, hsp0, hspz, hext, hst2⟩ := place_next hst
        have hp_ : p = (a : Int) := hat_
        subst hp_
        have htk : l[k]? = some (mkTk kd tx nn (a : Int)) := htk
        have hvl : validB (mkTk kd tx nn (a : Int)) = true := hvl
        have hsp0 : 0 < (spellS (mkTk kd tx nn (a : Int))).size := hsp0
        have hspz : a + (spellS (mkTk kd tx nn (a : Int))).size ≤ src.size := hspz
        have hext : src.extract a (a + (spellS (mkTk kd tx nn (a : Int))).size) = (spellS (mkTk kd tx nn (a : Int))) := hext
        have hst2 : Steps src (a + (spellS (mkTk kd tx nn (a : Int))).size) src.size (l.drop (k + 1)) := hst2
        refine st_region ?_
        refine sr_op rfl rfl (ow_move (v := .slice s1A l.length s1c) rfl ?_)
        refine sr_op rfl rfl (ow_move (v := .int .i64 (k : Int)) rfl ?_)
        have s1 := (s1.mono hJ2)
        have he7 := htk
        obtain ⟨b7, o7, us7, hA7, hat7, hul7, hr7⟩ := RepS.get s1 he7
        have d7 := hr7
        obtain ⟨rfl, d7_0, d7_1, d7_2, d7_3⟩ := tk_iff.1 hr7
        refine sr_op rfl rfl (ow_indexAddrA sl53 ty64 hA7 rfl rfl (by omega) (by omega) (r := o7 + k * 4) rfl ?_)
        refine sr_op rfl rfl (ow_fieldAddr fd64_3 ty3 rfl rfl (r := o7 + k * 4 + 3) rfl ?_)
        refine sr_op rfl rfl (ow_loadI (v := .int .i64 (a : Int)) ty3 H rfl (At.sub (vs := [.int .i64 (a : Int)]) hat7 3 rfl) rfl rfl rfl ?_)
        refine sr_op rfl rfl (ow_assign (v := .int .i64 (a : Int)) rfl ?_)
        refine sr_nil ?_
        refine st_seq ?_
        refine st_seq ?_
        refine st_region ?_
        refine sr_op rfl rfl (ow_move (v := .int .i64 (a : Int)) rfl ?_)
        refine sr_op rfl rfl (ow_move (v := .int .i64 (i : Int)) rfl ?_)
        refine sr_op rfl rfl (ow_lss rfl rfl ?_)
        refine sr_op rfl rfl (ow_move (v := .bool (decide ((a : Int) < (i : Int)))) rfl ?_)
        refine sr_want rfl (j := 3) (d := 47) rfl rfl rfl (v := false) (congrArg Value.bool (decide_eq_false (by omega))) rfl (ow_move (v := .int .i64 (a : Int)) rfl ?_)
        refine sr_want rfl (j := 3) (d := 47) rfl rfl rfl (v := false) (congrArg Value.bool (decide_eq_false (by omega))) rfl (ow_move (v := .string src) rfl ?_)
        refine sr_want rfl (j := 3) (d := 47) rfl rfl rfl (v := false) (congrArg Value.bool (decide_eq_false (by omega))) rfl (ow_lenT un9 rfl rfl ?_)
        refine sr_want rfl (j := 3) (d := 47) rfl rfl rfl (v := false) (congrArg Value.bool (decide_eq_false (by omega))) rfl (ow_gtr rfl rfl ?_)
        refine sr_op rfl rfl (ow_pick (a := false) (v := .bool (decide ((src.size : Int) < (a : Int)))) (congrArg Value.bool (decide_eq_false (by omega))) rfl ?_)
        refine sr_nil ?_
        refine st_no (congrArg Value.bool (decide_eq_false (by omega))) ?_
        refine st_skip ?_
        refine st_seq ?_
        refine st_region ?_
        refine sr_op rfl rfl (ow_assign (v := .bool false) rfl ?_)
        refine sr_nil ?_
        refine st_seq ?_
        refine st_block ?_
        refine st_loop ?_
        refine st_live [0, 2, 3, 6, 7, 8, 9] ?_
        refine st_ind (fun d_ m_ w_ => ∃ (i2 : Nat) (cm : Bool) (r_ : Sl), d_ = a - i2 ∧ m_ = (0, .string src) :: (2, .bool false) :: (3, .slice s1A l.length s1c) :: (6, .int .i64 (i2 : Int)) :: (7, .int .i64 (k : Int)) :: (8, .int .i64 (a : Int)) :: (9, .bool cm) :: r_ ∧ Hp B J2 w_ (L) ∧ i ≤ i2 ∧ i2 ≤ a ∧ gapRun src a i2 cm = some false) _ ⟨i, false, _, rfl, rfl, H, Nat.le_refl _, by omega, hgr⟩ ?_
        rintro _ _ _ ⟨i2, cm, r9, rfl, rfl, H, hii, hi2z, hg2⟩ ih10
        obtain ⟨u, hu⟩ := byte_of src i2
        obtain ⟨v2, hv2⟩ := byte_of src (i2 + 1)
        refine st_seq ?_
        refine st_seq ?_
        refine st_region ?_
        refine sr_op rfl rfl (ow_move (v := .int .i64 (i2 : Int)) rfl ?_)
        refine sr_op rfl rfl (ow_move (v := .int .i64 (a : Int)) rfl ?_)
        refine sr_op rfl rfl (ow_lss rfl rfl ?_)
        refine sr_nil ?_
        refine st_cond (decide ((i2 : Int) < (a : Int))) rfl (fun hc11 => ?_) (fun hc11 => ?_)
        · have hlt := of_decide_eq_true hc11
          rw [gap_step cm (by omega)] at hg2
          refine st_skip ?_
          refine st_seq ?_
          refine st_block ?_
          refine st_seq ?_
          refine st_region ?_
          refine sr_op rfl rfl (ow_move (v := .string src) rfl ?_)
          refine sr_op rfl rfl (ow_move (v := .int .i64 (i2 : Int)) rfl ?_)
          refine sr_op rfl rfl (ow_indexT un9 rfl rfl (by omega) (u := u) (hu (by first | omega | (simp at hg; omega))).1 ?_)
          refine sr_op rfl rfl (ow_neq rfl rfl ?_)
          refine sr_op rfl rfl (ow_move (v := .bool (!decide ((u.toNat : Int) = 10))) rfl ?_)
          refine sr_cut 21 (fun m_ w_ => ∃ (r_ : Sl) (v_ : Bool), m_ = (83, .bool v_) :: (0, .string src) :: (2, .bool false) :: (3, .slice s1A l.length s1c) :: (6, .int .i64 (i2 : Int)) :: (7, .int .i64 (k : Int)) :: (8, .int .i64 (a : Int)) :: (9, .bool cm) :: r_ ∧ Hp B J2 w_ (L) ∧ v_ = ((!decide ((u.toNat : Int) = 10)) && (cm || (((decide ((u.toNat : Int) = 47)) && (decide (((i2 + 1 : Nat) : Int) < (a : Int)))) && (decide ((v2.toNat : Int) = 47)))))) (fun again => ?_) ?_
          · rcases hg : !decide ((u.toNat : Int) = 10) with _ | _
            · refine sr_pass rfl (j := 4) (d := 62) rfl rfl rfl (u := false) (v := true) rfl rfl ?_
              refine sr_pass rfl (j := 4) (d := 62) rfl rfl rfl (u := false) (v := true) rfl rfl ?_
              refine sr_pass_undef rfl (j := 6) (d := 64) rfl rfl rfl rfl ?_
              refine sr_pass_undef rfl (j := 6) (d := 64) rfl rfl rfl rfl ?_
              refine sr_pass_undef rfl (j := 6) (d := 64) rfl rfl rfl rfl ?_
              refine sr_pass_undef rfl (j := 6) (d := 64) rfl rfl rfl rfl ?_
              refine sr_pass_undef rfl (j := 6) (d := 64) rfl rfl rfl rfl ?_
              refine sr_pass_undef rfl (j := 11) (d := 69) rfl rfl rfl rfl ?_
              refine sr_pass_undef rfl (j := 11) (d := 69) rfl rfl rfl rfl ?_
              refine sr_pass_undef rfl (j := 11) (d := 69) rfl rfl rfl rfl ?_
              refine sr_pass_undef rfl (j := 11) (d := 69) rfl rfl rfl rfl ?_
              refine sr_pass_undef rfl (j := 6) (d := 64) rfl rfl rfl rfl ?_
              refine sr_pass_undef rfl (j := 6) (d := 64) rfl rfl rfl rfl ?_
              refine sr_pass_undef rfl (j := 17) (d := 75) rfl rfl rfl rfl ?_
              refine sr_pass_undef rfl (j := 17) (d := 75) rfl rfl rfl rfl ?_
              refine sr_pass_undef rfl (j := 17) (d := 75) rfl rfl rfl rfl ?_
              refine sr_pass_undef rfl (j := 17) (d := 75) rfl rfl rfl rfl ?_
              refine sr_pass_undef rfl (j := 17) (d := 75) rfl rfl rfl rfl ?_
              refine sr_pass_undef rfl (j := 6) (d := 64) rfl rfl rfl rfl ?_
              refine sr_pass rfl (j := 4) (d := 62) rfl rfl rfl (u := false) (v := true) rfl rfl ?_
              refine sr_op rfl rfl (ow_pick (v := .bool false) rfl rfl ?_)
              exact sr_live [83, 0, 2, 3, 6, 7, 8, 9] (again _ _ ⟨_, _, rfl, H, by rw [hg] <;> rfl⟩)
            · refine sr_want rfl (j := 4) (d := 62) rfl rfl rfl (v := true) rfl rfl (ow_move (v := .bool cm) rfl ?_)
              refine sr_want rfl (j := 4) (d := 62) rfl rfl rfl (v := true) rfl rfl (ow_move (v := .bool cm) rfl ?_)
              refine sr_cut 18 (fun m_ w_ => ∃ (r_ : Sl) (v_ : Bool), m_ = (82, .bool v_) :: (0, .string src) :: (2, .bool false) :: (3, .slice s1A l.length s1c) :: (6, .int .i64 (i2 : Int)) :: (7, .int .i64 (k : Int)) :: (8, .int .i64 (a : Int)) :: (9, .bool cm) :: (62, .bool true) :: r_ ∧ Hp B J2 w_ (L) ∧ v_ = (cm || (((decide ((u.toNat : Int) = 47)) && (decide (((i2 + 1 : Nat) : Int) < (a : Int)))) && (decide ((v2.toNat : Int) = 47))))) (fun again => ?_) ?_
              · rcases hg : cm with _ | _
                · refine sr_want rfl (j := 6) (d := 64) rfl rfl rfl (v := false) rfl rfl (ow_move (v := .string src) rfl ?_)
                  refine sr_want rfl (j := 6) (d := 64) rfl rfl rfl (v := false) rfl rfl (ow_move (v := .int .i64 (i2 : Int)) rfl ?_)
                  refine sr_want rfl (j := 6) (d := 64) rfl rfl rfl (v := false) rfl rfl (ow_indexT un9 rfl rfl (by omega) (u := u) (hu (by first | omega | (simp at hg; omega))).1 ?_)
                  refine sr_want rfl (j := 6) (d := 64) rfl rfl rfl (v := false) rfl rfl (ow_eql rfl rfl ?_)
                  refine sr_want rfl (j := 6) (d := 64) rfl rfl rfl (v := false) rfl rfl (ow_move (v := .bool (decide ((u.toNat : Int) = 47))) rfl ?_)
                  refine sr_cut 5 (fun m_ w_ => ∃ (r_ : Sl) (v_ : Bool), m_ = (74, .bool v_) :: (0, .string src) :: (2, .bool false) :: (3, .slice s1A l.length s1c) :: (6, .int .i64 (i2 : Int)) :: (7, .int .i64 (k : Int)) :: (8, .int .i64 (a : Int)) :: (9, .bool false) :: (62, .bool true) :: (64, .bool false) :: r_ ∧ Hp B J2 w_ (L) ∧ v_ = ((decide ((u.toNat : Int) = 47)) && (decide (((i2 + 1 : Nat) : Int) < (a : Int))))) (fun again => ?_) ?_
                  · rcases hg : decide ((u.toNat : Int) = 47) with _ | _
                    · refine sr_pass rfl (j := 11) (d := 69) rfl rfl rfl (u := false) (v := true) rfl rfl ?_
                      refine sr_pass rfl (j := 11) (d := 69) rfl rfl rfl (u := false) (v := true) rfl rfl ?_
                      refine sr_pass rfl (j := 11) (d := 69) rfl rfl rfl (u := false) (v := true) rfl rfl ?_
                      refine sr_pass rfl (j := 11) (d := 69) rfl rfl rfl (u := false) (v := true) rfl rfl ?_
                      refine sr_want rfl (j := 6) (d := 64) rfl rfl rfl (v := false) rfl rfl (ow_pick (v := .bool false) rfl rfl ?_)
                      exact sr_live [74, 0, 2, 3, 6, 7, 8, 9, 62, 64] (again _ _ ⟨_, _, rfl, H, by rw [hg] <;> rfl⟩)
                    · refine sr_want rfl (j := 11) (d := 69) rfl rfl rfl (v := true) rfl rfl (ow_move (v := .int .i64 (i2 : Int)) rfl ?_)
                      refine sr_want rfl (j := 11) (d := 69) rfl rfl rfl (v := true) rfl rfl (ow_add (r := ((i2 + 1 : Nat) : Int)) rfl rfl (inc_i64 (by omega)) ?_)
                      refine sr_want rfl (j := 11) (d := 69) rfl rfl rfl (v := true) rfl rfl (ow_move (v := .int .i64 (a : Int)) rfl ?_)
                      refine sr_want rfl (j := 11) (d := 69) rfl rfl rfl (v := true) rfl rfl (ow_lss rfl rfl ?_)
                      refine sr_want rfl (j := 6) (d := 64) rfl rfl rfl (v := false) rfl rfl (ow_pick (v := .bool (decide (((i2 + 1 : Nat) : Int) < (a : Int)))) rfl rfl ?_)
                      exact sr_live [74, 0, 2, 3, 6, 7, 8, 9, 62, 64] (again _ _ ⟨_, _, rfl, H, by rw [hg] <;> rfl⟩)
                  rintro _ _ ⟨r, _, rfl, H, rfl⟩
                  refine sr_want rfl (j := 6) (d := 64) rfl rfl rfl (v := false) rfl rfl (ow_move (v := .bool ((decide ((u.toNat : Int) = 47)) && (decide (((i2 + 1 : Nat) : Int) < (a : Int))))) rfl ?_)
                  refine sr_cut 6 (fun m_ w_ => ∃ (r_ : Sl) (v_ : Bool), m_ = (81, .bool v_) :: (0, .string src) :: (2, .bool false) :: (3, .slice s1A l.length s1c) :: (6, .int .i64 (i2 : Int)) :: (7, .int .i64 (k : Int)) :: (8, .int .i64 (a : Int)) :: (9, .bool false) :: (62, .bool true) :: (64, .bool false) :: r_ ∧ Hp B J2 w_ (L) ∧ v_ = (((decide ((u.toNat : Int) = 47)) && (decide (((i2 + 1 : Nat) : Int) < (a : Int)))) && (decide ((v2.toNat : Int) = 47)))) (fun again => ?_) ?_
                  · rcases hg : (decide ((u.toNat : Int) = 47)) && (decide (((i2 + 1 : Nat) : Int) < (a : Int))) with _ | _
                    · refine sr_pass rfl (j := 17) (d := 75) rfl rfl rfl (u := false) (v := true) rfl rfl ?_
                      refine sr_pass rfl (j := 17) (d := 75) rfl rfl rfl (u := false) (v := true) rfl rfl ?_
                      refine sr_pass rfl (j := 17) (d := 75) rfl rfl rfl (u := false) (v := true) rfl rfl ?_
                      refine sr_pass rfl (j := 17) (d := 75) rfl rfl rfl (u := false) (v := true) rfl rfl ?_
                      refine sr_pass rfl (j := 17) (d := 75) rfl rfl rfl (u := false) (v := true) rfl rfl ?_
                      refine sr_want rfl (j := 6) (d := 64) rfl rfl rfl (v := false) rfl rfl (ow_pick (v := .bool false) rfl rfl ?_)
                      exact sr_live [81, 0, 2, 3, 6, 7, 8, 9, 62, 64] (again _ _ ⟨_, _, rfl, H, by rw [hg] <;> rfl⟩)
                    · refine sr_want rfl (j := 17) (d := 75) rfl rfl rfl (v := true) rfl rfl (ow_move (v := .string src) rfl ?_)
                      refine sr_want rfl (j := 17) (d := 75) rfl rfl rfl (v := true) rfl rfl (ow_move (v := .int .i64 (i2 : Int)) rfl ?_)
                      refine sr_want rfl (j := 17) (d := 75) rfl rfl rfl (v := true) rfl rfl (ow_add (r := ((i2 + 1 : Nat) : Int)) rfl rfl (inc_i64 (by omega)) ?_)
                      refine sr_want rfl (j := 17) (d := 75) rfl rfl rfl (v := true) rfl rfl (ow_indexT un9 rfl rfl (by omega) (u := v2) (hv2 (by first | omega | (simp at hg; omega))).1 ?_)
                      refine sr_want rfl (j := 17) (d := 75) rfl rfl rfl (v := true) rfl rfl (ow_eql rfl rfl ?_)
                      refine sr_want rfl (j := 6) (d := 64) rfl rfl rfl (v := false) rfl rfl (ow_pick (v := .bool (decide ((v2.toNat : Int) = 47))) rfl rfl ?_)
                      exact sr_live [81, 0, 2, 3, 6, 7, 8, 9, 62, 64] (again _ _ ⟨_, _, rfl, H, by rw [hg] <;> rfl⟩)
                  rintro _ _ ⟨r, _, rfl, H, rfl⟩
                  refine sr_want rfl (j := 4) (d := 62) rfl rfl rfl (v := true) rfl rfl (ow_pick (v := .bool (((decide ((u.toNat : Int) = 47)) && (decide (((i2 + 1 : Nat) : Int) < (a : Int)))) && (decide ((v2.toNat : Int) = 47)))) rfl rfl ?_)
                  rw [hg] at again
                  exact sr_live [82, 0, 2, 3, 6, 7, 8, 9, 62] (again _ _ ⟨_, _, rfl, H, by first | rfl | (rw [hg] <;> rfl)⟩)
                · refine sr_pass rfl (j := 6) (d := 64) rfl rfl rfl (u := true) (v := false) rfl rfl ?_
                  refine sr_pass rfl (j := 6) (d := 64) rfl rfl rfl (u := true) (v := false) rfl rfl ?_
                  refine sr_pass rfl (j := 6) (d := 64) rfl rfl rfl (u := true) (v := false) rfl rfl ?_
                  refine sr_pass rfl (j := 6) (d := 64) rfl rfl rfl (u := true) (v := false) rfl rfl ?_
                  refine sr_pass rfl (j := 6) (d := 64) rfl rfl rfl (u := true) (v := false) rfl rfl ?_
                  refine sr_pass_undef rfl (j := 11) (d := 69) rfl rfl rfl rfl ?_
                  refine sr_pass_undef rfl (j := 11) (d := 69) rfl rfl rfl rfl ?_
                  refine sr_pass_undef rfl (j := 11) (d := 69) rfl rfl rfl rfl ?_
                  refine sr_pass_undef rfl (j := 11) (d := 69) rfl rfl rfl rfl ?_
                  refine sr_pass rfl (j := 6) (d := 64) rfl rfl rfl (u := true) (v := false) rfl rfl ?_
                  refine sr_pass rfl (j := 6) (d := 64) rfl rfl rfl (u := true) (v := false) rfl rfl ?_
                  refine sr_pass_undef rfl (j := 17) (d := 75) rfl rfl rfl rfl ?_
                  refine sr_pass_undef rfl (j := 17) (d := 75) rfl rfl rfl rfl ?_
                  refine sr_pass_undef rfl (j := 17) (d := 75) rfl rfl rfl rfl ?_
                  refine sr_pass_undef rfl (j := 17) (d := 75) rfl rfl rfl rfl ?_
                  refine sr_pass_undef rfl (j := 17) (d := 75) rfl rfl rfl rfl ?_
                  refine sr_pass rfl (j := 6) (d := 64) rfl rfl rfl (u := true) (v := false) rfl rfl ?_
                  refine sr_want rfl (j := 4) (d := 62) rfl rfl rfl (v := true) rfl rfl (ow_pick (v := .bool true) rfl rfl ?_)
                  rw [hg] at again
                  exact sr_live [82, 0, 2, 3, 6, 7, 8, 9, 62] (again _ _ ⟨_, _, rfl, H, by first | rfl | (rw [hg] <;> rfl)⟩)
              rintro _ _ ⟨r, _, rfl, H, rfl⟩
              refine sr_op rfl rfl (ow_pick (v := .bool (cm || (((decide ((u.toNat : Int) = 47)) && (decide (((i2 + 1 : Nat) : Int) < (a : Int)))) && (decide ((v2.toNat : Int) = 47))))) rfl rfl ?_)
              exact sr_live [83, 0, 2, 3, 6, 7, 8, 9] (again _ _ ⟨_, _, rfl, H, by rw [hg] <;> rfl⟩)
          rintro _ _ ⟨r, _, rfl, H, rfl⟩
          refine sr_op rfl rfl (ow_assign (v := .bool ((!decide ((u.toNat : Int) = 10)) && (cm || (((decide ((u.toNat : Int) = 47)) && (decide (((i2 + 1 : Nat) : Int) < (a : Int)))) && (decide ((v2.toNat : Int) = 47)))))) rfl ?_)
          refine sr_nil ?_
          refine st_seq ?_
          refine st_region ?_
          refine sr_op rfl rfl (ow_move (v := .bool ((!decide ((u.toNat : Int) = 10)) && (cm || (((decide ((u.toNat : Int) = 47)) && (decide (((i2 + 1 : Nat) : Int) < (a : Int)))) && (decide ((v2.toNat : Int) = 47)))))) rfl ?_)
          refine sr_op rfl rfl (ow_not rfl ?_)
          refine sr_op rfl rfl (ow_move (v := .bool (!((!decide ((u.toNat : Int) = 10)) && (cm || (((decide ((u.toNat : Int) = 47)) && (decide (((i2 + 1 : Nat) : Int) < (a : Int)))) && (decide ((v2.toNat : Int) = 47))))))) rfl ?_)
          refine sr_cut 6 (fun m_ w_ => ∃ (r_ : Sl) (v_ : Bool), m_ = (92, .bool v_) :: (0, .string src) :: (2, .bool false) :: (3, .slice s1A l.length s1c) :: (6, .int .i64 (i2 : Int)) :: (7, .int .i64 (k : Int)) :: (8, .int .i64 (a : Int)) :: (9, .bool ((!decide ((u.toNat : Int) = 10)) && (cm || (((decide ((u.toNat : Int) = 47)) && (decide (((i2 + 1 : Nat) : Int) < (a : Int)))) && (decide ((v2.toNat : Int) = 47)))))) :: r_ ∧ Hp B J2 w_ (L) ∧ v_ = ((!((!decide ((u.toNat : Int) = 10)) && (cm || (((decide ((u.toNat : Int) = 47)) && (decide (((i2 + 1 : Nat) : Int) < (a : Int)))) && (decide ((v2.toNat : Int) = 47)))))) && (!(spaceB (u.toNat : Int))))) (fun again => ?_) ?_
          · rcases hg : !((!decide ((u.toNat : Int) = 10)) && (cm || (((decide ((u.toNat : Int) = 47)) && (decide (((i2 + 1 : Nat) : Int) < (a : Int)))) && (decide ((v2.toNat : Int) = 47))))) with _ | _
            · refine sr_pass rfl (j := 2) (d := 86) rfl rfl rfl (u := false) (v := true) rfl rfl ?_
              refine sr_pass rfl (j := 2) (d := 86) rfl rfl rfl (u := false) (v := true) rfl rfl ?_
              refine sr_pass rfl (j := 2) (d := 86) rfl rfl rfl (u := false) (v := true) rfl rfl ?_
              refine sr_pass rfl (j := 2) (d := 86) rfl rfl rfl (u := false) (v := true) rfl rfl ?_
              refine sr_pass rfl (j := 2) (d := 86) rfl rfl rfl (u := false) (v := true) rfl rfl ?_
              refine sr_op rfl rfl (ow_pick (v := .bool false) rfl rfl ?_)
              exact sr_live [92, 0, 2, 3, 6, 7, 8, 9] (again _ _ ⟨_, _, rfl, H, by rw [hg] <;> rfl⟩)
            · refine sr_want rfl (j := 2) (d := 86) rfl rfl rfl (v := true) rfl rfl (ow_move (v := .string src) rfl ?_)
              refine sr_want rfl (j := 2) (d := 86) rfl rfl rfl (v := true) rfl rfl (ow_move (v := .int .i64 (i2 : Int)) rfl ?_)
              refine sr_want rfl (j := 2) (d := 86) rfl rfl rfl (v := true) rfl rfl (ow_indexT un9 rfl rfl (by omega) (u := u) (hu (by first | omega | (simp at hg; omega))).1 ?_)
              refine sr_want rfl (j := 2) (d := 86) rfl rfl rfl (v := true) rfl rfl (ow_call en44 rfl (Space_c H (u.toNat : Int)) ?_)
              rintro _ _ ⟨rfl, H⟩
              refine sr_want rfl (j := 2) (d := 86) rfl rfl rfl (v := true) rfl rfl (ow_not rfl ?_)
              refine sr_op rfl rfl (ow_pick (v := .bool (!(spaceB (u.toNat : Int)))) rfl rfl ?_)
              exact sr_live [92, 0, 2, 3, 6, 7, 8, 9] (again _ _ ⟨_, _, rfl, H, by rw [hg] <;> rfl⟩)
          rintro _ _ ⟨r, _, rfl, H, rfl⟩
          refine sr_nil ?_
          refine st_cond ((!((!decide ((u.toNat : Int) = 10)) && (cm || (((decide ((u.toNat : Int) = 47)) && (decide (((i2 + 1 : Nat) : Int) < (a : Int)))) && (decide ((v2.toNat : Int) = 47)))))) && (!(spaceB (u.toNat : Int)))) rfl (fun hc12 => ?_) (fun hc12 => ?_)
          · rw [com_eq hu hv2 (by omega) (by omega), byteN_at (hu (by omega)).2, if_pos hc12] at hg2
            exact absurd hg2 (by simp)
          · rw [com_eq hu hv2 (by omega) (by omega), byteN_at (hu (by omega)).2, if_neg (by rw [hc12]; decide)] at hg2
            refine st_skip ?_
            refine st_inBlock ?_
            refine st_region ?_
            refine sr_op rfl rfl (ow_move (v := .int .i64 (i2 : Int)) rfl ?_)
            refine sr_op rfl rfl (ow_add (r := ((i2 + 1 : Nat) : Int)) rfl rfl (inc_i64 (by omega)) ?_)
            refine sr_op rfl rfl (ow_assign (v := .int .i64 ((i2 + 1 : Nat) : Int)) rfl ?_)
            refine sr_nil ?_
            exact st_inLoop (st_live [0, 2, 3, 6, 7, 8, 9] (ih10 _ _ _ (by omega) ⟨i2 + 1, (!decide ((u.toNat : Int) = 10)) && (cm || (((decide ((u.toNat : Int) = 47)) && (decide (((i2 + 1 : Nat) : Int) < (a : Int)))) && (decide ((v2.toNat : Int) = 47)))), _, rfl, rfl, H, by omega, by omega, hg2⟩))
        · have hge := of_decide_eq_false hc11
          have hi2 : i2 = a := by omega
          rw [gap_end cm (by omega)] at hg2
          injection hg2 with hcm
          have hspz2 : i2 + (spellS (mkTk kd tx nn (a : Int))).size ≤ src.size := by omega
          have hext2 : src.extract i2 (i2 + (spellS (mkTk kd tx nn (a : Int))).size) = (spellS (mkTk kd tx nn (a : Int))) := by rw [hi2]; exact hext
          have hst3 : Steps src (i2 + (spellS (mkTk kd tx nn (a : Int))).size) src.size (l.drop (k + 1)) := by rw [hi2]; exact hst2
          refine st_exit rfl ?_
          refine st_seq ?_
          refine st_seq ?_
          refine st_region ?_
          refine sr_op rfl rfl (ow_move (v := .int .i64 (k : Int)) rfl ?_)
          refine sr_op rfl rfl (ow_move (v := .slice s1A l.length s1c) rfl ?_)
          refine sr_op rfl rfl (ow_lenS sl53 rfl rfl ?_)
          refine sr_op rfl rfl (ow_eql rfl rfl ?_)
          refine sr_nil ?_
          refine st_no (congrArg Value.bool (decide_eq_false (by omega))) ?_
          refine st_skip ?_
          refine st_seq ?_
          refine st_region ?_
          refine sr_op rfl rfl (ow_move (v := .slice s1A l.length s1c) rfl ?_)
          refine sr_op rfl rfl (ow_move (v := .int .i64 (k : Int)) rfl ?_)
          have he13 := htk
          obtain ⟨b13, o13, us13, hA13, hat13, hul13, hr13⟩ := RepS.get s1 he13
          have d13 := hr13
          obtain ⟨rfl, d13_0, d13_1, d13_2, d13_3⟩ := tk_iff.1 hr13
          refine sr_op rfl rfl (ow_indexAddrA sl53 ty64 hA13 rfl rfl (by omega) (by omega) (r := o13 + k * 4) rfl ?_)
          refine sr_op rfl rfl (ow_loadI (v := .agg #[.int .i64 kd, .string tx, .int .i64 nn, .int .i64 (a : Int)]) ty64 H rfl hat13 rfl rfl rfl ?_)
          refine sr_op rfl rfl (ow_call en45 rfl (spelled_c H d13 hvl) ?_)
          rintro _ _ ⟨rfl, H⟩
          refine sr_op rfl rfl (ow_assign (v := .string (spellS (mkTk kd tx nn (a : Int)))) rfl ?_)
          refine sr_nil ?_
          refine st_seq ?_
          refine st_seq ?_
          refine st_region ?_
          refine sr_op rfl rfl (ow_move (v := .bool cm) rfl ?_)
          refine sr_op rfl rfl (ow_move (v := .bool cm) rfl ?_)
          refine sr_want rfl (j := 1) (d := 103) rfl rfl rfl (v := false) (congrArg Value.bool hcm) rfl (ow_move (v := .string (spellS (mkTk kd tx nn (a : Int)))) rfl ?_)
          refine sr_want rfl (j := 1) (d := 103) rfl rfl rfl (v := false) (congrArg Value.bool hcm) rfl (ow_lenT un9 rfl rfl ?_)
          refine sr_want rfl (j := 1) (d := 103) rfl rfl rfl (v := false) (congrArg Value.bool hcm) rfl (ow_eql rfl rfl ?_)
          refine sr_op rfl rfl (ow_pick (a := false) (v := .bool (decide (((spellS (mkTk kd tx nn (a : Int))).size : Int) = 0))) (congrArg Value.bool hcm) rfl ?_)
          refine sr_op rfl rfl (ow_move (v := .bool (decide (((spellS (mkTk kd tx nn (a : Int))).size : Int) = 0))) rfl ?_)
          refine sr_want rfl (j := 6) (d := 108) rfl rfl rfl (v := false) (congrArg Value.bool (decide_eq_false (by omega))) rfl (ow_move (v := .int .i64 (i2 : Int)) rfl ?_)
          refine sr_want rfl (j := 6) (d := 108) rfl rfl rfl (v := false) (congrArg Value.bool (decide_eq_false (by omega))) rfl (ow_move (v := .string (spellS (mkTk kd tx nn (a : Int)))) rfl ?_)
          refine sr_want rfl (j := 6) (d := 108) rfl rfl rfl (v := false) (congrArg Value.bool (decide_eq_false (by omega))) rfl (ow_lenT un9 rfl rfl ?_)
          refine sr_want rfl (j := 6) (d := 108) rfl rfl rfl (v := false) (congrArg Value.bool (decide_eq_false (by omega))) rfl (ow_add (r := ((i2 + (spellS (mkTk kd tx nn (a : Int))).size : Nat) : Int)) rfl rfl (show IntKind.i64.wrap ((i2 + (spellS (mkTk kd tx nn (a : Int))).size : Nat) : Int) = _ from wrap_i64 (by omega) (by omega)) ?_)
          refine sr_want rfl (j := 6) (d := 108) rfl rfl rfl (v := false) (congrArg Value.bool (decide_eq_false (by omega))) rfl (ow_move (v := .string src) rfl ?_)
          refine sr_want rfl (j := 6) (d := 108) rfl rfl rfl (v := false) (congrArg Value.bool (decide_eq_false (by omega))) rfl (ow_lenT un9 rfl rfl ?_)
          refine sr_want rfl (j := 6) (d := 108) rfl rfl rfl (v := false) (congrArg Value.bool (decide_eq_false (by omega))) rfl (ow_gtr rfl rfl ?_)
          refine sr_op rfl rfl (ow_pick (a := false) (v := .bool (decide ((src.size : Int) < ((i2 + (spellS (mkTk kd tx nn (a : Int))).size : Nat) : Int)))) (congrArg Value.bool (decide_eq_false (by omega))) rfl ?_)
          refine sr_op rfl rfl (ow_move (v := .bool (decide ((src.size : Int) < ((i2 + (spellS (mkTk kd tx nn (a : Int))).size : Nat) : Int)))) rfl ?_)
          refine sr_want rfl (j := 15) (d := 117) rfl rfl rfl (v := false) (congrArg Value.bool (decide_eq_false (by omega))) rfl (ow_move (v := .string src) rfl ?_)
          refine sr_want rfl (j := 15) (d := 117) rfl rfl rfl (v := false) (congrArg Value.bool (decide_eq_false (by omega))) rfl (ow_move (v := .int .i64 (i2 : Int)) rfl ?_)
          refine sr_want rfl (j := 15) (d := 117) rfl rfl rfl (v := false) (congrArg Value.bool (decide_eq_false (by omega))) rfl (ow_move (v := .int .i64 (i2 : Int)) rfl ?_)
          refine sr_want rfl (j := 15) (d := 117) rfl rfl rfl (v := false) (congrArg Value.bool (decide_eq_false (by omega))) rfl (ow_move (v := .string (spellS (mkTk kd tx nn (a : Int)))) rfl ?_)
          refine sr_want rfl (j := 15) (d := 117) rfl rfl rfl (v := false) (congrArg Value.bool (decide_eq_false (by omega))) rfl (ow_lenT un9 rfl rfl ?_)
          refine sr_want rfl (j := 15) (d := 117) rfl rfl rfl (v := false) (congrArg Value.bool (decide_eq_false (by omega))) rfl (ow_add (r := ((i2 + (spellS (mkTk kd tx nn (a : Int))).size : Nat) : Int)) rfl rfl (show IntKind.i64.wrap ((i2 + (spellS (mkTk kd tx nn (a : Int))).size : Nat) : Int) = _ from wrap_i64 (by omega) (by omega)) ?_)
          refine sr_want rfl (j := 15) (d := 117) rfl rfl rfl (v := false) (congrArg Value.bool (decide_eq_false (by omega))) rfl (ow_cutT (a := i2) (c := (i2 + (spellS (mkTk kd tx nn (a : Int))).size : Nat)) un9 rfl (.inr ⟨_, rfl⟩) (.inr ⟨_, rfl⟩) (by omega) (by first | omega | (simp at hg; omega)) ?_)
          refine sr_want rfl (j := 15) (d := 117) rfl rfl rfl (v := false) (congrArg Value.bool (decide_eq_false (by omega))) rfl (ow_move (v := .string (spellS (mkTk kd tx nn (a : Int)))) rfl ?_)
          refine sr_want rfl (j := 15) (d := 117) rfl rfl rfl (v := false) (congrArg Value.bool (decide_eq_false (by omega))) rfl (ow_sne rfl rfl ?_)
          refine sr_op rfl rfl (ow_pick (a := false) (v := .bool (!decide ((src.extract i2 (i2 + (spellS (mkTk kd tx nn (a : Int))).size : Nat)) = (spellS (mkTk kd tx nn (a : Int)))))) (congrArg Value.bool (decide_eq_false (by omega))) rfl ?_)
          refine sr_nil ?_
          refine st_no (congrArg Value.bool (congrArg (a₂ := true) not (decide_eq_true hext2))) ?_
          refine st_skip ?_
          refine st_region ?_
          refine sr_op rfl rfl (ow_move (v := .int .i64 (i2 : Int)) rfl ?_)
          refine sr_op rfl rfl (ow_move (v := .string (spellS (mkTk kd tx nn (a : Int)))) rfl ?_)
          refine sr_op rfl rfl (ow_lenT un9 rfl rfl ?_)
          refine sr_op rfl rfl (ow_add (r := ((i2 + (spellS (mkTk kd tx nn (a : Int))).size : Nat) : Int)) rfl rfl (show IntKind.i64.wrap ((i2 + (spellS (mkTk kd tx nn (a : Int))).size : Nat) : Int) = _ from wrap_i64 (by omega) (by omega)) ?_)
          refine sr_op rfl rfl (ow_assign (v := .int .i64 ((i2 + (spellS (mkTk kd tx nn (a : Int))).size : Nat) : Int)) rfl ?_)
          refine sr_nil ?_
          refine st_inBlock ?_
          refine st_region ?_
          refine sr_op rfl rfl (ow_move (v := .int .i64 (k : Int)) rfl ?_)
          refine sr_op rfl rfl (ow_add (r := ((k + 1 : Nat) : Int)) rfl rfl (inc_i64 (by omega)) ?_)
          refine sr_op rfl rfl (ow_assign (v := .int .i64 ((k + 1 : Nat) : Int)) rfl ?_)
          refine sr_nil ?_
          exact st_inLoop (st_live [0, 2, 3, 6, 7] (ih4 _ _ _ (by omega) ⟨k + 1, i2 + (spellS (mkTk kd tx nn (a : Int))).size, J2, _, rfl, rfl, H, (hJ2), by omega, by omega, hst3⟩))
      · have hkl := of_decide_eq_false hc6
        rw [List.drop_of_length_le (by omega)] at hst
        obtain ⟨cf, hgr⟩ := place_end hst
        refine st_skip ?_
        refine st_seq ?_
        refine st_seq ?_
        refine st_region ?_
        refine sr_op rfl rfl (ow_move (v := .int .i64 (src.size : Int)) rfl ?_)
        refine sr_op rfl rfl (ow_move (v := .int .i64 (i : Int)) rfl ?_)
        refine sr_op rfl rfl (ow_lss rfl rfl ?_)
        refine sr_op rfl rfl (ow_move (v := .bool (decide ((src.size : Int) < (i : Int)))) rfl ?_)
        refine sr_want rfl (j := 3) (d := 47) rfl rfl rfl (v := false) (congrArg Value.bool (decide_eq_false (by omega))) rfl (ow_move (v := .int .i64 (src.size : Int)) rfl ?_)
        refine sr_want rfl (j := 3) (d := 47) rfl rfl rfl (v := false) (congrArg Value.bool (decide_eq_false (by omega))) rfl (ow_move (v := .string src) rfl ?_)
        refine sr_want rfl (j := 3) (d := 47) rfl rfl rfl (v := false) (congrArg Value.bool (decide_eq_false (by omega))) rfl (ow_lenT un9 rfl rfl ?_)
        refine sr_want rfl (j := 3) (d := 47) rfl rfl rfl (v := false) (congrArg Value.bool (decide_eq_false (by omega))) rfl (ow_gtr rfl rfl ?_)
        refine sr_op rfl rfl (ow_pick (a := false) (v := .bool (decide ((src.size : Int) < (src.size : Int)))) (congrArg Value.bool (decide_eq_false (by omega))) rfl ?_)
        refine sr_nil ?_
        refine st_no (congrArg Value.bool (decide_eq_false (by omega))) ?_
        refine st_skip ?_
        refine st_seq ?_
        refine st_region ?_
        refine sr_op rfl rfl (ow_assign (v := .bool false) rfl ?_)
        refine sr_nil ?_
        refine st_seq ?_
        refine st_block ?_
        refine st_loop ?_
        refine st_live [0, 2, 3, 6, 7, 8, 9] ?_
        refine st_ind (fun d_ m_ w_ => ∃ (i2 : Nat) (cm : Bool) (r_ : Sl), d_ = src.size - i2 ∧ m_ = (0, .string src) :: (2, .bool false) :: (3, .slice s1A l.length s1c) :: (6, .int .i64 (i2 : Int)) :: (7, .int .i64 (k : Int)) :: (8, .int .i64 (src.size : Int)) :: (9, .bool cm) :: r_ ∧ Hp B J2 w_ (L) ∧ i ≤ i2 ∧ i2 ≤ src.size ∧ gapRun src src.size i2 cm = some cf) _ ⟨i, false, _, rfl, rfl, H, Nat.le_refl _, by omega, hgr⟩ ?_
        rintro _ _ _ ⟨i2, cm, r15, rfl, rfl, H, hii, hi2z, hg2⟩ ih16
        obtain ⟨u, hu⟩ := byte_of src i2
        obtain ⟨v2, hv2⟩ := byte_of src (i2 + 1)
        refine st_seq ?_
        refine st_seq ?_
        refine st_region ?_
        refine sr_op rfl rfl (ow_move (v := .int .i64 (i2 : Int)) rfl ?_)
        refine sr_op rfl rfl (ow_move (v := .int .i64 (src.size : Int)) rfl ?_)
        refine sr_op rfl rfl (ow_lss rfl rfl ?_)
        refine sr_nil ?_
        refine st_cond (decide ((i2 : Int) < (src.size : Int))) rfl (fun hc17 => ?_) (fun hc17 => ?_)
        · have hlt := of_decide_eq_true hc17
          rw [gap_step cm (by omega)] at hg2
          refine st_skip ?_
          refine st_seq ?_
          refine st_block ?_
          refine st_seq ?_
          refine st_region ?_
          refine sr_op rfl rfl (ow_move (v := .string src) rfl ?_)
          refine sr_op rfl rfl (ow_move (v := .int .i64 (i2 : Int)) rfl ?_)
          refine sr_op rfl rfl (ow_indexT un9 rfl rfl (by omega) (u := u) (hu (by first | omega | (simp at hg; omega))).1 ?_)
          refine sr_op rfl rfl (ow_neq rfl rfl ?_)
          refine sr_op rfl rfl (ow_move (v := .bool (!decide ((u.toNat : Int) = 10))) rfl ?_)
          refine sr_cut 21 (fun m_ w_ => ∃ (r_ : Sl) (v_ : Bool), m_ = (83, .bool v_) :: (0, .string src) :: (2, .bool false) :: (3, .slice s1A l.length s1c) :: (6, .int .i64 (i2 : Int)) :: (7, .int .i64 (k : Int)) :: (8, .int .i64 (src.size : Int)) :: (9, .bool cm) :: r_ ∧ Hp B J2 w_ (L) ∧ v_ = ((!decide ((u.toNat : Int) = 10)) && (cm || (((decide ((u.toNat : Int) = 47)) && (decide (((i2 + 1 : Nat) : Int) < (src.size : Int)))) && (decide ((v2.toNat : Int) = 47)))))) (fun again => ?_) ?_
          · rcases hg : !decide ((u.toNat : Int) = 10) with _ | _
            · refine sr_pass rfl (j := 4) (d := 62) rfl rfl rfl (u := false) (v := true) rfl rfl ?_
              refine sr_pass rfl (j := 4) (d := 62) rfl rfl rfl (u := false) (v := true) rfl rfl ?_
              refine sr_pass_undef rfl (j := 6) (d := 64) rfl rfl rfl rfl ?_
              refine sr_pass_undef rfl (j := 6) (d := 64) rfl rfl rfl rfl ?_
              refine sr_pass_undef rfl (j := 6) (d := 64) rfl rfl rfl rfl ?_
              refine sr_pass_undef rfl (j := 6) (d := 64) rfl rfl rfl rfl ?_
              refine sr_pass_undef rfl (j := 6) (d := 64) rfl rfl rfl rfl ?_
              refine sr_pass_undef rfl (j := 11) (d := 69) rfl rfl rfl rfl ?_
              refine sr_pass_undef rfl (j := 11) (d := 69) rfl rfl rfl rfl ?_
              refine sr_pass_undef rfl (j := 11) (d := 69) rfl rfl rfl rfl ?_
              refine sr_pass_undef rfl (j := 11) (d := 69) rfl rfl rfl rfl ?_
              refine sr_pass_undef rfl (j := 6) (d := 64) rfl rfl rfl rfl ?_
              refine sr_pass_undef rfl (j := 6) (d := 64) rfl rfl rfl rfl ?_
              refine sr_pass_undef rfl (j := 17) (d := 75) rfl rfl rfl rfl ?_
              refine sr_pass_undef rfl (j := 17) (d := 75) rfl rfl rfl rfl ?_
              refine sr_pass_undef rfl (j := 17) (d := 75) rfl rfl rfl rfl ?_
              refine sr_pass_undef rfl (j := 17) (d := 75) rfl rfl rfl rfl ?_
              refine sr_pass_undef rfl (j := 17) (d := 75) rfl rfl rfl rfl ?_
              refine sr_pass_undef rfl (j := 6) (d := 64) rfl rfl rfl rfl ?_
              refine sr_pass rfl (j := 4) (d := 62) rfl rfl rfl (u := false) (v := true) rfl rfl ?_
              refine sr_op rfl rfl (ow_pick (v := .bool false) rfl rfl ?_)
              exact sr_live [83, 0, 2, 3, 6, 7, 8, 9] (again _ _ ⟨_, _, rfl, H, by rw [hg] <;> rfl⟩)
            · refine sr_want rfl (j := 4) (d := 62) rfl rfl rfl (v := true) rfl rfl (ow_move (v := .bool cm) rfl ?_)
              refine sr_want rfl (j := 4) (d := 62) rfl rfl rfl (v := true) rfl rfl (ow_move (v := .bool cm) rfl ?_)
              refine sr_cut 18 (fun m_ w_ => ∃ (r_ : Sl) (v_ : Bool), m_ = (82, .bool v_) :: (0, .string src) :: (2, .bool false) :: (3, .slice s1A l.length s1c) :: (6, .int .i64 (i2 : Int)) :: (7, .int .i64 (k : Int)) :: (8, .int .i64 (src.size : Int)) :: (9, .bool cm) :: (62, .bool true) :: r_ ∧ Hp B J2 w_ (L) ∧ v_ = (cm || (((decide ((u.toNat : Int) = 47)) && (decide (((i2 + 1 : Nat) : Int) < (src.size : Int)))) && (decide ((v2.toNat : Int) = 47))))) (fun again => ?_) ?_
              · rcases hg : cm with _ | _
                · refine sr_want rfl (j := 6) (d := 64) rfl rfl rfl (v := false) rfl rfl (ow_move (v := .string src) rfl ?_)
                  refine sr_want rfl (j := 6) (d := 64) rfl rfl rfl (v := false) rfl rfl (ow_move (v := .int .i64 (i2 : Int)) rfl ?_)
                  refine sr_want rfl (j := 6) (d := 64) rfl rfl rfl (v := false) rfl rfl (ow_indexT un9 rfl rfl (by omega) (u := u) (hu (by first | omega | (simp at hg; omega))).1 ?_)
                  refine sr_want rfl (j := 6) (d := 64) rfl rfl rfl (v := false) rfl rfl (ow_eql rfl rfl ?_)
                  refine sr_want rfl (j := 6) (d := 64) rfl rfl rfl (v := false) rfl rfl (ow_move (v := .bool (decide ((u.toNat : Int) = 47))) rfl ?_)
                  refine sr_cut 5 (fun m_ w_ => ∃ (r_ : Sl) (v_ : Bool), m_ = (74, .bool v_) :: (0, .string src) :: (2, .bool false) :: (3, .slice s1A l.length s1c) :: (6, .int .i64 (i2 : Int)) :: (7, .int .i64 (k : Int)) :: (8, .int .i64 (src.size : Int)) :: (9, .bool false) :: (62, .bool true) :: (64, .bool false) :: r_ ∧ Hp B J2 w_ (L) ∧ v_ = ((decide ((u.toNat : Int) = 47)) && (decide (((i2 + 1 : Nat) : Int) < (src.size : Int))))) (fun again => ?_) ?_
                  · rcases hg : decide ((u.toNat : Int) = 47) with _ | _
                    · refine sr_pass rfl (j := 11) (d := 69) rfl rfl rfl (u := false) (v := true) rfl rfl ?_
                      refine sr_pass rfl (j := 11) (d := 69) rfl rfl rfl (u := false) (v := true) rfl rfl ?_
                      refine sr_pass rfl (j := 11) (d := 69) rfl rfl rfl (u := false) (v := true) rfl rfl ?_
                      refine sr_pass rfl (j := 11) (d := 69) rfl rfl rfl (u := false) (v := true) rfl rfl ?_
                      refine sr_want rfl (j := 6) (d := 64) rfl rfl rfl (v := false) rfl rfl (ow_pick (v := .bool false) rfl rfl ?_)
                      exact sr_live [74, 0, 2, 3, 6, 7, 8, 9, 62, 64] (again _ _ ⟨_, _, rfl, H, by rw [hg] <;> rfl⟩)
                    · refine sr_want rfl (j := 11) (d := 69) rfl rfl rfl (v := true) rfl rfl (ow_move (v := .int .i64 (i2 : Int)) rfl ?_)
                      refine sr_want rfl (j := 11) (d := 69) rfl rfl rfl (v := true) rfl rfl (ow_add (r := ((i2 + 1 : Nat) : Int)) rfl rfl (inc_i64 (by omega)) ?_)
                      refine sr_want rfl (j := 11) (d := 69) rfl rfl rfl (v := true) rfl rfl (ow_move (v := .int .i64 (src.size : Int)) rfl ?_)
                      refine sr_want rfl (j := 11) (d := 69) rfl rfl rfl (v := true) rfl rfl (ow_lss rfl rfl ?_)
                      refine sr_want rfl (j := 6) (d := 64) rfl rfl rfl (v := false) rfl rfl (ow_pick (v := .bool (decide (((i2 + 1 : Nat) : Int) < (src.size : Int)))) rfl rfl ?_)
                      exact sr_live [74, 0, 2, 3, 6, 7, 8, 9, 62, 64] (again _ _ ⟨_, _, rfl, H, by rw [hg] <;> rfl⟩)
                  rintro _ _ ⟨r, _, rfl, H, rfl⟩
                  refine sr_want rfl (j := 6) (d := 64) rfl rfl rfl (v := false) rfl rfl (ow_move (v := .bool ((decide ((u.toNat : Int) = 47)) && (decide (((i2 + 1 : Nat) : Int) < (src.size : Int))))) rfl ?_)
                  refine sr_cut 6 (fun m_ w_ => ∃ (r_ : Sl) (v_ : Bool), m_ = (81, .bool v_) :: (0, .string src) :: (2, .bool false) :: (3, .slice s1A l.length s1c) :: (6, .int .i64 (i2 : Int)) :: (7, .int .i64 (k : Int)) :: (8, .int .i64 (src.size : Int)) :: (9, .bool false) :: (62, .bool true) :: (64, .bool false) :: r_ ∧ Hp B J2 w_ (L) ∧ v_ = (((decide ((u.toNat : Int) = 47)) && (decide (((i2 + 1 : Nat) : Int) < (src.size : Int)))) && (decide ((v2.toNat : Int) = 47)))) (fun again => ?_) ?_
                  · rcases hg : (decide ((u.toNat : Int) = 47)) && (decide (((i2 + 1 : Nat) : Int) < (src.size : Int))) with _ | _
                    · refine sr_pass rfl (j := 17) (d := 75) rfl rfl rfl (u := false) (v := true) rfl rfl ?_
                      refine sr_pass rfl (j := 17) (d := 75) rfl rfl rfl (u := false) (v := true) rfl rfl ?_
                      refine sr_pass rfl (j := 17) (d := 75) rfl rfl rfl (u := false) (v := true) rfl rfl ?_
                      refine sr_pass rfl (j := 17) (d := 75) rfl rfl rfl (u := false) (v := true) rfl rfl ?_
                      refine sr_pass rfl (j := 17) (d := 75) rfl rfl rfl (u := false) (v := true) rfl rfl ?_
                      refine sr_want rfl (j := 6) (d := 64) rfl rfl rfl (v := false) rfl rfl (ow_pick (v := .bool false) rfl rfl ?_)
                      exact sr_live [81, 0, 2, 3, 6, 7, 8, 9, 62, 64] (again _ _ ⟨_, _, rfl, H, by rw [hg] <;> rfl⟩)
                    · refine sr_want rfl (j := 17) (d := 75) rfl rfl rfl (v := true) rfl rfl (ow_move (v := .string src) rfl ?_)
                      refine sr_want rfl (j := 17) (d := 75) rfl rfl rfl (v := true) rfl rfl (ow_move (v := .int .i64 (i2 : Int)) rfl ?_)
                      refine sr_want rfl (j := 17) (d := 75) rfl rfl rfl (v := true) rfl rfl (ow_add (r := ((i2 + 1 : Nat) : Int)) rfl rfl (inc_i64 (by omega)) ?_)
                      refine sr_want rfl (j := 17) (d := 75) rfl rfl rfl (v := true) rfl rfl (ow_indexT un9 rfl rfl (by omega) (u := v2) (hv2 (by first | omega | (simp at hg; omega))).1 ?_)
                      refine sr_want rfl (j := 17) (d := 75) rfl rfl rfl (v := true) rfl rfl (ow_eql rfl rfl ?_)
                      refine sr_want rfl (j := 6) (d := 64) rfl rfl rfl (v := false) rfl rfl (ow_pick (v := .bool (decide ((v2.toNat : Int) = 47))) rfl rfl ?_)
                      exact sr_live [81, 0, 2, 3, 6, 7, 8, 9, 62, 64] (again _ _ ⟨_, _, rfl, H, by rw [hg] <;> rfl⟩)
                  rintro _ _ ⟨r, _, rfl, H, rfl⟩
                  refine sr_want rfl (j := 4) (d := 62) rfl rfl rfl (v := true) rfl rfl (ow_pick (v := .bool (((decide ((u.toNat : Int) = 47)) && (decide (((i2 + 1 : Nat) : Int) < (src.size : Int)))) && (decide ((v2.toNat : Int) = 47)))) rfl rfl ?_)
                  rw [hg] at again
                  exact sr_live [82, 0, 2, 3, 6, 7, 8, 9, 62] (again _ _ ⟨_, _, rfl, H, by first | rfl | (rw [hg] <;> rfl)⟩)
                · refine sr_pass rfl (j := 6) (d := 64) rfl rfl rfl (u := true) (v := false) rfl rfl ?_
                  refine sr_pass rfl (j := 6) (d := 64) rfl rfl rfl (u := true) (v := false) rfl rfl ?_
                  refine sr_pass rfl (j := 6) (d := 64) rfl rfl rfl (u := true) (v := false) rfl rfl ?_
                  refine sr_pass rfl (j := 6) (d := 64) rfl rfl rfl (u := true) (v := false) rfl rfl ?_
                  refine sr_pass rfl (j := 6) (d := 64) rfl rfl rfl (u := true) (v := false) rfl rfl ?_
                  refine sr_pass_undef rfl (j := 11) (d := 69) rfl rfl rfl rfl ?_
                  refine sr_pass_undef rfl (j := 11) (d := 69) rfl rfl rfl rfl ?_
                  refine sr_pass_undef rfl (j := 11) (d := 69) rfl rfl rfl rfl ?_
                  refine sr_pass_undef rfl (j := 11) (d := 69) rfl rfl rfl rfl ?_
                  refine sr_pass rfl (j := 6) (d := 64) rfl rfl rfl (u := true) (v := false) rfl rfl ?_
                  refine sr_pass rfl (j := 6) (d := 64) rfl rfl rfl (u := true) (v := false) rfl rfl ?_
                  refine sr_pass_undef rfl (j := 17) (d := 75) rfl rfl rfl rfl ?_
                  refine sr_pass_undef rfl (j := 17) (d := 75) rfl rfl rfl rfl ?_
                  refine sr_pass_undef rfl (j := 17) (d := 75) rfl rfl rfl rfl ?_
                  refine sr_pass_undef rfl (j := 17) (d := 75) rfl rfl rfl rfl ?_
                  refine sr_pass_undef rfl (j := 17) (d := 75) rfl rfl rfl rfl ?_
                  refine sr_pass rfl (j := 6) (d := 64) rfl rfl rfl (u := true) (v := false) rfl rfl ?_
                  refine sr_want rfl (j := 4) (d := 62) rfl rfl rfl (v := true) rfl rfl (ow_pick (v := .bool true) rfl rfl ?_)
                  rw [hg] at again
                  exact sr_live [82, 0, 2, 3, 6, 7, 8, 9, 62] (again _ _ ⟨_, _, rfl, H, by first | rfl | (rw [hg] <;> rfl)⟩)
              rintro _ _ ⟨r, _, rfl, H, rfl⟩
              refine sr_op rfl rfl (ow_pick (v := .bool (cm || (((decide ((u.toNat : Int) = 47)) && (decide (((i2 + 1 : Nat) : Int) < (src.size : Int)))) && (decide ((v2.toNat : Int) = 47))))) rfl rfl ?_)
              exact sr_live [83, 0, 2, 3, 6, 7, 8, 9] (again _ _ ⟨_, _, rfl, H, by rw [hg] <;> rfl⟩)
          rintro _ _ ⟨r, _, rfl, H, rfl⟩
          refine sr_op rfl rfl (ow_assign (v := .bool ((!decide ((u.toNat : Int) = 10)) && (cm || (((decide ((u.toNat : Int) = 47)) && (decide (((i2 + 1 : Nat) : Int) < (src.size : Int)))) && (decide ((v2.toNat : Int) = 47)))))) rfl ?_)
          refine sr_nil ?_
          refine st_seq ?_
          refine st_region ?_
          refine sr_op rfl rfl (ow_move (v := .bool ((!decide ((u.toNat : Int) = 10)) && (cm || (((decide ((u.toNat : Int) = 47)) && (decide (((i2 + 1 : Nat) : Int) < (src.size : Int)))) && (decide ((v2.toNat : Int) = 47)))))) rfl ?_)
          refine sr_op rfl rfl (ow_not rfl ?_)
          refine sr_op rfl rfl (ow_move (v := .bool (!((!decide ((u.toNat : Int) = 10)) && (cm || (((decide ((u.toNat : Int) = 47)) && (decide (((i2 + 1 : Nat) : Int) < (src.size : Int)))) && (decide ((v2.toNat : Int) = 47))))))) rfl ?_)
          refine sr_cut 6 (fun m_ w_ => ∃ (r_ : Sl) (v_ : Bool), m_ = (92, .bool v_) :: (0, .string src) :: (2, .bool false) :: (3, .slice s1A l.length s1c) :: (6, .int .i64 (i2 : Int)) :: (7, .int .i64 (k : Int)) :: (8, .int .i64 (src.size : Int)) :: (9, .bool ((!decide ((u.toNat : Int) = 10)) && (cm || (((decide ((u.toNat : Int) = 47)) && (decide (((i2 + 1 : Nat) : Int) < (src.size : Int)))) && (decide ((v2.toNat : Int) = 47)))))) :: r_ ∧ Hp B J2 w_ (L) ∧ v_ = ((!((!decide ((u.toNat : Int) = 10)) && (cm || (((decide ((u.toNat : Int) = 47)) && (decide (((i2 + 1 : Nat) : Int) < (src.size : Int)))) && (decide ((v2.toNat : Int) = 47)))))) && (!(spaceB (u.toNat : Int))))) (fun again => ?_) ?_
          · rcases hg : !((!decide ((u.toNat : Int) = 10)) && (cm || (((decide ((u.toNat : Int) = 47)) && (decide (((i2 + 1 : Nat) : Int) < (src.size : Int)))) && (decide ((v2.toNat : Int) = 47))))) with _ | _
            · refine sr_pass rfl (j := 2) (d := 86) rfl rfl rfl (u := false) (v := true) rfl rfl ?_
              refine sr_pass rfl (j := 2) (d := 86) rfl rfl rfl (u := false) (v := true) rfl rfl ?_
              refine sr_pass rfl (j := 2) (d := 86) rfl rfl rfl (u := false) (v := true) rfl rfl ?_
              refine sr_pass rfl (j := 2) (d := 86) rfl rfl rfl (u := false) (v := true) rfl rfl ?_
              refine sr_pass rfl (j := 2) (d := 86) rfl rfl rfl (u := false) (v := true) rfl rfl ?_
              refine sr_op rfl rfl (ow_pick (v := .bool false) rfl rfl ?_)
              exact sr_live [92, 0, 2, 3, 6, 7, 8, 9] (again _ _ ⟨_, _, rfl, H, by rw [hg] <;> rfl⟩)
            · refine sr_want rfl (j := 2) (d := 86) rfl rfl rfl (v := true) rfl rfl (ow_move (v := .string src) rfl ?_)
              refine sr_want rfl (j := 2) (d := 86) rfl rfl rfl (v := true) rfl rfl (ow_move (v := .int .i64 (i2 : Int)) rfl ?_)
              refine sr_want rfl (j := 2) (d := 86) rfl rfl rfl (v := true) rfl rfl (ow_indexT un9 rfl rfl (by omega) (u := u) (hu (by first | omega | (simp at hg; omega))).1 ?_)
              refine sr_want rfl (j := 2) (d := 86) rfl rfl rfl (v := true) rfl rfl (ow_call en44 rfl (Space_c H (u.toNat : Int)) ?_)
              rintro _ _ ⟨rfl, H⟩
              refine sr_want rfl (j := 2) (d := 86) rfl rfl rfl (v := true) rfl rfl (ow_not rfl ?_)
              refine sr_op rfl rfl (ow_pick (v := .bool (!(spaceB (u.toNat : Int)))) rfl rfl ?_)
              exact sr_live [92, 0, 2, 3, 6, 7, 8, 9] (again _ _ ⟨_, _, rfl, H, by rw [hg] <;> rfl⟩)
          rintro _ _ ⟨r, _, rfl, H, rfl⟩
          refine sr_nil ?_
          refine st_cond ((!((!decide ((u.toNat : Int) = 10)) && (cm || (((decide ((u.toNat : Int) = 47)) && (decide (((i2 + 1 : Nat) : Int) < (src.size : Int)))) && (decide ((v2.toNat : Int) = 47)))))) && (!(spaceB (u.toNat : Int)))) rfl (fun hc18 => ?_) (fun hc18 => ?_)
          · rw [com_eq hu hv2 (by omega) (by omega), byteN_at (hu (by omega)).2, if_pos hc18] at hg2
            exact absurd hg2 (by simp)
          · rw [com_eq hu hv2 (by omega) (by omega), byteN_at (hu (by omega)).2, if_neg (by rw [hc18]; decide)] at hg2
            refine st_skip ?_
            refine st_inBlock ?_
            refine st_region ?_
            refine sr_op rfl rfl (ow_move (v := .int .i64 (i2 : Int)) rfl ?_)
            refine sr_op rfl rfl (ow_add (r := ((i2 + 1 : Nat) : Int)) rfl rfl (inc_i64 (by omega)) ?_)
            refine sr_op rfl rfl (ow_assign (v := .int .i64 ((i2 + 1 : Nat) : Int)) rfl ?_)
            refine sr_nil ?_
            exact st_inLoop (st_live [0, 2, 3, 6, 7, 8, 9] (ih16 _ _ _ (by omega) ⟨i2 + 1, (!decide ((u.toNat : Int) = 10)) && (cm || (((decide ((u.toNat : Int) = 47)) && (decide (((i2 + 1 : Nat) : Int) < (src.size : Int)))) && (decide ((v2.toNat : Int) = 47)))), _, rfl, rfl, H, by omega, by omega, hg2⟩))
        · have hge := of_decide_eq_false hc17
          have hi2 : i2 = src.size := by omega
          rw [gap_end cm (by omega)] at hg2
          injection hg2 with hcm
          refine st_exit rfl ?_
          refine st_seq ?_
          refine st_seq ?_
          refine st_region ?_
          refine sr_op rfl rfl (ow_move (v := .int .i64 (k : Int)) rfl ?_)
          refine sr_op rfl rfl (ow_move (v := .slice s1A l.length s1c) rfl ?_)
          refine sr_op rfl rfl (ow_lenS sl53 rfl rfl ?_)
          refine sr_op rfl rfl (ow_eql rfl rfl ?_)
          refine sr_nil ?_
          refine st_yes (congrArg Value.bool (decide_eq_true (by omega))) ?_
          refine st_exit rfl ?_
          refine st_seq ?_
          refine st_region ?_
          refine sr_op rfl rfl (ow_assign (v := .bool true) rfl ?_)
          refine sr_nil ?_
          refine st_ret hb (hR _ _ (.bool true) (res_run (vs := [.bool true]) Tryd.results12 ⟨_, _, rfl, rfl, rfl⟩) ?_)
          exact ⟨_, rfl, rfl, (Hp.back H (hI1.trans hJ2))⟩
    · exact absurd (show (k : Int) ≤ (l.length : Int) by omega) (of_decide_eq_false hc5)
  · refine calls_st (n := 132) Tryd.func12 rfl rfl rfl ?_
    intro G bF cs hb hfn hR hP
    simp only [ini]
    refine st_seq ?_
    refine st_region ?_
    refine sr_op rfl rfl (ow_assign (v := .bool false) rfl ?_)
    refine sr_nil ?_
    refine st_seq ?_
    refine st_seq ?_
    refine st_region ?_
    refine sr_op rfl rfl (ow_call en33 rfl (lexSane_c H hlib) ?_)
    rintro _ _ ⟨rfl, H⟩
    refine sr_op rfl rfl (ow_not rfl ?_)
    refine sr_nil ?_
    refine st_no rfl ?_
    refine st_skip ?_
    refine st_seq ?_
    refine st_seq ?_
    refine st_region ?_
    refine sr_op rfl rfl (ow_move (v := .string src) rfl ?_)
    refine sr_op rfl rfl (ow_lenT un9 rfl rfl ?_)
    refine sr_op rfl rfl (ow_gtr rfl rfl ?_)
    refine sr_nil ?_
    refine st_yes (congrArg Value.bool (decide_eq_true hbig)) ?_
    refine st_seq ?_
    refine st_region ?_
    refine sr_op rfl rfl (ow_assign (v := .bool true) rfl ?_)
    refine sr_nil ?_
    refine st_ret hb (hR _ _ (.bool true) (res_run (vs := [.bool true]) Tryd.results12 ⟨_, _, rfl, rfl, rfl⟩) ?_)
    exact ⟨_, rfl, rfl, H⟩
end Go.Proofs.YtbbflenaeihmeaaDoor
