/-
  Walks: the parser: words, declarations, expressions in brackets, items.
-/
import Derived.Test.YtghmjnbpkobooaaGreatDoorY6
set_option linter.unusedVariables false
set_option linter.unusedSimpArgs false
set_option maxRecDepth 10000
set_option maxHeartbeats 4000000
namespace Go.Proofs.YtghmjnbpkobooaaGreatDoor
open Go Go.RowKit

theorem want_c {B I L w} {ws : List ByteArray} {u : Value} {gP : Nat} {e : Int} {q0 q1 q2 q3 q4 q5 q6 q7 q8 q9 : Value} {l : List Tk} {v : Value} (H : Hp B I w (paB gP v e q0 q1 q2 q3 q4 q5 q6 q7 q8 q9 :: L)) (hl : RepS encTk I 4 l v) (hu : RepS encS I 1 ws u) : Calls Tryz.prog 212 #[.pointer (some ⟨gP, 0, none⟩), u] w (Rp (fun r w' => ∃ l' v', wantsT ws l = .ok () l' ∧ RepS encTk I 4 l' v' ∧ Hp B I w' (paB gP v' e q0 q1 q2 q3 q4 q5 q6 q7 q8 q9 :: L)) (fun ch w' => badP B I gP e L (wantsT ws l) ch w')) := by
  obtain ⟨s0A, s0c, rfl, s0m, s0M, s0⟩ := RepS.open_ hu
  refine calls_st (n := 19) Tryz.func212 rfl rfl rfl ?_
  intro G bF cs hb hfn hR hP
  simp only [ini]
  refine st_seq ?_
  refine st_region ?_
  refine sr_op rfl rfl (ow_move (v := .slice s0A ws.length s0c) rfl ?_)
  refine sr_op rfl rfl (ow_lenS sl22 rfl rfl ?_)
  refine sr_op rfl rfl (ow_move (v := .int .i64 0) rfl ?_)
  refine sr_nil ?_
  refine st_block ?_
  refine st_loop ?_
  refine st_live [0, 6, 7, 8] ?_
  refine st_ind (fun d_ m_ w_ => ∃ (i : Nat) (l1 : List Tk) (v1 : Value) (r_ : Sl), d_ = ws.length - i ∧ m_ = (0, .pointer (some ⟨gP, 0, none⟩)) :: (6, .slice s0A ws.length s0c) :: (7, .int .i64 (ws.length : Int)) :: (8, .int .i64 (i : Int)) :: r_ ∧ Hp B I w_ (paB gP v1 e q0 q1 q2 q3 q4 q5 q6 q7 q8 q9 :: L) ∧ i ≤ ws.length ∧ RepS encTk I 4 l1 v1 ∧ wantsT ws l = wantsT (ws.drop i) l1) _ ⟨0, l, v, _, rfl, rfl, H, Nat.zero_le _, hl, rfl⟩ ?_
  rintro _ _ _ ⟨i, l1, v1, r2, rfl, rfl, H, hi, hl1, hws⟩ ih3
  refine st_seq ?_
  refine st_region ?_
  refine sr_op rfl rfl (ow_lss rfl rfl ?_)
  refine sr_nil ?_
  refine st_seq ?_
  refine st_cond (decide ((i : Int) < (ws.length : Int))) rfl (fun hc4 => ?_) (fun hc4 => ?_)
  · have hc4 := of_decide_eq_true hc4
    refine st_skip ?_
    refine st_seq ?_
    refine st_block ?_
    refine st_seq ?_
    refine st_region ?_
    obtain ⟨e5, he5⟩ : ∃ q_, ws[i]? = some q_ := ⟨_, List.getElem?_eq_getElem (by omega)⟩
    obtain ⟨b5, o5, us5, hA5, hat5, hul5, hr5⟩ := RepS.get s0 he5
    have d5 := hr5
    obtain ⟨rfl, d5_0⟩ := s_iff.1 hr5
    refine sr_op rfl rfl (ow_indexAddrA sl22 ty9 hA5 rfl rfl (by omega) (by omega) (r := o5 + i * 1) rfl ?_)
    refine sr_op rfl rfl (ow_loadI (v := .string e5) ty9 H rfl hat5 rfl rfl rfl ?_)
    refine sr_op rfl rfl (ow_assign (v := .string e5) rfl ?_)
    refine sr_nil ?_
    refine st_seq ?_
    refine st_region ?_
    refine sr_op rfl rfl (ow_move (v := .pointer (some ⟨gP, 0, none⟩)) rfl ?_)
    refine sr_op rfl rfl (ow_move (v := .string e5) rfl ?_)
    refine sr_op rfl rfl (ow_call en214 rfl (take_c H hl1 (x := e5)) ?_)
    rintro _ _ ⟨v6, rfl, hl6, H⟩
    refine sr_op rfl rfl (ow_not rfl ?_)
    refine sr_nil ?_
    refine st_cond (!(isT e5 l1)) rfl (fun hc7 => ?_) (fun hc7 => ?_)
    · have hn_ := bnt hc7
      have hbad : wantsT ws l = .bad l1 := by
        rw [hws, drop_some he5, wants_cons, wantT, if_neg (by rw [hn_]; decide)]
        rfl
      rw [takeT, if_neg (by rw [hn_]; decide)] at hl6
      refine st_region ?_
      refine sr_op rfl rfl (ow_move (v := .pointer (some ⟨gP, 0, none⟩)) rfl ?_)
      refine sr_op rfl rfl (ow_callp en133 rfl (fail_c H hl6) ?_ ?_)
      · rintro _ _ h_
        exact h_.elim
      rintro _ _ ⟨rfl, H⟩
      exact (hP _ _ ⟨_, _, hbad, rfl, H⟩).one
    · have hy_ := bnf hc7
      rw [takeT, if_pos hy_] at hl6
      refine st_skip ?_
      refine st_inBlock ?_
      refine st_region ?_
      refine sr_op rfl rfl (ow_add (r := ((i + 1 : Nat) : Int)) rfl rfl (inc_i64 (by omega)) ?_)
      refine sr_op rfl rfl (ow_move (v := .int .i64 ((i + 1 : Nat) : Int)) rfl ?_)
      refine sr_nil ?_
      exact st_inLoop (st_live [0, 6, 7, 8] (ih3 _ _ _ (by omega) ⟨i + 1, l1.tail, v6, _, rfl, rfl, H, by omega, hl6, by rw [hws, drop_some he5, wants_cons, wantT, if_pos hy_]; rfl⟩))
  · have hc4 := of_decide_eq_false hc4
    refine st_exit rfl ?_
    refine st_end hb (hR _ _ (.tuple #[]) (res_run (vs := []) Tryz.results212 rfl) ?_)
    rw [List.drop_of_length_le (by omega)] at hws
    exact ⟨l1, v1, hws, hl1, H⟩
theorem decl1_c {B I L w} {x : ByteArray} {g2 g3 : Nat} {gP : Nat} {e : Int} {q0 q1 q2 q3 q4 q5 q6 q7 q8 q9 : Value} {l : List Tk} {v : Value} (H : Hp B I w (paB gP v e q0 q1 q2 q3 q4 q5 q6 q7 q8 q9 :: L)) (hl : RepS encTk I 4 l v) (h2 : At I g2 0 [.pointer (some ⟨gP, 0, none⟩)]) (h3 : At I g3 0 [.string x]) (hx : S63 x) : Calls Tryz.prog 268 #[.pointer (some ⟨g2, 0, none⟩), .pointer (some ⟨g3, 0, none⟩)] w (Rp (fun r w' => ∃ I' s l' v', Le I I' ∧ declT x l = .ok s l' ∧ r = .string s ∧ S63 s ∧ RepS encTk I' 4 l' v' ∧ Hp B I' w' (paB gP v' e q0 q1 q2 q3 q4 q5 q6 q7 q8 q9 :: L)) (fun ch w' => badP B I gP e L (declT x l) ch w')) := by
  have hT := declT_eq x l
  refine calls_st (n := 14) Tryz.func268 rfl rfl rfl ?_
  intro G bF cs hb hfn hR hP
  simp only [ini]
  refine st_seq ?_
  refine st_region ?_
  refine sr_op rfl rfl (ow_assign (v := .string ⟨#[]⟩) rfl ?_)
  refine sr_nil ?_
  refine st_seq ?_
  refine st_region ?_
  refine sr_op rfl rfl (ow_loadI (v := .pointer (some ⟨gP, 0, none⟩)) ty180 H rfl h2 rfl rfl rfl ?_)
  refine sr_op rfl rfl (ow_loadI (v := .string x) ty9 H rfl h3 rfl rfl rfl ?_)
  refine sr_op rfl rfl (ow_buildSlice H (e := 9) (ps := [(0, .string x)]) rfl [.string x] (fun _ => by kernel_rfl) (fun g1 _ H => ?_))
  obtain ⟨I2, hI2, H, hl2⟩ := lit_done (enc := encS) (sz := 1) (n := 1) [x] rfl (by omega) H ⟨((s_iff (s := x)).2 ⟨rfl, hx⟩), rfl, rfl⟩
  have hl := (hl.mono hI2)
  refine sr_op rfl rfl (ow_callp en212 rfl (want_c H hl (ws := [x]) hl2) ?_ ?_)
  rotate_left
  · rintro ch_ w_ hb_
    exact (hP _ _ (badP.fin hb_ hT hI2 (List.Sublist.refl _))).one
  rintro _ _ ⟨l3, v3, hk_, hl3, H⟩
  rw [hk_, go_ok_] at hT
  have hw3 := hk_
  refine sr_nil ?_
  refine st_seq ?_
  refine st_region ?_
  have h2 := (h2.mono hI2)
  refine sr_op rfl rfl (ow_loadI (v := .pointer (some ⟨gP, 0, none⟩)) ty180 H rfl h2 rfl rfl rfl ?_)
  refine sr_op rfl rfl (ow_callp en213 rfl (name_pc H hl3) ?_ ?_)
  rotate_left
  · rintro ch_ w_ hb_
    exact (hP _ _ (badP.fin hb_ hT hI2 (List.Sublist.refl _))).one
  rintro _ _ ⟨s4, l4, v4, hk_, rfl, hs4, hl4, H⟩
  rw [hk_, go_ok_] at hT
  have hk4 := hk_
  refine sr_op rfl rfl (ow_assign (v := .string s4) rfl ?_)
  refine sr_nil ?_
  refine st_seq ?_
  refine st_region ?_
  refine sr_op rfl rfl (ow_loadI (v := .pointer (some ⟨gP, 0, none⟩)) ty180 H rfl h2 rfl rfl rfl ?_)
  refine sr_op rfl rfl (ow_buildSlice H (e := 9) (ps := [(0, .string ⟨#[59]⟩)]) rfl [.string ⟨#[59]⟩] (fun _ => by kernel_rfl) (fun g5 _ H => ?_))
  obtain ⟨I6, hI6, H, hl6⟩ := lit_done (enc := encS) (sz := 1) (n := 1) [sSemi] rfl (by omega) H ⟨((s_iff (s := sSemi)).2 ⟨rfl, by unfold S63; decide +kernel⟩), rfl, rfl⟩
  have hl4 := (hl4.mono hI6)
  refine sr_op rfl rfl (ow_callp en212 rfl (want_c H hl4 (ws := [sSemi]) hl6) ?_ ?_)
  rotate_left
  · rintro ch_ w_ hb_
    exact (hP _ _ (badP.fin hb_ hT (hI2.trans hI6) (List.Sublist.refl _))).one
  rintro _ _ ⟨l7, v7, hk_, hl7, H⟩
  rw [hk_, go_ok_] at hT
  have hw7 := hk_
  refine sr_nil ?_
  refine st_seq ?_
  refine st_region ?_
  refine sr_op rfl rfl (ow_move (v := .string s4) rfl ?_)
  refine sr_op rfl rfl (ow_assign (v := .string s4) rfl ?_)
  refine sr_nil ?_
  refine st_ret hb (hR _ _ (.string s4) (res_run (vs := [.string s4]) Tryz.results268 ⟨_, _, rfl, rfl, rfl⟩) ?_)
  exact ⟨I6, _, _, _, (hI2.trans hI6), hT, rfl, hs4, hl7, H⟩
theorem declared_c {B I L w} {x : ByteArray} {gP : Nat} (H : Hp B I w L) : Calls Tryz.prog 216 #[.pointer (some ⟨gP, 0, none⟩), .string x] w (Rt fun r w' => ∃ I' g2 g3, Le I I' ∧ Hp B I' w' L ∧ r = .func (.func 268) #[] #[.pointer (some ⟨g2, 0, none⟩), .pointer (some ⟨g3, 0, none⟩)] ∧ At I' g2 0 [.pointer (some ⟨gP, 0, none⟩)] ∧ At I' g3 0 [.string x]) := by
  refine calls_st (n := 6) Tryz.func216 rfl rfl rfl ?_
  intro G bF cs hb hfn hR hP
  simp only [ini]
  refine st_seq ?_
  refine st_region ?_
  refine sr_op rfl rfl (ow_box H (v := .pointer (some ⟨gP, 0, none⟩)) rfl [.pointer (some ⟨gP, 0, none⟩)] rfl (fun g1 _ H => ?_))
  refine sr_op rfl rfl (ow_box H (v := .string x) rfl [.string x] rfl (fun g2 _ H => ?_))
  refine sr_op rfl rfl (ow_assign (v := .nilFunc) rfl ?_)
  refine sr_nil ?_
  refine st_seq ?_
  refine st_region ?_
  refine sr_op rfl rfl (ow_makeFunc (fv := []) (cv := [.pointer (some ⟨g1, 0, none⟩), .pointer (some ⟨g2, 0, none⟩)]) rfl rfl ?_)
  refine sr_op rfl rfl (ow_assign (v := .func (.func 268) #[] #[.pointer (some ⟨g1, 0, none⟩), .pointer (some ⟨g2, 0, none⟩)]) rfl ?_)
  refine sr_nil ?_
  refine st_ret hb (hR _ _ (.func (.func 268) #[] #[.pointer (some ⟨g1, 0, none⟩), .pointer (some ⟨g2, 0, none⟩)]) (res_run (vs := [.func (.func 268) #[] #[.pointer (some ⟨g1, 0, none⟩), .pointer (some ⟨g2, 0, none⟩)]]) Tryz.results216 ⟨_, _, rfl, rfl, rfl⟩) ?_)
  obtain ⟨I3, hI3, H, hat3⟩ := freeze_at (L' := (g1, Ob [.pointer (some ⟨gP, 0, none⟩)] 180) :: L) 0 rfl H rfl
  obtain ⟨I4, hI4, H, hat4⟩ := freeze_at (L' := L) 0 rfl H rfl
  have hat3 := (hat3.mono hI4)
  exact ⟨_, rfl, I4, _, _, (hI3.trans hI4), H, rfl, hat4, hat3⟩
theorem someS_c {B I L w} {f : Nat} {gP : Nat} {e : Int} {q0 q1 q2 q3 q4 q5 q6 q7 q8 q9 : Value} {l : List Tk} {v : Value} (H : Hp B I w (paB gP v e q0 q1 q2 q3 q4 q5 q6 q7 q8 q9 :: L)) (hl : RepS encTk I 4 l v) {x : ByteArray} {g2 g3 : Nat} (h2 : At I g2 0 [.pointer (some ⟨gP, 0, none⟩)]) (h3 : At I g3 0 [.string x]) (hx : S63 x) (hf : l.length < f) (hF : f ≤ 200000) : Calls Tryz.prog 215 #[.pointer (some ⟨gP, 0, none⟩), .string x, .func (.func 268) #[] #[.pointer (some ⟨g2, 0, none⟩), .pointer (some ⟨g3, 0, none⟩)]] w (Rp (fun r w' => ∃ I' az l' v', Le I I' ∧ manyT x (declT x) f l = .ok az l' ∧ RepS encS I' 1 az r ∧ RepS encTk I' 4 l' v' ∧ Hp B I' w' (paB gP v' e q0 q1 q2 q3 q4 q5 q6 q7 q8 q9 :: L)) (fun ch w' => badP B I gP e L (manyT x (declT x) f l) ch w')) := by
  refine calls_st (n := 16) Tryz.func215 rfl rfl rfl ?_
  intro G bF cs hb hfn hR hP
  simp only [ini]
  refine st_seq ?_
  refine st_region ?_
  refine sr_op rfl rfl (ow_assign (v := .slice none 0 0) rfl ?_)
  refine sr_nil ?_
  refine st_seq ?_
  refine st_block ?_
  refine st_loop ?_
  refine st_live [0, 1, 2, 6] ?_
  refine st_ind (fun d_ m_ w_ => ∃ (f1 : Nat) (l1 : List Tk) (v1 : Value) (az : List ByteArray) (J1 : Im) (Aa_ : Option Addr) (na_ ca_ : Nat) (cs_ : List Value) (r_ : Sl), d_ = f1 + 1 ∧ m_ = (0, .pointer (some ⟨gP, 0, none⟩)) :: (1, .string x) :: (2, .func (.func 268) #[] #[.pointer (some ⟨g2, 0, none⟩), .pointer (some ⟨g3, 0, none⟩)]) :: (6, .slice Aa_ na_ ca_) :: r_ ∧ Hp B J1 w_ (paB gP v1 e q0 q1 q2 q3 q4 q5 q6 q7 q8 q9 :: (rowL (.slice Aa_ na_ ca_) cs_ 9 ++ L)) ∧ Le I J1 ∧ Acc J1 1 (.slice Aa_ na_ ca_) cs_ ((az).map encS) ∧ l1.length < f1 ∧ az.length + l1.length ≤ l.length ∧ f1 ≤ f ∧ RepS encTk J1 4 l1 v1 ∧ manyT x (declT x) f l = preT az (manyT x (declT x) f1 l1)) _ ⟨f, l, v, [], I, none, 0, 0, [], _, rfl, rfl, H, Le.refl _, Acc.none_ _ _ _, hf, by simp, Nat.le_refl _, hl, pre_nil _⟩ ?_
  rintro _ _ _ ⟨f1, l1, v1, az, J1, Aa_, na_, ca_, cs_, r2, rfl, rfl, H, hJ1, ha_, hlf, haz, hff, hl1, hT⟩ ih3
  obtain ⟨f2, rfl⟩ : ∃ f2, f1 = f2 + 1 := ⟨f1 - 1, by omega⟩
  refine st_seq ?_
  refine st_seq ?_
  refine st_region ?_
  refine sr_op rfl rfl (ow_move (v := .pointer (some ⟨gP, 0, none⟩)) rfl ?_)
  refine sr_op rfl rfl (ow_move (v := .string x) rfl ?_)
  refine sr_op rfl rfl (ow_call en267 rfl (is_c H hl1 (x := x)) ?_)
  rintro _ _ ⟨rfl, H⟩
  refine sr_nil ?_
  refine st_cond (isT x l1) rfl (fun hc4 => ?_) (fun hc4 => ?_)
  · have hy_ := hc4
    rw [many_bad hy_] at hT
    refine st_skip ?_
    refine st_block ?_
    refine st_region ?_
    refine sr_op rfl rfl (ow_move (v := .slice Aa_ na_ ca_) rfl ?_)
    refine sr_op rfl rfl (ow_move (v := .func (.func 268) #[] #[.pointer (some ⟨g2, 0, none⟩), .pointer (some ⟨g3, 0, none⟩)]) rfl ?_)
    have h2 := (h2.mono hJ1)
    have h3 := (h3.mono hJ1)
    refine sr_op rfl rfl (ow_callVp en268 (first := []) (cap := [.pointer (some ⟨g2, 0, none⟩), .pointer (some ⟨g3, 0, none⟩)]) rfl rfl (decl1_c H hl1 h2 h3 hx) ?_ ?_)
    rotate_left
    · rintro ch_ w_ hb_
      exact (hP _ _ (badP.fin hb_ hT hJ1 (List.sublist_append_right _ _))).one
    rintro _ _ ⟨I5, s5, l5, v5, hI5, hk_, rfl, hs5, hl5, H⟩
    rw [hk_, go_ok_] at hT
    have hk0 := hk_
    refine sr_op rfl rfl (ow_buildSlice H (e := 9) (ps := [(0, .string s5)]) rfl [.string s5] (fun _ => by kernel_rfl) (fun g6 _ H => ?_))
    have ha_ := (ha_.mono hI5)
    refine sr_op rfl rfl (ow_append1 sl22 ty9 rfl rfl [paB gP v5 e q0 q1 q2 q3 q4 q5 q6 q7 q8 q9] (v := .slice Aa_ na_ ca_) (cs := cs_) (L := L) H ha_ rfl rfl (((s_iff (s := s5)).2 ⟨rfl, hs5⟩)) (rfl) (rfl) (by rw [List.length_map]; omega) (by rw [List.length_map]; omega) (fun va7 cs8 _ H ha_ => ?_))
    obtain ⟨Aa9, na9, ca9, rfl⟩ := Acc.form ha_
    refine sr_op rfl rfl (ow_assign (v := .slice Aa9 na9 ca9) rfl ?_)
    refine sr_nil ?_
    refine st_inBlock ?_
    exact st_inLoop (st_live [0, 1, 2, 6] (ih3 _ _ _ (by omega) ⟨f2, l5, v5, (az ++ [s5]), I5, _, _, _, _, _, rfl, rfl, H, ((hJ1.trans hI5)), (by rw [List.map_append]; exact ha_), by have h_ := decl_less hk0; omega, by have h_ := decl_less hk0; simp only [List.length_append, List.length_singleton]; omega, by omega, hl5, hT⟩))
  · have hn_ := hc4
    refine st_exit rfl ?_
    refine st_seq ?_
    refine st_region ?_
    refine sr_op rfl rfl (ow_move (v := .slice Aa_ na_ ca_) rfl ?_)
    refine sr_op rfl rfl (ow_assign (v := .slice Aa_ na_ ca_) rfl ?_)
    refine sr_nil ?_
    refine st_ret hb (hR _ _ (.slice Aa_ na_ ca_) (res_run (vs := [.slice Aa_ na_ ca_]) Tryz.results215 ⟨_, _, rfl, rfl, rfl⟩) ?_)
    rw [many_stop hn_] at hT
    obtain ⟨I9, hI9, H9, hr_⟩ := Acc.done ha_ (H.perm (rowL_back [paB gP v1 e q0 q1 q2 q3 q4 q5 q6 q7 q8 q9] (.slice Aa_ na_ ca_) cs_ 9).symm)
    have hl1 := (hl1.mono hI9)
    exact ⟨I9, az, l1, v1, (hJ1.trans hI9), hT, hr_, hl1, H9⟩
end Go.Proofs.YtghmjnbpkobooaaGreatDoor
