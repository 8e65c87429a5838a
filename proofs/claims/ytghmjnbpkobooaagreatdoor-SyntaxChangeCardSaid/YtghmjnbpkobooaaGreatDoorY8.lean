/-
  Walks: the parser: expressions, rules.
-/
import Derived.Test.YtghmjnbpkobooaaGreatDoorY7
set_option linter.unusedVariables false
set_option linter.unusedSimpArgs false
set_option maxRecDepth 10000
set_option maxHeartbeats 4000000
namespace Go.Proofs.YtghmjnbpkobooaaGreatDoor
open Go Go.RowKit

theorem someX_eq (l : List Tk) : someX l = (nameT l).go fun s l => .ok ⟨1, 0, 0, s, []⟩ l := rfl
theorem weightX_eq (l : List Tk) : weightX l = (numT l).go fun n l => (wantsT [wOf] l).go fun _ l => (nameT l).go fun s l => .ok ⟨2, n, 0, s, []⟩ l := rfl
theorem uptoX_eq (pe : List Tk → PR Ex) (l : List Tk) : uptoX pe l = (numT l).go fun n l => (insideT pe l).go fun a l => (wantsT [wElse] l).go fun _ l => (insideT pe l).go fun b l => .ok ⟨4, n, 0, nilS, [a, b]⟩ l := rfl
theorem ofX_eq (pe : List Tk → PR Ex) (f : Nat) (l : List Tk) : ofX pe f l = (numT l).go fun n l => (wantsT [wOf, sLp] l).go fun _ l => (pe l).go fun a l => (manyT sComma (nextT pe) f l).go fun az l => (wantsT [sRp] l).go fun _ l => .ok ⟨3, n, 0, nilS, a :: az⟩ l := rfl
theorem insideT_eq (pe : List Tk → PR Ex) (l : List Tk) : insideT pe l = (wantsT [sLp] l).go fun _ l => (pe l).go fun x l => (wantsT [sRp] l).go fun _ l => .ok x l := rfl
theorem nextT_eq (pe : List Tk → PR Ex) (l : List Tk) : nextT pe l = (wantsT [sComma] l).go fun _ l => pe l := rfl
theorem ruleT_eq (f : Nat) (l : List Tk) : ruleT f l = (wantsT [wRule] l).go fun _ l => (nameT l).go fun k l => (wantsT [wThink] l).go fun _ l => (numT l).go fun n l => (wantsT [sEq] l).go fun _ l => (exprT f l).go fun x l => (wantsT [sSemi] l).go fun _ l => .ok ⟨k, 0, n, x⟩ l := rfl
theorem i64_4 : I64 4 := by constructor <;> decide
theorem many_len {α : Type} {x : ByteArray} {item : List Tk → PR α} (hi : ∀ l a r, item l = .ok a r → r.length < l.length) : ∀ (f : Nat) {l r : List Tk} {az : List α}, manyT x item f l = .ok az r → az.length + r.length ≤ l.length
  | 0, l, r, az, h => by cases h
  | f + 1, l, r, az, h => by
    rw [manyT_succ] at h
    split at h
    · obtain ⟨a, s, h1, h2⟩ := go_ok h
      obtain ⟨bz, s2, h3, h4⟩ := go_ok h2
      injection h4 with h4 h5
      subst h4
      subst h5
      have h6 := hi _ _ _ h1
      have h7 := many_len hi f h3
      simp only [List.length_cons]
      omega
    · injection h with h1 h2
      subst h1
      subst h2
      simp
theorem S63_nilS : S63 nilS := by unfold S63; decide
def ExprOk (B : World) (f : Nat) : Prop := ∀ {I : Im} {L : List (Nat × Obj)} {w : World} {gP : Nat} {e : Int} {q0 q1 q2 q3 q4 q5 q6 q7 q8 q9 : Value} {l : List Tk} {v : Value}, Hp B I w (paB gP v e q0 q1 q2 q3 q4 q5 q6 q7 q8 q9 :: L) → RepS encTk I 4 l v → l.length < f → f ≤ 200000 → Calls Tryz.prog 219 #[.pointer (some ⟨gP, 0, none⟩)] w (Rp (fun r w' => ∃ I' x us l' v', Le I I' ∧ exprT f l = .ok x l' ∧ r = .agg us.toArray ∧ RepL I' (encEx x) us ∧ RepS encTk I' 4 l' v' ∧ Hp B I' w' (paB gP v' e q0 q1 q2 q3 q4 q5 q6 q7 q8 q9 :: L)) (fun ch w' => badP B I gP e L (exprT f l) ch w'))
theorem expr1_c {B I L w} {f : Nat} (ih : ExprOk B f) {g1 : Nat} {gP : Nat} {e : Int} {q0 q1 q2 q3 q4 q5 q6 q7 q8 q9 : Value} {l : List Tk} {v : Value} (H : Hp B I w (paB gP v e q0 q1 q2 q3 q4 q5 q6 q7 q8 q9 :: L)) (hl : RepS encTk I 4 l v) (h1 : At I g1 0 [.pointer (some ⟨gP, 0, none⟩)]) (hf : l.length ≤ f) (hF : f ≤ 200000) : Calls Tryz.prog 272 #[.pointer (some ⟨g1, 0, none⟩)] w (Rp (fun r w' => ∃ I' x us l' v', Le I I' ∧ nextT (exprT f) l = .ok x l' ∧ r = .agg us.toArray ∧ RepL I' (encEx x) us ∧ RepS encTk I' 4 l' v' ∧ Hp B I' w' (paB gP v' e q0 q1 q2 q3 q4 q5 q6 q7 q8 q9 :: L)) (fun ch w' => badP B I gP e L (nextT (exprT f) l) ch w')) := by
  have hT := nextT_eq (exprT f) l
  refine calls_st (n := 7) Tryz.func272 rfl rfl rfl ?_
  intro G bF cs hb hfn hR hP
  simp only [ini]
  refine st_seq ?_
  refine st_region ?_
  refine sr_op rfl rfl (ow_alloc ty26 H [.int .i64 0, .int .i64 0, .int .i64 0, .string ⟨#[]⟩, .slice none 0 0] rfl (fun g1 _ H => ?_))
  refine sr_nil ?_
  refine st_seq ?_
  refine st_region ?_
  refine sr_op rfl rfl (ow_loadI (v := .pointer (some ⟨gP, 0, none⟩)) ty180 H rfl h1 rfl rfl rfl ?_)
  refine sr_op rfl rfl (ow_buildSlice H (e := 9) (ps := [(0, .string ⟨#[44]⟩)]) rfl [.string ⟨#[44]⟩] (fun _ => by kernel_rfl) (fun g2 _ H => ?_))
  obtain ⟨I3, hI3, H, hl3⟩ := lit_done (enc := encS) (sz := 1) (n := 1) [sComma] rfl (by omega) H ⟨((s_iff (s := sComma)).2 ⟨rfl, by unfold S63; decide +kernel⟩), rfl, rfl⟩
  have H : Hp B I3 _ (paB gP v e q0 q1 q2 q3 q4 q5 q6 q7 q8 q9 :: (g1, Ob [.int .i64 0, .int .i64 0, .int .i64 0, .string ⟨#[]⟩, .slice none 0 0] 26) :: L) := Hp.front 1 rfl H
  have hl := (hl.mono hI3)
  refine sr_op rfl rfl (ow_callp en212 rfl (want_c H hl (ws := [sComma]) hl3) ?_ ?_)
  rotate_left
  · rintro ch_ w_ hb_
    exact (hP _ _ (badP.fin hb_ hT hI3 (List.Sublist.trans (List.Sublist.refl _) (List.sublist_append_right [(g1, Ob [.int .i64 0, .int .i64 0, .int .i64 0, .string ⟨#[]⟩, .slice none 0 0] 26)] _)))).one
  rintro _ _ ⟨l4, v4, hk_, hl4, H⟩
  rw [hk_, go_ok_] at hT
  have hw4 := hk_
  have hz5 := want_less hw4
  refine sr_nil ?_
  refine st_seq ?_
  refine st_region ?_
  have h1 := (h1.mono hI3)
  refine sr_op rfl rfl (ow_loadI (v := .pointer (some ⟨gP, 0, none⟩)) ty180 H rfl h1 rfl rfl rfl ?_)
  refine sr_op rfl rfl (ow_callp en219 rfl (ih H hl4 (by omega) hF) ?_ ?_)
  rotate_left
  · rintro ch_ w_ hb_
    exact (hP _ _ (badP.fin0 hb_ hT hI3 (List.Sublist.trans (List.Sublist.refl _) (List.sublist_append_right [(g1, Ob [.int .i64 0, .int .i64 0, .int .i64 0, .string ⟨#[]⟩, .slice none 0 0] 26)] _)))).one
  rintro _ _ ⟨I6, x6, us6, l6, v6, hI6, hk_, rfl, hx6, hl6, H⟩
  rw [hk_] at hT
  have hz7 := (gp_expr f).lok hk_
  have d6 := hx6
  obtain ⟨d6v4, rfl, d6_0, d6_1, d6_2, d6_3, d6_4⟩ := ex_iff.1 hx6
  obtain ⟨d6A4, d6c4, rfl, d6m4, d6M4, d6_4⟩ := RepS.open_ d6_4
  refine sr_op rfl rfl (ow_store ty26 H rfl (v := .agg #[.int .i64 x6.kind, .int .i64 x6.n, .int .i64 x6.no, .string x6.name, .slice d6A4 x6.l.length d6c4]) rfl [.int .i64 x6.kind, .int .i64 x6.n, .int .i64 x6.no, .string x6.name, .slice d6A4 x6.l.length d6c4] rfl rfl rfl 1 rfl rfl (fun _ H => ?_))
  refine sr_nil ?_
  refine st_ret hb (hR _ _ (.agg #[.int .i64 x6.kind, .int .i64 x6.n, .int .i64 x6.no, .string x6.name, .slice d6A4 x6.l.length d6c4]) (res_run (vs := [.agg #[.int .i64 x6.kind, .int .i64 x6.n, .int .i64 x6.no, .string x6.name, .slice d6A4 x6.l.length d6c4]]) Tryz.results272 ⟨_, _, rfl, resV_own (v := .agg #[.int .i64 x6.kind, .int .i64 x6.n, .int .i64 x6.no, .string x6.name, .slice d6A4 x6.l.length d6c4]) ty26 H rfl 1 rfl rfl rfl rfl, rfl⟩) ?_)
  exact ⟨I6, x6, _, _, _, (hI3.trans hI6), hT, rfl, d6, hl6, (H.sub (List.Sublist.cons_cons _ (List.sublist_append_right [(g1, Ob [.int .i64 x6.kind, .int .i64 x6.n, .int .i64 x6.no, .string x6.name, .slice d6A4 x6.l.length d6c4] 26)] _)))⟩
theorem someE_c {B I L w} {f : Nat} {gP : Nat} {e : Int} {q0 q1 q2 q3 q4 q5 q6 q7 q8 q9 : Value} {l : List Tk} {v : Value} (H : Hp B I w (paB gP v e q0 q1 q2 q3 q4 q5 q6 q7 q8 q9 :: L)) (hl : RepS encTk I 4 l v) (ih : ExprOk B f) {g1 : Nat} (h1 : At I g1 0 [.pointer (some ⟨gP, 0, none⟩)]) (hf : l.length < f) (hF : f ≤ 200000) : Calls Tryz.prog 271 #[.pointer (some ⟨gP, 0, none⟩), .string sComma, .func (.func 272) #[] #[.pointer (some ⟨g1, 0, none⟩)]] w (Rp (fun r w' => ∃ I' az l' v', Le I I' ∧ manyT sComma (nextT (exprT f)) f l = .ok az l' ∧ RepS encEx I' 5 az r ∧ RepS encTk I' 4 l' v' ∧ Hp B I' w' (paB gP v' e q0 q1 q2 q3 q4 q5 q6 q7 q8 q9 :: L)) (fun ch w' => badP B I gP e L (manyT sComma (nextT (exprT f)) f l) ch w')) := by
  refine calls_st (n := 16) Tryz.func271 rfl rfl rfl ?_
  intro G bF cs hb hfn hR hP
  simp only [ini]
  refine st_seq ?_
  refine st_region ?_
  refine sr_op rfl rfl (ow_assign (v := .slice none 0 0) rfl ?_)
  refine sr_nil ?_
  refine st_seq ?_
  refine st_block ?_
  refine st_loop ?_
  refine st_live [0, 1, 2, 6] ?_
  refine st_ind (fun d_ m_ w_ => ∃ (f1 : Nat) (l1 : List Tk) (v1 : Value) (az : List Ex) (J1 : Im) (Aa_ : Option Addr) (na_ ca_ : Nat) (cs_ : List Value) (r_ : Sl), d_ = f1 + 1 ∧ m_ = (0, .pointer (some ⟨gP, 0, none⟩)) :: (1, .string sComma) :: (2, .func (.func 272) #[] #[.pointer (some ⟨g1, 0, none⟩)]) :: (6, .slice Aa_ na_ ca_) :: r_ ∧ Hp B J1 w_ (paB gP v1 e q0 q1 q2 q3 q4 q5 q6 q7 q8 q9 :: (rowL (.slice Aa_ na_ ca_) cs_ 26 ++ L)) ∧ Le I J1 ∧ Acc J1 5 (.slice Aa_ na_ ca_) cs_ ((az).map encEx) ∧ l1.length < f1 ∧ az.length + l1.length ≤ l.length ∧ f1 ≤ f ∧ RepS encTk J1 4 l1 v1 ∧ manyT sComma (nextT (exprT f)) f l = preT az (manyT sComma (nextT (exprT f)) f1 l1)) _ ⟨f, l, v, [], I, none, 0, 0, [], _, rfl, rfl, H, Le.refl _, Acc.none_ _ _ _, hf, by simp, Nat.le_refl _, hl, pre_nil _⟩ ?_
  rintro _ _ _ ⟨f1, l1, v1, az, J1, Aa_, na_, ca_, cs_, r2, rfl, rfl, H, hJ1, ha_, hlf, haz, hff, hl1, hT⟩ ih3
  obtain ⟨f2, rfl⟩ : ∃ f2, f1 = f2 + 1 := ⟨f1 - 1, by omega⟩
  refine st_seq ?_
  refine st_seq ?_
  refine st_region ?_
  refine sr_op rfl rfl (ow_move (v := .pointer (some ⟨gP, 0, none⟩)) rfl ?_)
  refine sr_op rfl rfl (ow_move (v := .string sComma) rfl ?_)
  refine sr_op rfl rfl (ow_call en267 rfl (is_c H hl1 (x := sComma)) ?_)
  rintro _ _ ⟨rfl, H⟩
  refine sr_nil ?_
  refine st_cond (isT sComma l1) rfl (fun hc4 => ?_) (fun hc4 => ?_)
  · have hy_ := hc4
    rw [many_bad hy_] at hT
    refine st_skip ?_
    refine st_block ?_
    refine st_region ?_
    refine sr_op rfl rfl (ow_move (v := .slice Aa_ na_ ca_) rfl ?_)
    refine sr_op rfl rfl (ow_move (v := .func (.func 272) #[] #[.pointer (some ⟨g1, 0, none⟩)]) rfl ?_)
    have h1 := (h1.mono hJ1)
    refine sr_op rfl rfl (ow_callVp en272 (first := []) (cap := [.pointer (some ⟨g1, 0, none⟩)]) rfl rfl (expr1_c ih H hl1 h1 (by omega) hF) ?_ ?_)
    rotate_left
    · rintro ch_ w_ hb_
      exact (hP _ _ (badP.fin hb_ hT hJ1 (List.sublist_append_right _ _))).one
    rintro _ _ ⟨I5, x5, us5, l5, v5, hI5, hk_, rfl, hx5, hl5, H⟩
    rw [hk_, go_ok_] at hT
    have hk0 := hk_
    have d5 := hx5
    obtain ⟨d5v4, rfl, d5_0, d5_1, d5_2, d5_3, d5_4⟩ := ex_iff.1 hx5
    obtain ⟨d5A4, d5c4, rfl, d5m4, d5M4, d5_4⟩ := RepS.open_ d5_4
    refine sr_op rfl rfl (ow_buildSlice H (e := 26) (ps := [(0, .agg #[.int .i64 x5.kind, .int .i64 x5.n, .int .i64 x5.no, .string x5.name, .slice d5A4 x5.l.length d5c4])]) rfl [.int .i64 x5.kind, .int .i64 x5.n, .int .i64 x5.no, .string x5.name, .slice d5A4 x5.l.length d5c4] (fun _ => by kernel_rfl) (fun g6 _ H => ?_))
    have ha_ := (ha_.mono hI5)
    refine sr_op rfl rfl (ow_append1 sl24 ty26 rfl rfl [paB gP v5 e q0 q1 q2 q3 q4 q5 q6 q7 q8 q9] (v := .slice Aa_ na_ ca_) (cs := cs_) (L := L) H ha_ rfl rfl (d5) (len_ex _) (plain_ex _) (by rw [List.length_map]; omega) (by rw [List.length_map]; omega) (fun va7 cs8 _ H ha_ => ?_))
    obtain ⟨Aa9, na9, ca9, rfl⟩ := Acc.form ha_
    refine sr_op rfl rfl (ow_assign (v := .slice Aa9 na9 ca9) rfl ?_)
    refine sr_nil ?_
    refine st_inBlock ?_
    exact st_inLoop (st_live [0, 1, 2, 6] (ih3 _ _ _ (by omega) ⟨f2, l5, v5, (az ++ [x5]), I5, _, _, _, _, _, rfl, rfl, H, ((hJ1.trans hI5)), (by rw [List.map_append]; exact ha_), by have h_ := next_less (gp_expr f) hk0; omega, by have h_ := next_less (gp_expr f) hk0; simp only [List.length_append, List.length_singleton]; omega, by omega, hl5, hT⟩))
  · have hn_ := hc4
    refine st_exit rfl ?_
    refine st_seq ?_
    refine st_region ?_
    refine sr_op rfl rfl (ow_move (v := .slice Aa_ na_ ca_) rfl ?_)
    refine sr_op rfl rfl (ow_assign (v := .slice Aa_ na_ ca_) rfl ?_)
    refine sr_nil ?_
    refine st_ret hb (hR _ _ (.slice Aa_ na_ ca_) (res_run (vs := [.slice Aa_ na_ ca_]) Tryz.results271 ⟨_, _, rfl, rfl, rfl⟩) ?_)
    rw [many_stop hn_] at hT
    obtain ⟨I9, hI9, H9, hr_⟩ := Acc.done ha_ (H.perm (rowL_back [paB gP v1 e q0 q1 q2 q3 q4 q5 q6 q7 q8 q9] (.slice Aa_ na_ ca_) cs_ 26).symm)
    have hl1 := (hl1.mono hI9)
    exact ⟨I9, az, l1, v1, (hJ1.trans hI9), hT, hr_, hl1, H9⟩
theorem inside_c {B I L w} {f : Nat} (ih : ExprOk B f) {gP : Nat} {e : Int} {q0 q1 q2 q3 q4 q5 q6 q7 q8 q9 : Value} {l : List Tk} {v : Value} (H : Hp B I w (paB gP v e q0 q1 q2 q3 q4 q5 q6 q7 q8 q9 :: L)) (hl : RepS encTk I 4 l v) (hf : l.length ≤ f) (hF : f ≤ 200000) : Calls Tryz.prog 270 #[.pointer (some ⟨gP, 0, none⟩)] w (Rp (fun r w' => ∃ I' x us l' v', Le I I' ∧ insideT (exprT f) l = .ok x l' ∧ r = .agg us.toArray ∧ RepL I' (encEx x) us ∧ RepS encTk I' 4 l' v' ∧ Hp B I' w' (paB gP v' e q0 q1 q2 q3 q4 q5 q6 q7 q8 q9 :: L)) (fun ch w' => badP B I gP e L (insideT (exprT f) l) ch w')) := by
  have hT := insideT_eq (exprT f) l
  refine calls_st (n := 13) Tryz.func270 rfl rfl rfl ?_
  intro G bF cs hb hfn hR hP
  simp only [ini]
  refine st_seq ?_
  refine st_region ?_
  refine sr_op rfl rfl (ow_alloc ty26 H [.int .i64 0, .int .i64 0, .int .i64 0, .string ⟨#[]⟩, .slice none 0 0] rfl (fun g1 _ H => ?_))
  refine sr_nil ?_
  refine st_seq ?_
  refine st_region ?_
  refine sr_op rfl rfl (ow_move (v := .pointer (some ⟨gP, 0, none⟩)) rfl ?_)
  refine sr_op rfl rfl (ow_buildSlice H (e := 9) (ps := [(0, .string ⟨#[40]⟩)]) rfl [.string ⟨#[40]⟩] (fun _ => by kernel_rfl) (fun g2 _ H => ?_))
  obtain ⟨I3, hI3, H, hl3⟩ := lit_done (enc := encS) (sz := 1) (n := 1) [sLp] rfl (by omega) H ⟨((s_iff (s := sLp)).2 ⟨rfl, by unfold S63; decide +kernel⟩), rfl, rfl⟩
  have H : Hp B I3 _ (paB gP v e q0 q1 q2 q3 q4 q5 q6 q7 q8 q9 :: (g1, Ob [.int .i64 0, .int .i64 0, .int .i64 0, .string ⟨#[]⟩, .slice none 0 0] 26) :: L) := Hp.front 1 rfl H
  have hl := (hl.mono hI3)
  refine sr_op rfl rfl (ow_callp en212 rfl (want_c H hl (ws := [sLp]) hl3) ?_ ?_)
  rotate_left
  · rintro ch_ w_ hb_
    exact (hP _ _ (badP.fin hb_ hT hI3 (List.Sublist.trans (List.Sublist.refl _) (List.sublist_append_right [(g1, Ob [.int .i64 0, .int .i64 0, .int .i64 0, .string ⟨#[]⟩, .slice none 0 0] 26)] _)))).one
  rintro _ _ ⟨l4, v4, hk_, hl4, H⟩
  rw [hk_, go_ok_] at hT
  have hw4 := hk_
  have hz5 := want_less hw4
  refine sr_nil ?_
  refine st_seq ?_
  refine st_region ?_
  refine sr_op rfl rfl (ow_move (v := .pointer (some ⟨gP, 0, none⟩)) rfl ?_)
  refine sr_op rfl rfl (ow_callp en219 rfl (ih H hl4 (by omega) hF) ?_ ?_)
  rotate_left
  · rintro ch_ w_ hb_
    exact (hP _ _ (badP.fin hb_ hT hI3 (List.Sublist.trans (List.Sublist.refl _) (List.sublist_append_right [(g1, Ob [.int .i64 0, .int .i64 0, .int .i64 0, .string ⟨#[]⟩, .slice none 0 0] 26)] _)))).one
  rintro _ _ ⟨I6, x6, us6, l6, v6, hI6, hk_, rfl, hx6, hl6, H⟩
  rw [hk_, go_ok_] at hT
  have hz7 := (gp_expr f).lok hk_
  have d6 := hx6
  obtain ⟨d6v4, rfl, d6_0, d6_1, d6_2, d6_3, d6_4⟩ := ex_iff.1 hx6
  obtain ⟨d6A4, d6c4, rfl, d6m4, d6M4, d6_4⟩ := RepS.open_ d6_4
  refine sr_op rfl rfl (ow_alloc ty26 H [.int .i64 0, .int .i64 0, .int .i64 0, .string ⟨#[]⟩, .slice none 0 0] rfl (fun g8 _ H => ?_))
  refine sr_op rfl rfl (ow_store ty26 H rfl (v := .agg #[.int .i64 x6.kind, .int .i64 x6.n, .int .i64 x6.no, .string x6.name, .slice d6A4 x6.l.length d6c4]) rfl [.int .i64 x6.kind, .int .i64 x6.n, .int .i64 x6.no, .string x6.name, .slice d6A4 x6.l.length d6c4] rfl rfl rfl 0 rfl rfl (fun _ H => ?_))
  refine sr_nil ?_
  refine st_seq ?_
  refine st_region ?_
  refine sr_op rfl rfl (ow_move (v := .pointer (some ⟨gP, 0, none⟩)) rfl ?_)
  refine sr_op rfl rfl (ow_buildSlice H (e := 9) (ps := [(0, .string ⟨#[41]⟩)]) rfl [.string ⟨#[41]⟩] (fun _ => by kernel_rfl) (fun g9 _ H => ?_))
  obtain ⟨I10, hI10, H, hl10⟩ := lit_done (enc := encS) (sz := 1) (n := 1) [sRp] rfl (by omega) H ⟨((s_iff (s := sRp)).2 ⟨rfl, by unfold S63; decide +kernel⟩), rfl, rfl⟩
  have H : Hp B I10 _ (paB gP v6 e q0 q1 q2 q3 q4 q5 q6 q7 q8 q9 :: (g8, Ob [.int .i64 x6.kind, .int .i64 x6.n, .int .i64 x6.no, .string x6.name, .slice d6A4 x6.l.length d6c4] 26) :: (g1, Ob [.int .i64 0, .int .i64 0, .int .i64 0, .string ⟨#[]⟩, .slice none 0 0] 26) :: L) := Hp.front 1 rfl H
  have hl6 := (hl6.mono hI10)
  refine sr_op rfl rfl (ow_callp en212 rfl (want_c H hl6 (ws := [sRp]) hl10) ?_ ?_)
  rotate_left
  · rintro ch_ w_ hb_
    exact (hP _ _ (badP.fin hb_ hT ((hI3.trans hI6).trans hI10) (List.Sublist.trans (List.Sublist.refl _) (List.sublist_append_right [(g8, Ob [.int .i64 x6.kind, .int .i64 x6.n, .int .i64 x6.no, .string x6.name, .slice d6A4 x6.l.length d6c4] 26), (g1, Ob [.int .i64 0, .int .i64 0, .int .i64 0, .string ⟨#[]⟩, .slice none 0 0] 26)] _)))).one
  rintro _ _ ⟨l11, v11, hk_, hl11, H⟩
  rw [hk_, go_ok_] at hT
  have hw11 := hk_
  have hz12 := want_less hw11
  refine sr_nil ?_
  refine st_seq ?_
  refine st_region ?_
  refine sr_op rfl rfl (ow_load (v := .agg #[.int .i64 x6.kind, .int .i64 x6.n, .int .i64 x6.no, .string x6.name, .slice d6A4 x6.l.length d6c4]) ty26 H rfl 1 rfl rfl rfl rfl ?_)
  refine sr_op rfl rfl (ow_store ty26 H rfl (v := .agg #[.int .i64 x6.kind, .int .i64 x6.n, .int .i64 x6.no, .string x6.name, .slice d6A4 x6.l.length d6c4]) rfl [.int .i64 x6.kind, .int .i64 x6.n, .int .i64 x6.no, .string x6.name, .slice d6A4 x6.l.length d6c4] rfl rfl rfl 2 rfl rfl (fun _ H => ?_))
  refine sr_nil ?_
  refine st_ret hb (hR _ _ (.agg #[.int .i64 x6.kind, .int .i64 x6.n, .int .i64 x6.no, .string x6.name, .slice d6A4 x6.l.length d6c4]) (res_run (vs := [.agg #[.int .i64 x6.kind, .int .i64 x6.n, .int .i64 x6.no, .string x6.name, .slice d6A4 x6.l.length d6c4]]) Tryz.results270 ⟨_, _, rfl, resV_own (v := .agg #[.int .i64 x6.kind, .int .i64 x6.n, .int .i64 x6.no, .string x6.name, .slice d6A4 x6.l.length d6c4]) ty26 H rfl 2 rfl rfl rfl rfl, rfl⟩) ?_)
  have d6 := (d6.mono hI10)
  exact ⟨I10, x6, _, _, _, ((hI3.trans hI6).trans hI10), hT, rfl, d6, hl11, (H.sub (List.Sublist.cons_cons _ (List.sublist_append_right [(g8, Ob [.int .i64 x6.kind, .int .i64 x6.n, .int .i64 x6.no, .string x6.name, .slice d6A4 x6.l.length d6c4] 26), (g1, Ob [.int .i64 x6.kind, .int .i64 x6.n, .int .i64 x6.no, .string x6.name, .slice d6A4 x6.l.length d6c4] 26)] _)))⟩
theorem expr_c {B : World} : ∀ (f : Nat), ExprOk B f := by
  intro f
  induction f with
  | zero =>
    intro I L w gP e q0 q1 q2 q3 q4 q5 q6 q7 q8 q9 l v H hl hf hF
    omega
  | succ f ih =>
  intro I L w gP e q0 q1 q2 q3 q4 q5 q6 q7 q8 q9 l v H hl hf hF
  have hT := exprT_succ f l
  refine calls_st (n := 61) Tryz.func219 rfl rfl rfl ?_
  intro G bF cs hb hfn hR hP
  simp only [ini]
  refine st_seq ?_
  refine st_region ?_
  refine sr_op rfl rfl (ow_box H (v := .pointer (some ⟨gP, 0, none⟩)) rfl [.pointer (some ⟨gP, 0, none⟩)] rfl (fun g1 _ H => ?_))
  obtain ⟨I2, hI2, H, hat2⟩ := freeze_at (L' := paB gP v e q0 q1 q2 q3 q4 q5 q6 q7 q8 q9 :: L) 0 rfl H rfl
  refine sr_op rfl rfl (ow_alloc ty26 H [.int .i64 0, .int .i64 0, .int .i64 0, .string ⟨#[]⟩, .slice none 0 0] rfl (fun g3 _ H => ?_))
  refine sr_nil ?_
  refine st_seq ?_
  refine st_block ?_
  refine st_seq ?_
  refine st_region ?_
  refine sr_op rfl rfl (ow_loadI (v := .pointer (some ⟨gP, 0, none⟩)) ty180 H rfl hat2 rfl rfl rfl ?_)
  have H : Hp B I2 _ (paB gP v e q0 q1 q2 q3 q4 q5 q6 q7 q8 q9 :: (g3, Ob [.int .i64 0, .int .i64 0, .int .i64 0, .string ⟨#[]⟩, .slice none 0 0] 26) :: L) := Hp.front 1 rfl H
  have hl := (hl.mono hI2)
  refine sr_op rfl rfl (ow_call en214 rfl (take_c H hl (x := wSome)) ?_)
  rintro _ _ ⟨v4, rfl, hl4, H⟩
  refine sr_op rfl rfl (ow_assign (v := .bool (isT wSome l)) rfl ?_)
  refine sr_nil ?_
  refine st_cond (isT wSome l) rfl (fun hc5 => ?_) (fun hc5 => ?_)
  · have hy_ := hc5
    rw [takeT, if_pos hy_] at hl4
    rw [if_pos hy_] at hT
    rw [someX_eq] at hT
    have hz6 := isT_len hc5
    refine st_seq ?_
    refine st_region ?_
    refine sr_op rfl rfl (ow_loadI (v := .pointer (some ⟨gP, 0, none⟩)) ty180 H rfl hat2 rfl rfl rfl ?_)
    refine sr_op rfl rfl (ow_callp en213 rfl (name_pc H hl4) ?_ ?_)
    rotate_left
    · rintro ch_ w_ hb_
      exact (hP _ _ (badP.fin hb_ hT hI2 (List.Sublist.trans (List.Sublist.refl _) (List.sublist_append_right [(g3, Ob [.int .i64 0, .int .i64 0, .int .i64 0, .string ⟨#[]⟩, .slice none 0 0] 26)] _)))).one
    rintro _ _ ⟨s7, l7, v7, hk_, rfl, hs7, hl7, H⟩
    rw [hk_, go_ok_] at hT
    have hk7 := hk_
    have hz8 := name_less hk_
    refine sr_op rfl rfl (ow_build (ps := [(0, .int .i64 1), (3, .string s7)]) (v := .agg #[.int .i64 1, .int .i64 0, .int .i64 0, .string s7, .slice none 0 0]) rfl (fun _ => by kernel_rfl) ?_)
    refine sr_op rfl rfl (ow_store ty26 H rfl (v := .agg #[.int .i64 1, .int .i64 0, .int .i64 0, .string s7, .slice none 0 0]) rfl [.int .i64 1, .int .i64 0, .int .i64 0, .string s7, .slice none 0 0] rfl rfl rfl 1 rfl rfl (fun _ H => ?_))
    refine sr_nil ?_
    refine st_ret hb (hR _ _ (.agg #[.int .i64 1, .int .i64 0, .int .i64 0, .string s7, .slice none 0 0]) (res_run (vs := [.agg #[.int .i64 1, .int .i64 0, .int .i64 0, .string s7, .slice none 0 0]]) Tryz.results219 ⟨_, _, rfl, resV_own (v := .agg #[.int .i64 1, .int .i64 0, .int .i64 0, .string s7, .slice none 0 0]) ty26 H rfl 1 rfl rfl rfl rfl, rfl⟩) ?_)
    exact ⟨I2, (Ex.mk 1 0 0 s7 []), _, _, _, hI2, hT, rfl, ((ex_iff (x := (Ex.mk 1 0 0 s7 []))).2 ⟨_, rfl, i64_1, i64_0, i64_0, hs7, RepS.nil _ _ _⟩), hl7, (H.sub (List.Sublist.cons_cons _ (List.sublist_append_right [(g3, Ob [.int .i64 1, .int .i64 0, .int .i64 0, .string s7, .slice none 0 0] 26)] _)))⟩
  · have hn_ := hc5
    rw [takeT, if_neg (by rw [hn_]; decide)] at hl4
    rw [if_neg (by rw [hn_]; decide)] at hT
    skip
    refine st_seq ?_
    refine st_region ?_
    refine sr_op rfl rfl (ow_loadI (v := .pointer (some ⟨gP, 0, none⟩)) ty180 H rfl hat2 rfl rfl rfl ?_)
    refine sr_op rfl rfl (ow_call en214 rfl (take_c H hl4 (x := wWeight)) ?_)
    rintro _ _ ⟨v9, rfl, hl9, H⟩
    refine sr_op rfl rfl (ow_assign (v := .bool (isT wWeight l)) rfl ?_)
    refine sr_nil ?_
    refine st_cond (isT wWeight l) rfl (fun hc10 => ?_) (fun hc10 => ?_)
    · have hy_ := hc10
      rw [takeT, if_pos hy_] at hl9
      rw [if_pos hy_] at hT
      rw [weightX_eq] at hT
      have hz11 := isT_len hc10
      refine st_seq ?_
      refine st_region ?_
      refine sr_op rfl rfl (ow_loadI (v := .pointer (some ⟨gP, 0, none⟩)) ty180 H rfl hat2 rfl rfl rfl ?_)
      refine sr_op rfl rfl (ow_callp en269 rfl (number_pc H hl9) ?_ ?_)
      rotate_left
      · rintro ch_ w_ hb_
        exact (hP _ _ (badP.fin hb_ hT hI2 (List.Sublist.trans (List.Sublist.refl _) (List.sublist_append_right [(g3, Ob [.int .i64 0, .int .i64 0, .int .i64 0, .string ⟨#[]⟩, .slice none 0 0] 26)] _)))).one
      rintro _ _ ⟨n12, l12, v12, hk_, rfl, hn12, hl12, H⟩
      rw [hk_, go_ok_] at hT
      have hk12 := hk_
      have hz13 := num_less hk_
      refine sr_op rfl rfl (ow_build (ps := [(0, .int .i64 2), (1, .int .i64 n12)]) (v := .agg #[.int .i64 2, .int .i64 n12, .int .i64 0, .string ⟨#[]⟩, .slice none 0 0]) rfl (fun _ => by kernel_rfl) ?_)
      refine sr_op rfl rfl (ow_store ty26 H rfl (v := .agg #[.int .i64 2, .int .i64 n12, .int .i64 0, .string ⟨#[]⟩, .slice none 0 0]) rfl [.int .i64 2, .int .i64 n12, .int .i64 0, .string ⟨#[]⟩, .slice none 0 0] rfl rfl rfl 1 rfl rfl (fun _ H => ?_))
      refine sr_nil ?_
      refine st_seq ?_
      refine st_region ?_
      refine sr_op rfl rfl (ow_loadI (v := .pointer (some ⟨gP, 0, none⟩)) ty180 H rfl hat2 rfl rfl rfl ?_)
      refine sr_op rfl rfl (ow_buildSlice H (e := 9) (ps := [(0, .string ⟨#[111, 102]⟩)]) rfl [.string ⟨#[111, 102]⟩] (fun _ => by kernel_rfl) (fun g14 _ H => ?_))
      obtain ⟨I15, hI15, H, hl15⟩ := lit_done (enc := encS) (sz := 1) (n := 1) [wOf] rfl (by omega) H ⟨((s_iff (s := wOf)).2 ⟨rfl, by unfold S63; decide +kernel⟩), rfl, rfl⟩
      have hl12 := (hl12.mono hI15)
      refine sr_op rfl rfl (ow_callp en212 rfl (want_c H hl12 (ws := [wOf]) hl15) ?_ ?_)
      rotate_left
      · rintro ch_ w_ hb_
        exact (hP _ _ (badP.fin hb_ hT (hI2.trans hI15) (List.Sublist.trans (List.Sublist.refl _) (List.sublist_append_right [(g3, Ob [.int .i64 2, .int .i64 n12, .int .i64 0, .string ⟨#[]⟩, .slice none 0 0] 26)] _)))).one
      rintro _ _ ⟨l16, v16, hk_, hl16, H⟩
      rw [hk_, go_ok_] at hT
      have hw16 := hk_
      have hz17 := want_less hw16
      refine sr_nil ?_
      refine st_region ?_
      have hat2 := (hat2.mono hI15)
      refine sr_op rfl rfl (ow_loadI (v := .pointer (some ⟨gP, 0, none⟩)) ty180 H rfl hat2 rfl rfl rfl ?_)
      refine sr_op rfl rfl (ow_callp en213 rfl (name_pc H hl16) ?_ ?_)
      rotate_left
      · rintro ch_ w_ hb_
        exact (hP _ _ (badP.fin hb_ hT (hI2.trans hI15) (List.Sublist.trans (List.Sublist.refl _) (List.sublist_append_right [(g3, Ob [.int .i64 2, .int .i64 n12, .int .i64 0, .string ⟨#[]⟩, .slice none 0 0] 26)] _)))).one
      rintro _ _ ⟨s18, l18, v18, hk_, rfl, hs18, hl18, H⟩
      rw [hk_, go_ok_] at hT
      have hk18 := hk_
      have hz19 := name_less hk_
      refine sr_op rfl rfl (ow_fieldAddr fd26_3 ty9 rfl rfl (r := 3) rfl ?_)
      refine sr_op rfl rfl (ow_store ty9 H rfl (v := .string s18) rfl [.string s18] rfl rfl rfl 1 rfl rfl (fun _ H => ?_))
      refine sr_nil ?_
      refine st_inBlock ?_
      refine st_seq ?_
      refine st_region ?_
      refine sr_op rfl rfl (ow_load (v := .agg #[.int .i64 2, .int .i64 n12, .int .i64 0, .string s18, .slice none 0 0]) ty26 H rfl 1 rfl rfl rfl rfl ?_)
      refine sr_op rfl rfl (ow_store ty26 H rfl (v := .agg #[.int .i64 2, .int .i64 n12, .int .i64 0, .string s18, .slice none 0 0]) rfl [.int .i64 2, .int .i64 n12, .int .i64 0, .string s18, .slice none 0 0] rfl rfl rfl 1 rfl rfl (fun _ H => ?_))
      refine sr_nil ?_
      refine st_ret hb (hR _ _ (.agg #[.int .i64 2, .int .i64 n12, .int .i64 0, .string s18, .slice none 0 0]) (res_run (vs := [.agg #[.int .i64 2, .int .i64 n12, .int .i64 0, .string s18, .slice none 0 0]]) Tryz.results219 ⟨_, _, rfl, resV_own (v := .agg #[.int .i64 2, .int .i64 n12, .int .i64 0, .string s18, .slice none 0 0]) ty26 H rfl 1 rfl rfl rfl rfl, rfl⟩) ?_)
      exact ⟨I15, (Ex.mk 2 n12 0 s18 []), _, _, _, (hI2.trans hI15), hT, rfl, ((ex_iff (x := (Ex.mk 2 n12 0 s18 []))).2 ⟨_, rfl, i64_2, hn12, i64_0, hs18, RepS.nil _ _ _⟩), hl18, (H.sub (List.Sublist.cons_cons _ (List.sublist_append_right [(g3, Ob [.int .i64 2, .int .i64 n12, .int .i64 0, .string s18, .slice none 0 0] 26)] _)))⟩
    · have hn_ := hc10
      rw [takeT, if_neg (by rw [hn_]; decide)] at hl9
      rw [if_neg (by rw [hn_]; decide)] at hT
      skip
      refine st_seq ?_
      refine st_region ?_
      refine sr_op rfl rfl (ow_loadI (v := .pointer (some ⟨gP, 0, none⟩)) ty180 H rfl hat2 rfl rfl rfl ?_)
      refine sr_op rfl rfl (ow_call en214 rfl (take_c H hl9 (x := wUpto)) ?_)
      rintro _ _ ⟨v20, rfl, hl20, H⟩
      refine sr_op rfl rfl (ow_assign (v := .bool (isT wUpto l)) rfl ?_)
      refine sr_nil ?_
      refine st_cond (isT wUpto l) rfl (fun hc21 => ?_) (fun hc21 => ?_)
      · have hy_ := hc21
        rw [takeT, if_pos hy_] at hl20
        rw [if_pos hy_] at hT
        rw [uptoX_eq] at hT
        have hz22 := isT_len hc21
        refine st_seq ?_
        refine st_draw (F := (fun w_ => ∃ Iq_, Le I2 Iq_ ∧ Hp B Iq_ w_ [paB gP v20 e q0 q1 q2 q3 q4 q5 q6 q7 q8 q9, (g3, Ob [.int .i64 0, .int .i64 0, .int .i64 0, .string ⟨#[]⟩, .slice none 0 0] 26)])) (p0 := [0, 2]) (plan := [(1, [], [2]), (3, [], []), (4, [5], []), (6, [], [])]) [] [] [(46, .pointer (some ⟨gP, 0, none⟩)), (44, .pointer (some ⟨gP, 0, none⟩))] (by kernel_rfl) rfl ?_ ⟨_, Le.refl _, H.drew.pick [0, 1] (by decide)⟩ ?_
        · refine ⟨kn_op rfl rfl (wantB_none rfl) fun _ hF2 => ?_, ?_⟩
          · obtain ⟨_, hle2, H2⟩ := hF2
            refine  (ow_loadI (v := .pointer (some ⟨gP, 0, none⟩)) ty180 H2 rfl (At.mono hle2 hat2) rfl rfl rfl ?_)
            exact ⟨rfl, rfl⟩
          refine ⟨kn_op rfl rfl (wantB_none rfl) fun _ hF2 => ?_, ?_⟩
          · obtain ⟨_, hle2, H2⟩ := hF2
            refine  (ow_loadI (v := .pointer (some ⟨gP, 0, none⟩)) ty180 H2 rfl (At.mono hle2 hat2) rfl rfl rfl ?_)
            exact ⟨rfl, rfl⟩
          exact trivial
        have H := H.drew
        refine cw_op rfl (wantB_none rfl) (ow_callp en269 rfl (number_pc H hl20) ?_ ?_)
        rotate_left
        · rintro ch_ w_ hb_
          exact (hP _ _ (badP.fin hb_ hT hI2 (List.Sublist.trans (List.Sublist.refl _) (List.sublist_append_right [(g3, Ob [.int .i64 0, .int .i64 0, .int .i64 0, .string ⟨#[]⟩, .slice none 0 0] 26)] _))))
        rintro _ _ ⟨n23, l23, v23, hk_, rfl, hn23, hl23, H⟩
        rw [hk_, go_ok_] at hT
        have hk23 := hk_
        have hz24 := num_less hk_
        refine af_some [] (fun w_ => ∃ Iq_, Le I2 Iq_ ∧ Hp B Iq_ w_ [paB gP v23 e q0 q1 q2 q3 q4 q5 q6 q7 q8 q9, (g3, Ob [.int .i64 0, .int .i64 0, .int .i64 0, .string ⟨#[]⟩, .slice none 0 0] 26)]) rfl ⟨_, Le.refl _, H.pick [0, 1] (by decide)⟩ ?_ ?_
        · refine ⟨kn_op rfl rfl (wantB_none rfl) fun _ hF2 => ?_, ?_⟩
          · obtain ⟨_, hle2, H2⟩ := hF2
            refine  (ow_loadI (v := .pointer (some ⟨gP, 0, none⟩)) ty180 H2 rfl (At.mono hle2 hat2) rfl rfl rfl ?_)
            exact ⟨rfl, rfl⟩
          exact trivial
        refine cw_op rfl (wantB_none rfl) (ow_callp en270 rfl (inside_c ih H hl23 (by omega) (by omega)) ?_ ?_)
        rotate_left
        · rintro ch_ w_ hb_
          exact (hP _ _ (badP.fin hb_ hT hI2 (List.Sublist.trans (List.Sublist.refl _) (List.sublist_append_right [(g3, Ob [.int .i64 0, .int .i64 0, .int .i64 0, .string ⟨#[]⟩, .slice none 0 0] 26)] _))))
        rintro _ _ ⟨I25, x25, us25, l25, v25, hI25, hk_, rfl, hx25, hl25, H⟩
        rw [hk_, go_ok_] at hT
        have hz26 := (gp_inside (gp_expr f)).lok hk_
        have d25 := hx25
        obtain ⟨d25v4, rfl, d25_0, d25_1, d25_2, d25_3, d25_4⟩ := ex_iff.1 hx25
        obtain ⟨d25A4, d25c4, rfl, d25m4, d25M4, d25_4⟩ := RepS.open_ d25_4
        refine af_none ?_
        refine cw_op rfl (wantB_none rfl) (ow_buildSlice H (e := 26) (ps := [(0, .agg #[.int .i64 x25.kind, .int .i64 x25.n, .int .i64 x25.no, .string x25.name, .slice d25A4 x25.l.length d25c4])]) rfl [.int .i64 x25.kind, .int .i64 x25.n, .int .i64 x25.no, .string x25.name, .slice d25A4 x25.l.length d25c4] (fun _ => by kernel_rfl) (fun g27 _ H => ?_))
        refine af_some [(49, .agg #[.int .i64 4, .int .i64 n23, .int .i64 0, .string ⟨#[]⟩, .slice (some ⟨g27, 0, none⟩) 1 1])] (fun w_ => ∃ Iq_, Le I25 Iq_ ∧ Hp B Iq_ w_ [(g27, Ob [.int .i64 x25.kind, .int .i64 x25.n, .int .i64 x25.no, .string x25.name, .slice d25A4 x25.l.length d25c4] 26), paB gP v25 e q0 q1 q2 q3 q4 q5 q6 q7 q8 q9, (g3, Ob [.int .i64 0, .int .i64 0, .int .i64 0, .string ⟨#[]⟩, .slice none 0 0] 26)]) rfl ⟨_, Le.refl _, H.pick [0, 1, 2] (by decide)⟩ ?_ ?_
        · refine ⟨kn_op rfl rfl (wantB_none rfl) fun _ hF2 => ?_, ?_⟩
          · obtain ⟨_, hle2, H2⟩ := hF2
            refine  (ow_build (ps := [(0, .int .i64 4), (1, .int .i64 n23), (4, .slice (some ⟨g27, 0, none⟩) 1 1)]) (v := .agg #[.int .i64 4, .int .i64 n23, .int .i64 0, .string ⟨#[]⟩, .slice (some ⟨g27, 0, none⟩) 1 1]) rfl (fun _ => by kernel_rfl) ?_)
            exact ⟨rfl, rfl⟩
          exact trivial
        refine cw_op rfl (wantB_none rfl) (ow_store ty26 H rfl (v := .agg #[.int .i64 4, .int .i64 n23, .int .i64 0, .string ⟨#[]⟩, .slice (some ⟨g27, 0, none⟩) 1 1]) rfl [.int .i64 4, .int .i64 n23, .int .i64 0, .string ⟨#[]⟩, .slice (some ⟨g27, 0, none⟩) 1 1] rfl rfl rfl 2 rfl rfl (fun _ H => ?_))
        refine af_none ?_
        refine cw_nil ?_
        refine st_seq ?_
        refine st_region ?_
        have hat2 := (hat2.mono hI25)
        refine sr_op rfl rfl (ow_loadI (v := .pointer (some ⟨gP, 0, none⟩)) ty180 H rfl hat2 rfl rfl rfl ?_)
        refine sr_op rfl rfl (ow_buildSlice H (e := 9) (ps := [(0, .string ⟨#[101, 108, 115, 101]⟩)]) rfl [.string ⟨#[101, 108, 115, 101]⟩] (fun _ => by kernel_rfl) (fun g28 _ H => ?_))
        obtain ⟨I29, hI29, H, hl29⟩ := lit_done (enc := encS) (sz := 1) (n := 1) [wElse] rfl (by omega) H ⟨((s_iff (s := wElse)).2 ⟨rfl, by unfold S63; decide +kernel⟩), rfl, rfl⟩
        have H : Hp B I29 _ (paB gP v25 e q0 q1 q2 q3 q4 q5 q6 q7 q8 q9 :: (g27, Ob [.int .i64 x25.kind, .int .i64 x25.n, .int .i64 x25.no, .string x25.name, .slice d25A4 x25.l.length d25c4] 26) :: (g3, Ob [.int .i64 4, .int .i64 n23, .int .i64 0, .string ⟨#[]⟩, .slice (some ⟨g27, 0, none⟩) 1 1] 26) :: L) := Hp.front 1 rfl H
        have hl25 := (hl25.mono hI29)
        refine sr_op rfl rfl (ow_callp en212 rfl (want_c H hl25 (ws := [wElse]) hl29) ?_ ?_)
        rotate_left
        · rintro ch_ w_ hb_
          exact (hP _ _ (badP.fin hb_ hT ((hI2.trans hI25).trans hI29) (List.Sublist.trans (List.Sublist.refl _) (List.sublist_append_right [(g27, Ob [.int .i64 x25.kind, .int .i64 x25.n, .int .i64 x25.no, .string x25.name, .slice d25A4 x25.l.length d25c4] 26), (g3, Ob [.int .i64 4, .int .i64 n23, .int .i64 0, .string ⟨#[]⟩, .slice (some ⟨g27, 0, none⟩) 1 1] 26)] _)))).one
        rintro _ _ ⟨l30, v30, hk_, hl30, H⟩
        rw [hk_, go_ok_] at hT
        have hw30 := hk_
        have hz31 := want_less hw30
        refine sr_nil ?_
        have hat2 := (hat2.mono hI29)
        refine st_draw (F := (fun w_ => ∃ Iq_, Le I29 Iq_ ∧ Hp B Iq_ w_ [paB gP v30 e q0 q1 q2 q3 q4 q5 q6 q7 q8 q9, (g27, Ob [.int .i64 x25.kind, .int .i64 x25.n, .int .i64 x25.no, .string x25.name, .slice d25A4 x25.l.length d25c4] 26), (g3, Ob [.int .i64 4, .int .i64 n23, .int .i64 0, .string ⟨#[]⟩, .slice (some ⟨g27, 0, none⟩) 1 1] 26)])) (p0 := [0, 1, 2]) (plan := [(3, [], [0, 1]), (4, [], [0, 1]), (5, [6], []), (7, [], [])]) [] [] [(55, .pointer (some ⟨gP, 0, none⟩)), (54, .slice (some ⟨g27, 0, none⟩) 1 1), (53, .pointer (some ⟨g3, 4, none⟩))] (by kernel_rfl) rfl ?_ ⟨_, Le.refl _, H.drew.pick [0, 1, 2] (by decide)⟩ ?_
        · refine ⟨kn_op rfl rfl (wantB_none rfl) fun _ hF2 => ?_, ?_⟩
          · obtain ⟨_, hle2, H2⟩ := hF2
            refine  (ow_fieldAddr fd26_4 ty24 rfl rfl (r := 4) rfl ?_)
            exact ⟨rfl, rfl⟩
          refine ⟨kn_op rfl rfl (wantB_none rfl) fun _ hF2 => ?_, ?_⟩
          · obtain ⟨_, hle2, H2⟩ := hF2
            refine  (ow_load (v := .slice (some ⟨g27, 0, none⟩) 1 1) ty24 H2 rfl 2 rfl rfl rfl rfl ?_)
            exact ⟨rfl, rfl⟩
          refine ⟨kn_op rfl rfl (wantB_none rfl) fun _ hF2 => ?_, ?_⟩
          · obtain ⟨_, hle2, H2⟩ := hF2
            refine  (ow_loadI (v := .pointer (some ⟨gP, 0, none⟩)) ty180 H2 rfl (At.mono hle2 hat2) rfl rfl rfl ?_)
            exact ⟨rfl, rfl⟩
          exact trivial
        have H := H.drew
        refine cw_op rfl (wantB_none rfl) (ow_callp en270 rfl (inside_c ih H hl30 (by omega) (by omega)) ?_ ?_)
        rotate_left
        · rintro ch_ w_ hb_
          exact (hP _ _ (badP.fin hb_ hT ((hI2.trans hI25).trans hI29) (List.Sublist.trans (List.Sublist.refl _) (List.sublist_append_right [(g27, Ob [.int .i64 x25.kind, .int .i64 x25.n, .int .i64 x25.no, .string x25.name, .slice d25A4 x25.l.length d25c4] 26), (g3, Ob [.int .i64 4, .int .i64 n23, .int .i64 0, .string ⟨#[]⟩, .slice (some ⟨g27, 0, none⟩) 1 1] 26)] _))))
        rintro _ _ ⟨I32, x32, us32, l32, v32, hI32, hk_, rfl, hx32, hl32, H⟩
        rw [hk_, go_ok_] at hT
        have hz33 := (gp_inside (gp_expr f)).lok hk_
        have d32 := hx32
        obtain ⟨d32v4, rfl, d32_0, d32_1, d32_2, d32_3, d32_4⟩ := ex_iff.1 hx32
        obtain ⟨d32A4, d32c4, rfl, d32m4, d32M4, d32_4⟩ := RepS.open_ d32_4
        refine af_some [] (fun w_ => ∃ Iq_, Le I32 Iq_ ∧ Hp B Iq_ w_ [paB gP v32 e q0 q1 q2 q3 q4 q5 q6 q7 q8 q9, (g27, Ob [.int .i64 x25.kind, .int .i64 x25.n, .int .i64 x25.no, .string x25.name, .slice d25A4 x25.l.length d25c4] 26), (g3, Ob [.int .i64 4, .int .i64 n23, .int .i64 0, .string ⟨#[]⟩, .slice (some ⟨g27, 0, none⟩) 1 1] 26)]) rfl ⟨_, Le.refl _, H.pick [0, 1, 2] (by decide)⟩ ?_ ?_
        · refine ⟨kn_op rfl rfl (wantB_none rfl) fun _ hF2 => ?_, ?_⟩
          · obtain ⟨_, hle2, H2⟩ := hF2
            refine  (ow_fieldAddr fd26_4 ty24 rfl rfl (r := 4) rfl ?_)
            exact ⟨rfl, rfl⟩
          refine ⟨kn_op rfl rfl (wantB_none rfl) fun _ hF2 => ?_, ?_⟩
          · obtain ⟨_, hle2, H2⟩ := hF2
            refine  (ow_load (v := .slice (some ⟨g27, 0, none⟩) 1 1) ty24 H2 rfl 2 rfl rfl rfl rfl ?_)
            exact ⟨rfl, rfl⟩
          exact trivial
        refine cw_op rfl (wantB_none rfl) (ow_buildSlice H (e := 26) (ps := [(0, .agg #[.int .i64 x32.kind, .int .i64 x32.n, .int .i64 x32.no, .string x32.name, .slice d32A4 x32.l.length d32c4])]) rfl [.int .i64 x32.kind, .int .i64 x32.n, .int .i64 x32.no, .string x32.name, .slice d32A4 x32.l.length d32c4] (fun _ => by kernel_rfl) (fun g34 _ H => ?_))
        refine af_some [] (fun w_ => ∃ Iq_, Le I32 Iq_ ∧ Hp B Iq_ w_ [(g34, Ob [.int .i64 x32.kind, .int .i64 x32.n, .int .i64 x32.no, .string x32.name, .slice d32A4 x32.l.length d32c4] 26), paB gP v32 e q0 q1 q2 q3 q4 q5 q6 q7 q8 q9, (g27, Ob [.int .i64 x25.kind, .int .i64 x25.n, .int .i64 x25.no, .string x25.name, .slice d25A4 x25.l.length d25c4] 26), (g3, Ob [.int .i64 4, .int .i64 n23, .int .i64 0, .string ⟨#[]⟩, .slice (some ⟨g27, 0, none⟩) 1 1] 26)]) rfl ⟨_, Le.refl _, H.pick [0, 1, 2, 3] (by decide)⟩ ?_ ?_
        · refine ⟨kn_op rfl rfl (wantB_none rfl) fun _ hF2 => ?_, ?_⟩
          · obtain ⟨_, hle2, H2⟩ := hF2
            refine  (ow_fieldAddr fd26_4 ty24 rfl rfl (r := 4) rfl ?_)
            exact ⟨rfl, rfl⟩
          refine ⟨kn_op rfl rfl (wantB_none rfl) fun _ hF2 => ?_, ?_⟩
          · obtain ⟨_, hle2, H2⟩ := hF2
            refine  (ow_load (v := .slice (some ⟨g27, 0, none⟩) 1 1) ty24 H2 rfl 3 rfl rfl rfl rfl ?_)
            exact ⟨rfl, rfl⟩
          exact trivial
        have d25 := ((d25.mono hI29).mono hI32)
        have H : Hp B I32 _ ((g27, Ob [.int .i64 x25.kind, .int .i64 x25.n, .int .i64 x25.no, .string x25.name, .slice d25A4 x25.l.length d25c4] 26) :: (g34, Ob [.int .i64 x32.kind, .int .i64 x32.n, .int .i64 x32.no, .string x32.name, .slice d32A4 x32.l.length d32c4] 26) :: paB gP v32 e q0 q1 q2 q3 q4 q5 q6 q7 q8 q9 :: (g3, Ob [.int .i64 4, .int .i64 n23, .int .i64 0, .string ⟨#[]⟩, .slice (some ⟨g27, 0, none⟩) 1 1] 26) :: L) := Hp.front 2 rfl H
        have H : Hp B I32 _ ((g34, Ob [.int .i64 x32.kind, .int .i64 x32.n, .int .i64 x32.no, .string x32.name, .slice d32A4 x32.l.length d32c4] 26) :: paB gP v32 e q0 q1 q2 q3 q4 q5 q6 q7 q8 q9 :: (g3, Ob [.int .i64 4, .int .i64 n23, .int .i64 0, .string ⟨#[]⟩, .slice (some ⟨g27, 0, none⟩) 1 1] 26) :: (rowL (.slice (some ⟨g27, 0, none⟩) 1 1) [.int .i64 x25.kind, .int .i64 x25.n, .int .i64 x25.no, .string x25.name, .slice d25A4 x25.l.length d25c4] 26 ++ L)) := Hp.perm H (rowL_back [(g34, Ob [.int .i64 x32.kind, .int .i64 x32.n, .int .i64 x32.no, .string x32.name, .slice d32A4 x32.l.length d32c4] 26), paB gP v32 e q0 q1 q2 q3 q4 q5 q6 q7 q8 q9, (g3, Ob [.int .i64 4, .int .i64 n23, .int .i64 0, .string ⟨#[]⟩, .slice (some ⟨g27, 0, none⟩) 1 1] 26)] (.slice (some ⟨g27, 0, none⟩) 1 1) [.int .i64 x25.kind, .int .i64 x25.n, .int .i64 x25.no, .string x25.name, .slice d25A4 x25.l.length d25c4] 26)
        have ha_ : Acc I32 5 (.slice (some ⟨g27, 0, none⟩) 1 1) [.int .i64 x25.kind, .int .i64 x25.n, .int .i64 x25.no, .string x25.name, .slice d25A4 x25.l.length d25c4] [encEx x25] := acc_lit1 d25 (Nat.eq_of_beq_eq_true (len_ex _))
        refine cw_op rfl (wantB_none rfl) (ow_append1 sl24 ty26 rfl rfl [paB gP v32 e q0 q1 q2 q3 q4 q5 q6 q7 q8 q9, (g3, Ob [.int .i64 4, .int .i64 n23, .int .i64 0, .string ⟨#[]⟩, .slice (some ⟨g27, 0, none⟩) 1 1] 26)] (v := .slice (some ⟨g27, 0, none⟩) 1 1) (cs := [.int .i64 x25.kind, .int .i64 x25.n, .int .i64 x25.no, .string x25.name, .slice d25A4 x25.l.length d25c4]) (L := L) H ha_ rfl rfl (d32) (len_ex _) (plain_ex _) (by simp only [List.length_singleton]; omega) (by simp only [List.length_singleton]; omega) (fun va35 cs36 _ H ha_ => ?_))
        obtain ⟨Aa37, na37, ca37, rfl⟩ := Acc.form ha_
        refine af_some [(59, .pointer (some ⟨g3, 4, none⟩))] (fun w_ => ∃ Iq_, Le I32 Iq_ ∧ Hp B Iq_ w_ [paB gP v32 e q0 q1 q2 q3 q4 q5 q6 q7 q8 q9, (g3, Ob [.int .i64 4, .int .i64 n23, .int .i64 0, .string ⟨#[]⟩, .slice (some ⟨g27, 0, none⟩) 1 1] 26)]) rfl ⟨_, Le.refl _, H.pick [0, 1] (by decide)⟩ ?_ ?_
        · refine ⟨kn_op rfl rfl (wantB_none rfl) fun _ hF2 => ?_, ?_⟩
          · obtain ⟨_, hle2, H2⟩ := hF2
            refine  (ow_fieldAddr fd26_4 ty24 rfl rfl (r := 4) rfl ?_)
            exact ⟨rfl, rfl⟩
          exact trivial
        refine cw_op rfl (wantB_none rfl) (ow_store ty24 H rfl (v := .slice Aa37 na37 ca37) rfl [.slice Aa37 na37 ca37] rfl rfl rfl 1 rfl rfl (fun _ H => ?_))
        refine af_none ?_
        refine cw_nil ?_
        refine st_inBlock ?_
        refine st_seq ?_
        refine st_region ?_
        refine sr_op rfl rfl (ow_load (v := .agg #[.int .i64 4, .int .i64 n23, .int .i64 0, .string ⟨#[]⟩, .slice Aa37 na37 ca37]) ty26 H rfl 1 rfl rfl rfl rfl ?_)
        refine sr_op rfl rfl (ow_store ty26 H rfl (v := .agg #[.int .i64 4, .int .i64 n23, .int .i64 0, .string ⟨#[]⟩, .slice Aa37 na37 ca37]) rfl [.int .i64 4, .int .i64 n23, .int .i64 0, .string ⟨#[]⟩, .slice Aa37 na37 ca37] rfl rfl rfl 1 rfl rfl (fun _ H => ?_))
        refine sr_nil ?_
        refine st_ret hb (hR _ _ (.agg #[.int .i64 4, .int .i64 n23, .int .i64 0, .string ⟨#[]⟩, .slice Aa37 na37 ca37]) (res_run (vs := [.agg #[.int .i64 4, .int .i64 n23, .int .i64 0, .string ⟨#[]⟩, .slice Aa37 na37 ca37]]) Tryz.results219 ⟨_, _, rfl, resV_own (v := .agg #[.int .i64 4, .int .i64 n23, .int .i64 0, .string ⟨#[]⟩, .slice Aa37 na37 ca37]) ty26 H rfl 1 rfl rfl rfl rfl, rfl⟩) ?_)
        obtain ⟨I9, hI9, H, hr_⟩ := Acc.done ha_ (H.perm (rowL_back [paB gP v32 e q0 q1 q2 q3 q4 q5 q6 q7 q8 q9, (g3, Ob [.int .i64 4, .int .i64 n23, .int .i64 0, .string ⟨#[]⟩, .slice Aa37 na37 ca37] 26)] (.slice Aa37 na37 ca37) cs36 26).symm)
        have hr_ : RepS encEx I9 5 [x25, x32] (.slice Aa37 na37 ca37) := hr_
        have H : Hp B I9 _ (paB gP v32 e q0 q1 q2 q3 q4 q5 q6 q7 q8 q9 :: (g3, Ob [.int .i64 4, .int .i64 n23, .int .i64 0, .string ⟨#[]⟩, .slice Aa37 na37 ca37] 26) :: L) := H
        have hl32 := (hl32.mono hI9)
        exact ⟨I9, (Ex.mk 4 n23 0 nilS [x25, x32]), _, _, _, ((((hI2.trans hI25).trans hI29).trans hI32).trans hI9), hT, rfl, ((ex_iff (x := (Ex.mk 4 n23 0 nilS [x25, x32]))).2 ⟨_, rfl, i64_4, hn23, i64_0, S63_nilS, hr_⟩), hl32, (H.sub (List.Sublist.cons_cons _ (List.sublist_append_right [(g3, Ob [.int .i64 4, .int .i64 n23, .int .i64 0, .string ⟨#[]⟩, .slice Aa37 na37 ca37] 26)] _)))⟩
      · have hn_ := hc21
        rw [takeT, if_neg (by rw [hn_]; decide)] at hl20
        rw [if_neg (by rw [hn_]; decide)] at hT
        rw [ofX_eq] at hT
        refine st_seq ?_
        refine st_region ?_
        refine sr_op rfl rfl (ow_loadI (v := .pointer (some ⟨gP, 0, none⟩)) ty180 H rfl hat2 rfl rfl rfl ?_)
        refine sr_op rfl rfl (ow_callp en269 rfl (number_pc H hl20) ?_ ?_)
        rotate_left
        · rintro ch_ w_ hb_
          exact (hP _ _ (badP.fin hb_ hT hI2 (List.Sublist.trans (List.Sublist.refl _) (List.sublist_append_right [(g3, Ob [.int .i64 0, .int .i64 0, .int .i64 0, .string ⟨#[]⟩, .slice none 0 0] 26)] _)))).one
        rintro _ _ ⟨n38, l38, v38, hk_, rfl, hn38, hl38, H⟩
        rw [hk_, go_ok_] at hT
        have hk38 := hk_
        have hz39 := num_less hk_
        refine sr_op rfl rfl (ow_build (ps := [(0, .int .i64 3), (1, .int .i64 n38)]) (v := .agg #[.int .i64 3, .int .i64 n38, .int .i64 0, .string ⟨#[]⟩, .slice none 0 0]) rfl (fun _ => by kernel_rfl) ?_)
        refine sr_op rfl rfl (ow_store ty26 H rfl (v := .agg #[.int .i64 3, .int .i64 n38, .int .i64 0, .string ⟨#[]⟩, .slice none 0 0]) rfl [.int .i64 3, .int .i64 n38, .int .i64 0, .string ⟨#[]⟩, .slice none 0 0] rfl rfl rfl 1 rfl rfl (fun _ H => ?_))
        refine sr_nil ?_
        refine st_seq ?_
        refine st_region ?_
        refine sr_op rfl rfl (ow_loadI (v := .pointer (some ⟨gP, 0, none⟩)) ty180 H rfl hat2 rfl rfl rfl ?_)
        refine sr_op rfl rfl (ow_buildSlice H (e := 9) (ps := [(0, .string ⟨#[111, 102]⟩), (1, .string ⟨#[40]⟩)]) rfl [.string ⟨#[111, 102]⟩, .string ⟨#[40]⟩] (fun _ => by kernel_rfl) (fun g40 _ H => ?_))
        obtain ⟨I41, hI41, H, hl41⟩ := lit_done (enc := encS) (sz := 1) (n := 2) [wOf, sLp] rfl (by omega) H ⟨((s_iff (s := wOf)).2 ⟨rfl, by unfold S63; decide +kernel⟩), rfl, ⟨((s_iff (s := sLp)).2 ⟨rfl, by unfold S63; decide +kernel⟩), rfl, rfl⟩⟩
        have hl38 := (hl38.mono hI41)
        refine sr_op rfl rfl (ow_callp en212 rfl (want_c H hl38 (ws := [wOf, sLp]) hl41) ?_ ?_)
        rotate_left
        · rintro ch_ w_ hb_
          exact (hP _ _ (badP.fin hb_ hT (hI2.trans hI41) (List.Sublist.trans (List.Sublist.refl _) (List.sublist_append_right [(g3, Ob [.int .i64 3, .int .i64 n38, .int .i64 0, .string ⟨#[]⟩, .slice none 0 0] 26)] _)))).one
        rintro _ _ ⟨l42, v42, hk_, hl42, H⟩
        rw [hk_, go_ok_] at hT
        have hw42 := hk_
        have hz43 := want_less hw42
        refine sr_nil ?_
        refine st_seq ?_
        refine st_region ?_
        have hat2 := (hat2.mono hI41)
        refine sr_op rfl rfl (ow_loadI (v := .pointer (some ⟨gP, 0, none⟩)) ty180 H rfl hat2 rfl rfl rfl ?_)
        refine sr_op rfl rfl (ow_callp en219 rfl (ih H hl42 (by omega) (by omega)) ?_ ?_)
        rotate_left
        · rintro ch_ w_ hb_
          exact (hP _ _ (badP.fin hb_ hT (hI2.trans hI41) (List.Sublist.trans (List.Sublist.refl _) (List.sublist_append_right [(g3, Ob [.int .i64 3, .int .i64 n38, .int .i64 0, .string ⟨#[]⟩, .slice none 0 0] 26)] _)))).one
        rintro _ _ ⟨I44, x44, us44, l44, v44, hI44, hk_, rfl, hx44, hl44, H⟩
        rw [hk_, go_ok_] at hT
        have hz45 := (gp_expr f).lok hk_
        have d44 := hx44
        obtain ⟨d44v4, rfl, d44_0, d44_1, d44_2, d44_3, d44_4⟩ := ex_iff.1 hx44
        obtain ⟨d44A4, d44c4, rfl, d44m4, d44M4, d44_4⟩ := RepS.open_ d44_4
        refine sr_op rfl rfl (ow_buildSlice H (e := 26) (ps := [(0, .agg #[.int .i64 x44.kind, .int .i64 x44.n, .int .i64 x44.no, .string x44.name, .slice d44A4 x44.l.length d44c4])]) rfl [.int .i64 x44.kind, .int .i64 x44.n, .int .i64 x44.no, .string x44.name, .slice d44A4 x44.l.length d44c4] (fun _ => by kernel_rfl) (fun g46 _ H => ?_))
        refine sr_op rfl rfl (ow_fieldAddr fd26_4 ty24 rfl rfl (r := 4) rfl ?_)
        refine sr_op rfl rfl (ow_store ty24 H rfl (v := .slice (some ⟨g46, 0, none⟩) 1 1) rfl [.slice (some ⟨g46, 0, none⟩) 1 1] rfl rfl rfl 2 rfl rfl (fun _ H => ?_))
        refine sr_nil ?_
        refine st_seq ?_
        have hat2 := (hat2.mono hI44)
        refine st_draw (F := (fun w_ => ∃ Iq_, Le I44 Iq_ ∧ Hp B Iq_ w_ [(g46, Ob [.int .i64 x44.kind, .int .i64 x44.n, .int .i64 x44.no, .string x44.name, .slice d44A4 x44.l.length d44c4] 26), paB gP v44 e q0 q1 q2 q3 q4 q5 q6 q7 q8 q9, (g3, Ob [.int .i64 3, .int .i64 n38, .int .i64 0, .string ⟨#[]⟩, .slice (some ⟨g46, 0, none⟩) 1 1] 26)])) (p0 := [0, 1, 2, 3]) (plan := [(4, [], [0, 1]), (5, [6], []), (7, [], [])]) [] [] [(16, .func (.func 272) #[] #[.pointer (some ⟨g1, 0, none⟩)]), (15, .pointer (some ⟨gP, 0, none⟩)), (14, .slice (some ⟨g46, 0, none⟩) 1 1), (13, .pointer (some ⟨g3, 4, none⟩))] (by kernel_rfl) rfl ?_ ⟨_, Le.refl _, H.drew.pick [0, 1, 2] (by decide)⟩ ?_
        · refine ⟨kn_op rfl rfl (wantB_none rfl) fun _ hF2 => ?_, ?_⟩
          · obtain ⟨_, hle2, H2⟩ := hF2
            refine  (ow_fieldAddr fd26_4 ty24 rfl rfl (r := 4) rfl ?_)
            exact ⟨rfl, rfl⟩
          refine ⟨kn_op rfl rfl (wantB_none rfl) fun _ hF2 => ?_, ?_⟩
          · obtain ⟨_, hle2, H2⟩ := hF2
            refine  (ow_load (v := .slice (some ⟨g46, 0, none⟩) 1 1) ty24 H2 rfl 2 rfl rfl rfl rfl ?_)
            exact ⟨rfl, rfl⟩
          refine ⟨kn_op rfl rfl (wantB_none rfl) fun _ hF2 => ?_, ?_⟩
          · obtain ⟨_, hle2, H2⟩ := hF2
            refine  (ow_loadI (v := .pointer (some ⟨gP, 0, none⟩)) ty180 H2 rfl (At.mono hle2 hat2) rfl rfl rfl ?_)
            exact ⟨rfl, rfl⟩
          refine ⟨kn_op rfl rfl (wantB_none rfl) fun _ hF2 => ?_, ?_⟩
          · obtain ⟨_, hle2, H2⟩ := hF2
            refine  (ow_makeFunc (fv := []) (cv := [.pointer (some ⟨g1, 0, none⟩)]) rfl rfl ?_)
            exact ⟨rfl, rfl⟩
          exact trivial
        have H := H.drew
        have H : Hp B I44 _ (paB gP v44 e q0 q1 q2 q3 q4 q5 q6 q7 q8 q9 :: (g46, Ob [.int .i64 x44.kind, .int .i64 x44.n, .int .i64 x44.no, .string x44.name, .slice d44A4 x44.l.length d44c4] 26) :: (g3, Ob [.int .i64 3, .int .i64 n38, .int .i64 0, .string ⟨#[]⟩, .slice (some ⟨g46, 0, none⟩) 1 1] 26) :: L) := Hp.front 1 rfl H
        refine cw_op rfl (wantB_none rfl) (ow_callp en271 rfl (someE_c H hl44 ih hat2 (by omega) (by omega)) ?_ ?_)
        rotate_left
        · rintro ch_ w_ hb_
          exact (hP _ _ (badP.fin hb_ hT ((hI2.trans hI41).trans hI44) (List.Sublist.trans (List.Sublist.refl _) (List.sublist_append_right [(g46, Ob [.int .i64 x44.kind, .int .i64 x44.n, .int .i64 x44.no, .string x44.name, .slice d44A4 x44.l.length d44c4] 26), (g3, Ob [.int .i64 3, .int .i64 n38, .int .i64 0, .string ⟨#[]⟩, .slice (some ⟨g46, 0, none⟩) 1 1] 26)] _))))
        rintro _ _ ⟨I47, az47, l47, v47, hI47, hk_, ha47, hl47, H⟩
        rw [hk_, go_ok_] at hT
        have hz48 := (gp_many _ (gp_next (gp_expr f)) f).lok hk_
        have haz := hk_
        obtain ⟨a47A, a47c, rfl, a47m, a47M, a47⟩ := RepS.open_ ha47
        refine af_some [] (fun w_ => ∃ Iq_, Le I47 Iq_ ∧ Hp B Iq_ w_ [paB gP v47 e q0 q1 q2 q3 q4 q5 q6 q7 q8 q9, (g46, Ob [.int .i64 x44.kind, .int .i64 x44.n, .int .i64 x44.no, .string x44.name, .slice d44A4 x44.l.length d44c4] 26), (g3, Ob [.int .i64 3, .int .i64 n38, .int .i64 0, .string ⟨#[]⟩, .slice (some ⟨g46, 0, none⟩) 1 1] 26)]) rfl ⟨_, Le.refl _, H.pick [0, 1, 2] (by decide)⟩ ?_ ?_
        · refine ⟨kn_op rfl rfl (wantB_none rfl) fun _ hF2 => ?_, ?_⟩
          · obtain ⟨_, hle2, H2⟩ := hF2
            refine  (ow_fieldAddr fd26_4 ty24 rfl rfl (r := 4) rfl ?_)
            exact ⟨rfl, rfl⟩
          refine ⟨kn_op rfl rfl (wantB_none rfl) fun _ hF2 => ?_, ?_⟩
          · obtain ⟨_, hle2, H2⟩ := hF2
            refine  (ow_load (v := .slice (some ⟨g46, 0, none⟩) 1 1) ty24 H2 rfl 2 rfl rfl rfl rfl ?_)
            exact ⟨rfl, rfl⟩
          exact trivial
        have d44 := (d44.mono hI47)
        have H : Hp B I47 _ ((g46, Ob [.int .i64 x44.kind, .int .i64 x44.n, .int .i64 x44.no, .string x44.name, .slice d44A4 x44.l.length d44c4] 26) :: paB gP v47 e q0 q1 q2 q3 q4 q5 q6 q7 q8 q9 :: (g3, Ob [.int .i64 3, .int .i64 n38, .int .i64 0, .string ⟨#[]⟩, .slice (some ⟨g46, 0, none⟩) 1 1] 26) :: L) := Hp.front 1 rfl H
        have H : Hp B I47 _ (paB gP v47 e q0 q1 q2 q3 q4 q5 q6 q7 q8 q9 :: (g3, Ob [.int .i64 3, .int .i64 n38, .int .i64 0, .string ⟨#[]⟩, .slice (some ⟨g46, 0, none⟩) 1 1] 26) :: (rowL (.slice (some ⟨g46, 0, none⟩) 1 1) [.int .i64 x44.kind, .int .i64 x44.n, .int .i64 x44.no, .string x44.name, .slice d44A4 x44.l.length d44c4] 26 ++ L)) := Hp.perm H (rowL_back [paB gP v47 e q0 q1 q2 q3 q4 q5 q6 q7 q8 q9, (g3, Ob [.int .i64 3, .int .i64 n38, .int .i64 0, .string ⟨#[]⟩, .slice (some ⟨g46, 0, none⟩) 1 1] 26)] (.slice (some ⟨g46, 0, none⟩) 1 1) [.int .i64 x44.kind, .int .i64 x44.n, .int .i64 x44.no, .string x44.name, .slice d44A4 x44.l.length d44c4] 26)
        have ha_ : Acc I47 5 (.slice (some ⟨g46, 0, none⟩) 1 1) [.int .i64 x44.kind, .int .i64 x44.n, .int .i64 x44.no, .string x44.name, .slice d44A4 x44.l.length d44c4] [encEx x44] := acc_lit1 d44 (Nat.eq_of_beq_eq_true (len_ex _))
        have hazl : az47.length ≤ 200000 := by have h_ := many_len (fun _ _ _ h_ => next_less (gp_expr f) h_) f haz; omega
        refine cw_op rfl (wantB_none rfl) (ow_appendG (l := az47) (enc := encEx) sl24 ty26 rfl rfl [paB gP v47 e q0 q1 q2 q3 q4 q5 q6 q7 q8 q9, (g3, Ob [.int .i64 3, .int .i64 n38, .int .i64 0, .string ⟨#[]⟩, .slice (some ⟨g46, 0, none⟩) 1 1] 26)] (v := .slice (some ⟨g46, 0, none⟩) 1 1) (cs := [.int .i64 x44.kind, .int .i64 x44.n, .int .i64 x44.no, .string x44.name, .slice d44A4 x44.l.length d44c4]) (L := L) H ha_ rfl rfl rfl a47 (fun q_ _ => plain_ex q_) (by simp only [List.length_singleton]; omega) (by simp only [List.length_singleton]; omega) (fun vb49 csb49 _ H ha_ => ?_))
        obtain ⟨Ab49, nb49, cb49, rfl⟩ := Acc.form ha_
        refine af_some [(19, .pointer (some ⟨g3, 4, none⟩))] (fun w_ => ∃ Iq_, Le I47 Iq_ ∧ Hp B Iq_ w_ [paB gP v47 e q0 q1 q2 q3 q4 q5 q6 q7 q8 q9, (g3, Ob [.int .i64 3, .int .i64 n38, .int .i64 0, .string ⟨#[]⟩, .slice (some ⟨g46, 0, none⟩) 1 1] 26)]) rfl ⟨_, Le.refl _, H.pick [0, 1] (by decide)⟩ ?_ ?_
        · refine ⟨kn_op rfl rfl (wantB_none rfl) fun _ hF2 => ?_, ?_⟩
          · obtain ⟨_, hle2, H2⟩ := hF2
            refine  (ow_fieldAddr fd26_4 ty24 rfl rfl (r := 4) rfl ?_)
            exact ⟨rfl, rfl⟩
          exact trivial
        refine cw_op rfl (wantB_none rfl) (ow_store ty24 H rfl (v := .slice Ab49 nb49 cb49) rfl [.slice Ab49 nb49 cb49] rfl rfl rfl 1 rfl rfl (fun _ H => ?_))
        refine af_none ?_
        refine cw_nil ?_
        refine st_region ?_
        have hat2 := (hat2.mono hI47)
        refine sr_op rfl rfl (ow_loadI (v := .pointer (some ⟨gP, 0, none⟩)) ty180 H rfl hat2 rfl rfl rfl ?_)
        refine sr_op rfl rfl (ow_buildSlice H (e := 9) (ps := [(0, .string ⟨#[41]⟩)]) rfl [.string ⟨#[41]⟩] (fun _ => by kernel_rfl) (fun g50 _ H => ?_))
        obtain ⟨I51, hI51, H, hl51⟩ := lit_done (enc := encS) (sz := 1) (n := 1) [sRp] rfl (by omega) H ⟨((s_iff (s := sRp)).2 ⟨rfl, by unfold S63; decide +kernel⟩), rfl, rfl⟩
        have hl47 := (hl47.mono hI51)
        refine sr_op rfl rfl (ow_callp en212 rfl (want_c H hl47 (ws := [sRp]) hl51) ?_ ?_)
        rotate_left
        · rintro ch_ w_ hb_
          exact (hP _ _ (badP.fin hb_ hT ((((hI2.trans hI41).trans hI44).trans hI47).trans hI51) (List.Sublist.trans (List.sublist_append_right _ _) (List.sublist_append_right [(g3, Ob [.int .i64 3, .int .i64 n38, .int .i64 0, .string ⟨#[]⟩, .slice Ab49 nb49 cb49] 26)] _)))).one
        rintro _ _ ⟨l52, v52, hk_, hl52, H⟩
        rw [hk_, go_ok_] at hT
        have hw52 := hk_
        have hz53 := want_less hw52
        refine sr_nil ?_
        refine st_inBlock ?_
        refine st_seq ?_
        refine st_region ?_
        refine sr_op rfl rfl (ow_load (v := .agg #[.int .i64 3, .int .i64 n38, .int .i64 0, .string ⟨#[]⟩, .slice Ab49 nb49 cb49]) ty26 H rfl 1 rfl rfl rfl rfl ?_)
        refine sr_op rfl rfl (ow_store ty26 H rfl (v := .agg #[.int .i64 3, .int .i64 n38, .int .i64 0, .string ⟨#[]⟩, .slice Ab49 nb49 cb49]) rfl [.int .i64 3, .int .i64 n38, .int .i64 0, .string ⟨#[]⟩, .slice Ab49 nb49 cb49] rfl rfl rfl 1 rfl rfl (fun _ H => ?_))
        refine sr_nil ?_
        refine st_ret hb (hR _ _ (.agg #[.int .i64 3, .int .i64 n38, .int .i64 0, .string ⟨#[]⟩, .slice Ab49 nb49 cb49]) (res_run (vs := [.agg #[.int .i64 3, .int .i64 n38, .int .i64 0, .string ⟨#[]⟩, .slice Ab49 nb49 cb49]]) Tryz.results219 ⟨_, _, rfl, resV_own (v := .agg #[.int .i64 3, .int .i64 n38, .int .i64 0, .string ⟨#[]⟩, .slice Ab49 nb49 cb49]) ty26 H rfl 1 rfl rfl rfl rfl, rfl⟩) ?_)
        have ha_ := (ha_.mono hI51)
        obtain ⟨I9, hI9, H, hr_⟩ := Acc.done ha_ (H.perm (rowL_back [paB gP v52 e q0 q1 q2 q3 q4 q5 q6 q7 q8 q9, (g3, Ob [.int .i64 3, .int .i64 n38, .int .i64 0, .string ⟨#[]⟩, .slice Ab49 nb49 cb49] 26)] (.slice Ab49 nb49 cb49) csb49 26).symm)
        have hr_ : RepS encEx I9 5 (x44 :: az47) (.slice Ab49 nb49 cb49) := hr_
        have H : Hp B I9 _ (paB gP v52 e q0 q1 q2 q3 q4 q5 q6 q7 q8 q9 :: (g3, Ob [.int .i64 3, .int .i64 n38, .int .i64 0, .string ⟨#[]⟩, .slice Ab49 nb49 cb49] 26) :: L) := H
        have hl52 := (hl52.mono hI9)
        exact ⟨I9, (Ex.mk 3 n38 0 nilS (x44 :: az47)), _, _, _, (((((hI2.trans hI41).trans hI44).trans hI47).trans hI51).trans hI9), hT, rfl, ((ex_iff (x := (Ex.mk 3 n38 0 nilS (x44 :: az47)))).2 ⟨_, rfl, i64_3, hn38, i64_0, S63_nilS, hr_⟩), hl52, (H.sub (List.Sublist.cons_cons _ (List.sublist_append_right [(g3, Ob [.int .i64 3, .int .i64 n38, .int .i64 0, .string ⟨#[]⟩, .slice Ab49 nb49 cb49] 26)] _)))⟩
end Go.Proofs.YtghmjnbpkobooaaGreatDoor
