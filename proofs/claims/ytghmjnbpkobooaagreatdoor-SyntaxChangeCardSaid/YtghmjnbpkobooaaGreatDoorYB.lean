/-
  Walks: equal expressions and policies, as package syntax sees them.
-/
import Derived.Test.YtghmjnbpkobooaaGreatDoorY1
import Derived.Test.YtghmjnbpkobooaaGreatDoorS1
import Derived.Test.YtghmjnbpkobooaaGreatDoorT0
import Derived.Test.YtghmjnbpkobooaaGreatDoorP4
set_option linter.unusedVariables false
set_option linter.unusedSimpArgs false
set_option maxRecDepth 10000
set_option maxHeartbeats 4000000
namespace Go.Proofs.YtghmjnbpkobooaaGreatDoor
open Go Go.RowKit

def SameOk (B : World) (d : Nat) : Prop := ∀ {x y : Ex} {I : Im} {L : List (Nat × Obj)} {w : World} {us ws : List Value}, x.pc ≤ d → Hp B I w L → RepL I (encEx x) us → RepL I (encEx y) ws → Calls Tryz.prog 135 #[.agg us.toArray, .agg ws.toArray] w (Rt fun r w' => r = .bool (sameX x y) ∧ Hp B I w' L)
theorem sameT_no {l m : List ByteArray} (h : ¬ (l.length : Int) = (m.length : Int)) : sameT l m = false := sameT_len h
theorem sameRs_no {l m : List Ru} (h : ¬ (l.length : Int) = (m.length : Int)) : sameRs l m = false := sameRs_len h
theorem equalS_c {B I L w}  {l m : List ByteArray} {v u : Value} (H : Hp B I w L) (hl : RepS encS I 1 l v) (hm : RepS encS I 1 m u) : Calls Tryz.prog 136 #[v, u] w (Rt fun r w' => r = .bool (sameT l m) ∧ Hp B I w' L) := by
  obtain ⟨s0A, s0c, rfl, s0m, s0M, s0⟩ := RepS.open_ hl
  obtain ⟨s1A, s1c, rfl, s1m, s1M, s1⟩ := RepS.open_ hm
  refine calls_st (n := 26) Tryz.func136 rfl rfl rfl ?_
  intro G bF cs hb hfn hR hP
  simp only [ini]
  refine st_seq ?_
  refine st_region ?_
  refine sr_op rfl rfl (ow_assign (v := .bool false) rfl ?_)
  refine sr_nil ?_
  refine st_seq ?_
  refine st_seq ?_
  refine st_region ?_
  refine sr_op rfl rfl (ow_move (v := .slice s0A l.length s0c) rfl ?_)
  refine sr_op rfl rfl (ow_lenS sl22 rfl rfl ?_)
  refine sr_op rfl rfl (ow_move (v := .slice s1A m.length s1c) rfl ?_)
  refine sr_op rfl rfl (ow_lenS sl22 rfl rfl ?_)
  refine sr_op rfl rfl (ow_neq rfl rfl ?_)
  refine sr_nil ?_
  refine st_cond (!decide ((l.length : Int) = (m.length : Int))) rfl (fun hc1 => ?_) (fun hc1 => ?_)
  · have hc1 := bnt hc1
    have hc1 := of_decide_eq_false hc1
    refine st_seq ?_
    refine st_region ?_
    refine sr_op rfl rfl (ow_assign (v := .bool false) rfl ?_)
    refine sr_nil ?_
    refine st_ret hb (hR _ _ (.bool false) (res_run (vs := [.bool false]) Tryz.results136 ⟨_, _, rfl, rfl, rfl⟩) ?_)
    exact ⟨_, rfl, congrArg Value.bool (sameT_no hc1).symm, H⟩
  · have hc1 := bnf hc1
    have hc1 := of_decide_eq_true hc1
    have hlen : l.length = m.length := by omega
    refine st_skip ?_
    refine st_seq ?_
    refine st_seq ?_
    refine st_region ?_
    refine sr_op rfl rfl (ow_move (v := .slice s0A l.length s0c) rfl ?_)
    refine sr_op rfl rfl (ow_lenS sl22 rfl rfl ?_)
    refine sr_op rfl rfl (ow_move (v := .int .i64 0) rfl ?_)
    refine sr_nil ?_
    refine st_block ?_
    refine st_loop ?_
    refine st_live [0, 1, 4, 12, 13] ?_
    refine st_ind (fun d_ m_ w_ => ∃ (i : Nat) (r_ : Sl), d_ = l.length - i ∧ m_ = (0, .slice s0A l.length s0c) :: (1, .slice s1A m.length s1c) :: (4, .bool false) :: (12, .int .i64 (l.length : Int)) :: (13, .int .i64 (i : Int)) :: r_ ∧ Hp B I w_ (L) ∧ i ≤ l.length ∧ sameT l m = sameT (l.drop i) (m.drop i)) _ ⟨0, _, rfl, rfl, H, Nat.zero_le _, rfl⟩ ?_
    rintro _ _ _ ⟨i, r3, rfl, rfl, H, hi, ha⟩ ih4
    refine st_seq ?_
    refine st_region ?_
    refine sr_op rfl rfl (ow_lss rfl rfl ?_)
    refine sr_nil ?_
    refine st_seq ?_
    refine st_cond (decide ((i : Int) < (l.length : Int))) rfl (fun hc5 => ?_) (fun hc5 => ?_)
    · have hc5 := of_decide_eq_true hc5
      refine st_skip ?_
      refine st_seq ?_
      refine st_block ?_
      refine st_seq ?_
      refine st_region ?_
      refine sr_op rfl rfl (ow_move (v := .int .i64 (i : Int)) rfl ?_)
      refine sr_op rfl rfl (ow_assign (v := .int .i64 (i : Int)) rfl ?_)
      refine sr_nil ?_
      refine st_seq ?_
      obtain ⟨e6, he6⟩ : ∃ q_, l[i]? = some q_ := ⟨_, List.getElem?_eq_getElem (by omega)⟩
      obtain ⟨b6, o6, us6, hA6, hat6, hul6, hr6⟩ := RepS.get s0 he6
      have d6 := hr6
      obtain ⟨rfl, d6_0⟩ := s_iff.1 hr6
      obtain ⟨e7, he7⟩ : ∃ q_, m[i]? = some q_ := ⟨_, List.getElem?_eq_getElem (by omega)⟩
      obtain ⟨b7, o7, us7, hA7, hat7, hul7, hr7⟩ := RepS.get s1 he7
      have d7 := hr7
      obtain ⟨rfl, d7_0⟩ := s_iff.1 hr7
      refine st_draw (F := (fun w_ => ∃ Iq_, Le I Iq_ ∧ Hp B Iq_ w_ [])) (p0 := [0, 1, 2, 3, 4, 5, 6, 7, 8]) (plan := []) [] [] [(24, .bool (!decide (e6 = e7))), (23, .string e7), (22, .pointer (some ⟨b7, o7 + i * 1, none⟩)), (21, .int .i64 (i : Int)), (20, .slice s1A m.length s1c), (19, .string e6), (18, .pointer (some ⟨b6, o6 + i * 1, none⟩)), (17, .int .i64 (i : Int)), (16, .slice s0A l.length s0c)] (by kernel_rfl) rfl ?_ ⟨_, Le.refl _, H.drew.pick [] (by decide)⟩ ?_
      · refine ⟨kn_op rfl rfl (wantB_none rfl) fun _ hF2 => ?_, ?_⟩
        · obtain ⟨_, hle2, H2⟩ := hF2
          refine  (ow_move (v := .slice s0A l.length s0c) rfl ?_)
          exact ⟨rfl, rfl⟩
        refine ⟨kn_op rfl rfl (wantB_none rfl) fun _ hF2 => ?_, ?_⟩
        · obtain ⟨_, hle2, H2⟩ := hF2
          refine  (ow_move (v := .int .i64 (i : Int)) rfl ?_)
          exact ⟨rfl, rfl⟩
        refine ⟨kn_op rfl rfl (wantB_none rfl) fun _ hF2 => ?_, ?_⟩
        · obtain ⟨_, hle2, H2⟩ := hF2
          refine  (ow_indexAddrA sl22 ty9 hA6 rfl rfl (by omega) (by omega) (r := o6 + i * 1) rfl ?_)
          exact ⟨rfl, rfl⟩
        refine ⟨kn_op rfl rfl (wantB_none rfl) fun _ hF2 => ?_, ?_⟩
        · obtain ⟨_, hle2, H2⟩ := hF2
          refine  (ow_loadI (v := .string e6) ty9 H2 rfl (At.mono hle2 hat6) rfl rfl rfl ?_)
          exact ⟨rfl, rfl⟩
        refine ⟨kn_op rfl rfl (wantB_none rfl) fun _ hF2 => ?_, ?_⟩
        · obtain ⟨_, hle2, H2⟩ := hF2
          refine  (ow_move (v := .slice s1A m.length s1c) rfl ?_)
          exact ⟨rfl, rfl⟩
        refine ⟨kn_op rfl rfl (wantB_none rfl) fun _ hF2 => ?_, ?_⟩
        · obtain ⟨_, hle2, H2⟩ := hF2
          refine  (ow_move (v := .int .i64 (i : Int)) rfl ?_)
          exact ⟨rfl, rfl⟩
        refine ⟨kn_op rfl rfl (wantB_none rfl) fun _ hF2 => ?_, ?_⟩
        · obtain ⟨_, hle2, H2⟩ := hF2
          refine  (ow_indexAddrA sl22 ty9 hA7 rfl rfl (by omega) (by omega) (r := o7 + i * 1) rfl ?_)
          exact ⟨rfl, rfl⟩
        refine ⟨kn_op rfl rfl (wantB_none rfl) fun _ hF2 => ?_, ?_⟩
        · obtain ⟨_, hle2, H2⟩ := hF2
          refine  (ow_loadI (v := .string e7) ty9 H2 rfl (At.mono hle2 hat7) rfl rfl rfl ?_)
          exact ⟨rfl, rfl⟩
        refine ⟨kn_op rfl rfl (wantB_none rfl) fun _ hF2 => ?_, ?_⟩
        · obtain ⟨_, hle2, H2⟩ := hF2
          refine  (ow_sne rfl rfl ?_)
          exact ⟨rfl, rfl⟩
        exact trivial
      have H := H.drew
      refine cw_nil ?_
      refine st_cond (!decide (e6 = e7)) rfl (fun hc8 => ?_) (fun hc8 => ?_)
      · have hbad := bnt hc8
        refine st_seq ?_
        refine st_region ?_
        refine sr_op rfl rfl (ow_assign (v := .bool false) rfl ?_)
        refine sr_nil ?_
        refine st_ret hb (hR _ _ (.bool false) (res_run (vs := [.bool false]) Tryz.results136 ⟨_, _, rfl, rfl, rfl⟩) ?_)
        exact ⟨_, rfl, congrArg Value.bool (by rw [ha, drop_some he6, drop_some he7, sameT, hbad, Bool.false_and]), H⟩
      · have hgood := bnf hc8
        refine st_skip ?_
        refine st_inBlock ?_
        refine st_region ?_
        refine sr_op rfl rfl (ow_add (r := ((i + 1 : Nat) : Int)) rfl rfl (inc_i64 (by omega)) ?_)
        refine sr_op rfl rfl (ow_move (v := .int .i64 ((i + 1 : Nat) : Int)) rfl ?_)
        refine sr_nil ?_
        exact st_inLoop (st_live [0, 1, 4, 12, 13] (ih4 _ _ _ (by omega) ⟨i + 1, _, rfl, rfl, H, by omega, by rw [ha, drop_some he6, drop_some he7, sameT, hgood, Bool.true_and]⟩))
    · have hc5 := of_decide_eq_false hc5
      refine st_exit rfl ?_
      refine st_seq ?_
      refine st_region ?_
      refine sr_op rfl rfl (ow_assign (v := .bool true) rfl ?_)
      refine sr_nil ?_
      refine st_ret hb (hR _ _ (.bool true) (res_run (vs := [.bool true]) Tryz.results136 ⟨_, _, rfl, rfl, rfl⟩) ?_)
      have h1 : l.drop i = [] := List.drop_of_length_le (by omega)
      have h2 : m.drop i = [] := List.drop_of_length_le (by omega)
      exact ⟨_, rfl, congrArg Value.bool (by rw [ha, h1, h2]; rfl), H⟩
theorem equalE_c {B I L w} {d : Nat} (ih : SameOk B d) {l m : List Ex} {v u : Value} (H : Hp B I w L) (hl : RepS encEx I 5 l v) (hm : RepS encEx I 5 m u) (hd : Ex.pcs l ≤ d) : Calls Tryz.prog 220 #[v, u, .func (.func 135) #[] #[]] w (Rt fun r w' => r = .bool (sameXs l m) ∧ Hp B I w' L) := by
  obtain ⟨s0A, s0c, rfl, s0m, s0M, s0⟩ := RepS.open_ hl
  obtain ⟨s1A, s1c, rfl, s1m, s1M, s1⟩ := RepS.open_ hm
  refine calls_st (n := 32) Tryz.func220 rfl rfl rfl ?_
  intro G bF cs hb hfn hR hP
  simp only [ini]
  refine st_seq ?_
  refine st_region ?_
  refine sr_op rfl rfl (ow_assign (v := .bool false) rfl ?_)
  refine sr_nil ?_
  refine st_seq ?_
  refine st_seq ?_
  refine st_region ?_
  refine sr_op rfl rfl (ow_move (v := .slice s0A l.length s0c) rfl ?_)
  refine sr_op rfl rfl (ow_lenS sl24 rfl rfl ?_)
  refine sr_op rfl rfl (ow_move (v := .slice s1A m.length s1c) rfl ?_)
  refine sr_op rfl rfl (ow_lenS sl24 rfl rfl ?_)
  refine sr_op rfl rfl (ow_neq rfl rfl ?_)
  refine sr_nil ?_
  refine st_cond (!decide ((l.length : Int) = (m.length : Int))) rfl (fun hc1 => ?_) (fun hc1 => ?_)
  · have hc1 := bnt hc1
    have hc1 := of_decide_eq_false hc1
    refine st_seq ?_
    refine st_region ?_
    refine sr_op rfl rfl (ow_assign (v := .bool false) rfl ?_)
    refine sr_nil ?_
    refine st_ret hb (hR _ _ (.bool false) (res_run (vs := [.bool false]) Tryz.results220 ⟨_, _, rfl, rfl, rfl⟩) ?_)
    exact ⟨_, rfl, congrArg Value.bool (sameXs_len hc1).symm, H⟩
  · have hc1 := bnf hc1
    have hc1 := of_decide_eq_true hc1
    have hlen : l.length = m.length := by omega
    refine st_skip ?_
    refine st_seq ?_
    refine st_seq ?_
    refine st_region ?_
    refine sr_op rfl rfl (ow_move (v := .slice s0A l.length s0c) rfl ?_)
    refine sr_op rfl rfl (ow_lenS sl24 rfl rfl ?_)
    refine sr_op rfl rfl (ow_move (v := .int .i64 0) rfl ?_)
    refine sr_nil ?_
    refine st_block ?_
    refine st_loop ?_
    refine st_live [1, 2, 6, 15, 16, 17] ?_
    refine st_ind (fun d_ m_ w_ => ∃ (i : Nat) (r_ : Sl), d_ = l.length - i ∧ m_ = (1, .slice s1A m.length s1c) :: (2, .func (.func 135) #[] #[]) :: (6, .bool false) :: (15, .slice s0A l.length s0c) :: (16, .int .i64 (l.length : Int)) :: (17, .int .i64 (i : Int)) :: r_ ∧ Hp B I w_ (L) ∧ i ≤ l.length ∧ sameXs l m = sameXs (l.drop i) (m.drop i)) _ ⟨0, _, rfl, rfl, H, Nat.zero_le _, rfl⟩ ?_
    rintro _ _ _ ⟨i, r3, rfl, rfl, H, hi, ha⟩ ih4
    refine st_seq ?_
    refine st_region ?_
    refine sr_op rfl rfl (ow_lss rfl rfl ?_)
    refine sr_nil ?_
    refine st_seq ?_
    refine st_cond (decide ((i : Int) < (l.length : Int))) rfl (fun hc5 => ?_) (fun hc5 => ?_)
    · have hc5 := of_decide_eq_true hc5
      refine st_skip ?_
      refine st_seq ?_
      refine st_block ?_
      refine st_seq ?_
      refine st_region ?_
      refine sr_op rfl rfl (ow_move (v := .int .i64 (i : Int)) rfl ?_)
      obtain ⟨e6, he6⟩ : ∃ q_, l[i]? = some q_ := ⟨_, List.getElem?_eq_getElem (by omega)⟩
      obtain ⟨b6, o6, us6, hA6, hat6, hul6, hr6⟩ := RepS.get s0 he6
      have d6 := hr6
      obtain ⟨d6v4, rfl, d6_0, d6_1, d6_2, d6_3, d6_4⟩ := ex_iff.1 hr6
      obtain ⟨d6A4, d6c4, rfl, d6m4, d6M4, d6_4⟩ := RepS.open_ d6_4
      refine sr_op rfl rfl (ow_indexAddrA sl24 ty26 hA6 rfl rfl (by omega) (by omega) (r := o6 + i * 5) rfl ?_)
      refine sr_op rfl rfl (ow_loadI (v := .agg #[.int .i64 e6.kind, .int .i64 e6.n, .int .i64 e6.no, .string e6.name, .slice d6A4 e6.l.length d6c4]) ty26 H rfl hat6 rfl rfl rfl ?_)
      refine sr_op rfl rfl (ow_alloc ty26 H [.int .i64 0, .int .i64 0, .int .i64 0, .string ⟨#[]⟩, .slice none 0 0] rfl (fun g7 _ H => ?_))
      refine sr_op rfl rfl (ow_assign (v := .int .i64 (i : Int)) rfl ?_)
      refine sr_op rfl rfl (ow_store ty26 H rfl (v := .agg #[.int .i64 e6.kind, .int .i64 e6.n, .int .i64 e6.no, .string e6.name, .slice d6A4 e6.l.length d6c4]) rfl [.int .i64 e6.kind, .int .i64 e6.n, .int .i64 e6.no, .string e6.name, .slice d6A4 e6.l.length d6c4] rfl rfl rfl 0 rfl rfl (fun _ H => ?_))
      refine sr_nil ?_
      refine st_seq ?_
      refine st_region ?_
      refine sr_op rfl rfl (ow_move (v := .slice s1A m.length s1c) rfl ?_)
      refine sr_op rfl rfl (ow_move (v := .int .i64 (i : Int)) rfl ?_)
      obtain ⟨e8, he8⟩ : ∃ q_, m[i]? = some q_ := ⟨_, List.getElem?_eq_getElem (by omega)⟩
      obtain ⟨b8, o8, us8, hA8, hat8, hul8, hr8⟩ := RepS.get s1 he8
      have d8 := hr8
      obtain ⟨d8v4, rfl, d8_0, d8_1, d8_2, d8_3, d8_4⟩ := ex_iff.1 hr8
      obtain ⟨d8A4, d8c4, rfl, d8m4, d8M4, d8_4⟩ := RepS.open_ d8_4
      refine sr_op rfl rfl (ow_indexAddrA sl24 ty26 hA8 rfl rfl (by omega) (by omega) (r := o8 + i * 5) rfl ?_)
      refine sr_op rfl rfl (ow_loadI (v := .agg #[.int .i64 e8.kind, .int .i64 e8.n, .int .i64 e8.no, .string e8.name, .slice d8A4 e8.l.length d8c4]) ty26 H rfl hat8 rfl rfl rfl ?_)
      refine sr_op rfl rfl (ow_alloc ty26 H [.int .i64 0, .int .i64 0, .int .i64 0, .string ⟨#[]⟩, .slice none 0 0] rfl (fun g9 _ H => ?_))
      refine sr_op rfl rfl (ow_store ty26 H rfl (v := .agg #[.int .i64 e8.kind, .int .i64 e8.n, .int .i64 e8.no, .string e8.name, .slice d8A4 e8.l.length d8c4]) rfl [.int .i64 e8.kind, .int .i64 e8.n, .int .i64 e8.no, .string e8.name, .slice d8A4 e8.l.length d8c4] rfl rfl rfl 0 rfl rfl (fun _ H => ?_))
      refine sr_nil ?_
      refine st_seq ?_
      refine st_region ?_
      refine sr_op rfl rfl (ow_move (v := .func (.func 135) #[] #[]) rfl ?_)
      refine sr_op rfl rfl (ow_load (v := .agg #[.int .i64 e6.kind, .int .i64 e6.n, .int .i64 e6.no, .string e6.name, .slice d6A4 e6.l.length d6c4]) ty26 H rfl 1 rfl rfl rfl rfl ?_)
      refine sr_op rfl rfl (ow_load (v := .agg #[.int .i64 e8.kind, .int .i64 e8.n, .int .i64 e8.no, .string e8.name, .slice d8A4 e8.l.length d8c4]) ty26 H rfl 0 rfl rfl rfl rfl ?_)
      refine sr_op rfl rfl (ow_callV en135 (first := []) (cap := []) rfl rfl (ih (by have h_ := Ex.pc_mem (List.mem_of_getElem? he6); omega) H d6 d8) ?_)
      rintro _ _ ⟨rfl, H⟩
      refine sr_op rfl rfl (ow_not rfl ?_)
      refine sr_nil ?_
      refine st_cond (!(sameX e6 e8)) rfl (fun hc10 => ?_) (fun hc10 => ?_)
      · have hbad := bnt hc10
        refine st_seq ?_
        refine st_region ?_
        refine sr_op rfl rfl (ow_assign (v := .bool false) rfl ?_)
        refine sr_nil ?_
        refine st_ret hb (hR _ _ (.bool false) (res_run (vs := [.bool false]) Tryz.results220 ⟨_, _, rfl, rfl, rfl⟩) ?_)
        exact ⟨_, rfl, congrArg Value.bool (by rw [ha, drop_some he6, drop_some he8, sameXs, hbad, Bool.false_and]), (H.drop 2)⟩
      · have hgood := bnf hc10
        refine st_skip ?_
        refine st_inBlock ?_
        refine st_region ?_
        refine sr_op rfl rfl (ow_add (r := ((i + 1 : Nat) : Int)) rfl rfl (inc_i64 (by omega)) ?_)
        refine sr_op rfl rfl (ow_move (v := .int .i64 ((i + 1 : Nat) : Int)) rfl ?_)
        refine sr_nil ?_
        exact st_inLoop (st_live [1, 2, 6, 15, 16, 17] (ih4 _ _ _ (by omega) ⟨i + 1, _, rfl, rfl, H.drop 2, by omega, by rw [ha, drop_some he6, drop_some he8, sameXs, hgood, Bool.true_and]⟩))
    · have hc5 := of_decide_eq_false hc5
      refine st_exit rfl ?_
      refine st_seq ?_
      refine st_region ?_
      refine sr_op rfl rfl (ow_assign (v := .bool true) rfl ?_)
      refine sr_nil ?_
      refine st_ret hb (hR _ _ (.bool true) (res_run (vs := [.bool true]) Tryz.results220 ⟨_, _, rfl, rfl, rfl⟩) ?_)
      have h1 : l.drop i = [] := List.drop_of_length_le (by omega)
      have h2 : m.drop i = [] := List.drop_of_length_le (by omega)
      exact ⟨_, rfl, congrArg Value.bool (by rw [ha, h1, h2]; rfl), H⟩
theorem sameExpr_c {B : World} : ∀ (d : Nat), SameOk B d := by
  intro d
  induction d with
  | zero =>
    intro x y I L w us ws h0
    have := x.pc_eq
    omega
  | succ d ih =>
  intro x y I L w us ws hd H hx hy
  have hpc := x.pc_eq
  have d0 := hx
  obtain ⟨d0v4, rfl, d0_0, d0_1, d0_2, d0_3, d0_4⟩ := ex_iff.1 hx
  obtain ⟨d0A4, d0c4, rfl, d0m4, d0M4, d0_4⟩ := RepS.open_ d0_4
  have d1 := hy
  obtain ⟨d1v4, rfl, d1_0, d1_1, d1_2, d1_3, d1_4⟩ := ex_iff.1 hy
  obtain ⟨d1A4, d1c4, rfl, d1m4, d1M4, d1_4⟩ := RepS.open_ d1_4
  refine calls_st (n := 38) Tryz.func135 rfl rfl rfl ?_
  intro G bF cs hb hfn hR hP
  simp only [ini]
  refine st_seq ?_
  refine st_region ?_
  refine sr_op rfl rfl (ow_box H (v := .agg #[.int .i64 x.kind, .int .i64 x.n, .int .i64 x.no, .string x.name, .slice d0A4 x.l.length d0c4]) rfl [.int .i64 x.kind, .int .i64 x.n, .int .i64 x.no, .string x.name, .slice d0A4 x.l.length d0c4] rfl (fun g1 _ H => ?_))
  refine sr_op rfl rfl (ow_box H (v := .agg #[.int .i64 y.kind, .int .i64 y.n, .int .i64 y.no, .string y.name, .slice d1A4 y.l.length d1c4]) rfl [.int .i64 y.kind, .int .i64 y.n, .int .i64 y.no, .string y.name, .slice d1A4 y.l.length d1c4] rfl (fun g2 _ H => ?_))
  refine sr_op rfl rfl (ow_assign (v := .bool false) rfl ?_)
  refine sr_nil ?_
  refine st_seq ?_
  refine st_region ?_
  refine sr_op rfl rfl (ow_fieldAddr fd26_0 ty3 rfl rfl (r := 0) rfl ?_)
  refine sr_op rfl rfl (ow_load (v := .int .i64 x.kind) ty3 H rfl 1 rfl rfl rfl rfl ?_)
  refine sr_op rfl rfl (ow_fieldAddr fd26_0 ty3 rfl rfl (r := 0) rfl ?_)
  refine sr_op rfl rfl (ow_load (v := .int .i64 y.kind) ty3 H rfl 0 rfl rfl rfl rfl ?_)
  refine sr_op rfl rfl (ow_eql rfl rfl ?_)
  refine sr_op rfl rfl (ow_move (v := .bool (decide (x.kind = y.kind))) rfl ?_)
  refine sr_cut 6 (fun m_ w_ => ∃ (r_ : Sl) (v_ : Bool), m_ = (16, .bool v_) :: (2, .pointer (some ⟨g1, 0, none⟩)) :: (3, .pointer (some ⟨g2, 0, none⟩)) :: (4, .bool false) :: r_ ∧ Hp B I w_ ((g2, Ob [.int .i64 y.kind, .int .i64 y.n, .int .i64 y.no, .string y.name, .slice d1A4 y.l.length d1c4] 26) :: (g1, Ob [.int .i64 x.kind, .int .i64 x.n, .int .i64 x.no, .string x.name, .slice d0A4 x.l.length d0c4] 26) :: L) ∧ v_ = ((decide (x.kind = y.kind)) && (decide (x.n = y.n)))) (fun again => ?_) ?_
  · rcases hg : decide (x.kind = y.kind) with _ | _
    · refine sr_pass rfl (j := 5) (d := 10) rfl rfl rfl (u := false) (v := true) rfl rfl ?_
      refine sr_pass rfl (j := 5) (d := 10) rfl rfl rfl (u := false) (v := true) rfl rfl ?_
      refine sr_pass rfl (j := 5) (d := 10) rfl rfl rfl (u := false) (v := true) rfl rfl ?_
      refine sr_pass rfl (j := 5) (d := 10) rfl rfl rfl (u := false) (v := true) rfl rfl ?_
      refine sr_pass rfl (j := 5) (d := 10) rfl rfl rfl (u := false) (v := true) rfl rfl ?_
      refine sr_op rfl rfl (ow_pick (v := .bool false) rfl rfl ?_)
      exact sr_live [16, 2, 3, 4] (again _ _ ⟨_, _, rfl, H, by rw [hg] <;> rfl⟩)
    · refine sr_want rfl (j := 5) (d := 10) rfl rfl rfl (v := true) rfl rfl (ow_fieldAddr fd26_1 ty3 rfl rfl (r := 1) rfl ?_)
      refine sr_want rfl (j := 5) (d := 10) rfl rfl rfl (v := true) rfl rfl (ow_load (v := .int .i64 x.n) ty3 H rfl 1 rfl rfl rfl rfl ?_)
      refine sr_want rfl (j := 5) (d := 10) rfl rfl rfl (v := true) rfl rfl (ow_fieldAddr fd26_1 ty3 rfl rfl (r := 1) rfl ?_)
      refine sr_want rfl (j := 5) (d := 10) rfl rfl rfl (v := true) rfl rfl (ow_load (v := .int .i64 y.n) ty3 H rfl 0 rfl rfl rfl rfl ?_)
      refine sr_want rfl (j := 5) (d := 10) rfl rfl rfl (v := true) rfl rfl (ow_eql rfl rfl ?_)
      refine sr_op rfl rfl (ow_pick (v := .bool (decide (x.n = y.n))) rfl rfl ?_)
      exact sr_live [16, 2, 3, 4] (again _ _ ⟨_, _, rfl, H, by rw [hg] <;> rfl⟩)
  rintro _ _ ⟨r, _, rfl, H, rfl⟩
  refine sr_op rfl rfl (ow_move (v := .bool ((decide (x.kind = y.kind)) && (decide (x.n = y.n)))) rfl ?_)
  refine sr_cut 6 (fun m_ w_ => ∃ (r_ : Sl) (v_ : Bool), m_ = (23, .bool v_) :: (2, .pointer (some ⟨g1, 0, none⟩)) :: (3, .pointer (some ⟨g2, 0, none⟩)) :: (4, .bool false) :: r_ ∧ Hp B I w_ ((g2, Ob [.int .i64 y.kind, .int .i64 y.n, .int .i64 y.no, .string y.name, .slice d1A4 y.l.length d1c4] 26) :: (g1, Ob [.int .i64 x.kind, .int .i64 x.n, .int .i64 x.no, .string x.name, .slice d0A4 x.l.length d0c4] 26) :: L) ∧ v_ = (((decide (x.kind = y.kind)) && (decide (x.n = y.n))) && (decide (x.no = y.no)))) (fun again => ?_) ?_
  · rcases hg : (decide (x.kind = y.kind)) && (decide (x.n = y.n)) with _ | _
    · refine sr_pass rfl (j := 12) (d := 17) rfl rfl rfl (u := false) (v := true) rfl rfl ?_
      refine sr_pass rfl (j := 12) (d := 17) rfl rfl rfl (u := false) (v := true) rfl rfl ?_
      refine sr_pass rfl (j := 12) (d := 17) rfl rfl rfl (u := false) (v := true) rfl rfl ?_
      refine sr_pass rfl (j := 12) (d := 17) rfl rfl rfl (u := false) (v := true) rfl rfl ?_
      refine sr_pass rfl (j := 12) (d := 17) rfl rfl rfl (u := false) (v := true) rfl rfl ?_
      refine sr_op rfl rfl (ow_pick (v := .bool false) rfl rfl ?_)
      exact sr_live [23, 2, 3, 4] (again _ _ ⟨_, _, rfl, H, by rw [hg] <;> rfl⟩)
    · refine sr_want rfl (j := 12) (d := 17) rfl rfl rfl (v := true) rfl rfl (ow_fieldAddr fd26_2 ty3 rfl rfl (r := 2) rfl ?_)
      refine sr_want rfl (j := 12) (d := 17) rfl rfl rfl (v := true) rfl rfl (ow_load (v := .int .i64 x.no) ty3 H rfl 1 rfl rfl rfl rfl ?_)
      refine sr_want rfl (j := 12) (d := 17) rfl rfl rfl (v := true) rfl rfl (ow_fieldAddr fd26_2 ty3 rfl rfl (r := 2) rfl ?_)
      refine sr_want rfl (j := 12) (d := 17) rfl rfl rfl (v := true) rfl rfl (ow_load (v := .int .i64 y.no) ty3 H rfl 0 rfl rfl rfl rfl ?_)
      refine sr_want rfl (j := 12) (d := 17) rfl rfl rfl (v := true) rfl rfl (ow_eql rfl rfl ?_)
      refine sr_op rfl rfl (ow_pick (v := .bool (decide (x.no = y.no))) rfl rfl ?_)
      exact sr_live [23, 2, 3, 4] (again _ _ ⟨_, _, rfl, H, by rw [hg] <;> rfl⟩)
  rintro _ _ ⟨r, _, rfl, H, rfl⟩
  refine sr_op rfl rfl (ow_move (v := .bool (((decide (x.kind = y.kind)) && (decide (x.n = y.n))) && (decide (x.no = y.no)))) rfl ?_)
  refine sr_cut 6 (fun m_ w_ => ∃ (r_ : Sl) (v_ : Bool), m_ = (30, .bool v_) :: (2, .pointer (some ⟨g1, 0, none⟩)) :: (3, .pointer (some ⟨g2, 0, none⟩)) :: (4, .bool false) :: r_ ∧ Hp B I w_ ((g2, Ob [.int .i64 y.kind, .int .i64 y.n, .int .i64 y.no, .string y.name, .slice d1A4 y.l.length d1c4] 26) :: (g1, Ob [.int .i64 x.kind, .int .i64 x.n, .int .i64 x.no, .string x.name, .slice d0A4 x.l.length d0c4] 26) :: L) ∧ v_ = ((((decide (x.kind = y.kind)) && (decide (x.n = y.n))) && (decide (x.no = y.no))) && (decide (x.name = y.name)))) (fun again => ?_) ?_
  · rcases hg : ((decide (x.kind = y.kind)) && (decide (x.n = y.n))) && (decide (x.no = y.no)) with _ | _
    · refine sr_pass rfl (j := 19) (d := 24) rfl rfl rfl (u := false) (v := true) rfl rfl ?_
      refine sr_pass rfl (j := 19) (d := 24) rfl rfl rfl (u := false) (v := true) rfl rfl ?_
      refine sr_pass rfl (j := 19) (d := 24) rfl rfl rfl (u := false) (v := true) rfl rfl ?_
      refine sr_pass rfl (j := 19) (d := 24) rfl rfl rfl (u := false) (v := true) rfl rfl ?_
      refine sr_pass rfl (j := 19) (d := 24) rfl rfl rfl (u := false) (v := true) rfl rfl ?_
      refine sr_op rfl rfl (ow_pick (v := .bool false) rfl rfl ?_)
      exact sr_live [30, 2, 3, 4] (again _ _ ⟨_, _, rfl, H, by rw [hg] <;> rfl⟩)
    · refine sr_want rfl (j := 19) (d := 24) rfl rfl rfl (v := true) rfl rfl (ow_fieldAddr fd26_3 ty9 rfl rfl (r := 3) rfl ?_)
      refine sr_want rfl (j := 19) (d := 24) rfl rfl rfl (v := true) rfl rfl (ow_load (v := .string x.name) ty9 H rfl 1 rfl rfl rfl rfl ?_)
      refine sr_want rfl (j := 19) (d := 24) rfl rfl rfl (v := true) rfl rfl (ow_fieldAddr fd26_3 ty9 rfl rfl (r := 3) rfl ?_)
      refine sr_want rfl (j := 19) (d := 24) rfl rfl rfl (v := true) rfl rfl (ow_load (v := .string y.name) ty9 H rfl 0 rfl rfl rfl rfl ?_)
      refine sr_want rfl (j := 19) (d := 24) rfl rfl rfl (v := true) rfl rfl (ow_seq rfl rfl ?_)
      refine sr_op rfl rfl (ow_pick (v := .bool (decide (x.name = y.name))) rfl rfl ?_)
      exact sr_live [30, 2, 3, 4] (again _ _ ⟨_, _, rfl, H, by rw [hg] <;> rfl⟩)
  rintro _ _ ⟨r, _, rfl, H, rfl⟩
  refine sr_op rfl rfl (ow_move (v := .bool ((((decide (x.kind = y.kind)) && (decide (x.n = y.n))) && (decide (x.no = y.no))) && (decide (x.name = y.name)))) rfl ?_)
  refine sr_cut 6 (fun m_ w_ => ∃ (r_ : Sl) (v_ : Bool), m_ = (37, .bool v_) :: (4, .bool false) :: r_ ∧ Hp B I w_ ((g2, Ob [.int .i64 y.kind, .int .i64 y.n, .int .i64 y.no, .string y.name, .slice d1A4 y.l.length d1c4] 26) :: (g1, Ob [.int .i64 x.kind, .int .i64 x.n, .int .i64 x.no, .string x.name, .slice d0A4 x.l.length d0c4] 26) :: L) ∧ v_ = (((((decide (x.kind = y.kind)) && (decide (x.n = y.n))) && (decide (x.no = y.no))) && (decide (x.name = y.name))) && (sameXs x.l y.l))) (fun again => ?_) ?_
  · rcases hg : (((decide (x.kind = y.kind)) && (decide (x.n = y.n))) && (decide (x.no = y.no))) && (decide (x.name = y.name)) with _ | _
    · refine sr_pass rfl (j := 26) (d := 31) rfl rfl rfl (u := false) (v := true) rfl rfl ?_
      refine sr_pass rfl (j := 26) (d := 31) rfl rfl rfl (u := false) (v := true) rfl rfl ?_
      refine sr_pass rfl (j := 26) (d := 31) rfl rfl rfl (u := false) (v := true) rfl rfl ?_
      refine sr_pass rfl (j := 26) (d := 31) rfl rfl rfl (u := false) (v := true) rfl rfl ?_
      refine sr_pass rfl (j := 26) (d := 31) rfl rfl rfl (u := false) (v := true) rfl rfl ?_
      refine sr_op rfl rfl (ow_pick (v := .bool false) rfl rfl ?_)
      exact sr_live [37, 4] (again _ _ ⟨_, _, rfl, H, by rw [hg] <;> rfl⟩)
    · refine sr_want rfl (j := 26) (d := 31) rfl rfl rfl (v := true) rfl rfl (ow_fieldAddr fd26_4 ty24 rfl rfl (r := 4) rfl ?_)
      refine sr_want rfl (j := 26) (d := 31) rfl rfl rfl (v := true) rfl rfl (ow_load (v := .slice d0A4 x.l.length d0c4) ty24 H rfl 1 rfl rfl rfl rfl ?_)
      refine sr_want rfl (j := 26) (d := 31) rfl rfl rfl (v := true) rfl rfl (ow_fieldAddr fd26_4 ty24 rfl rfl (r := 4) rfl ?_)
      refine sr_want rfl (j := 26) (d := 31) rfl rfl rfl (v := true) rfl rfl (ow_load (v := .slice d1A4 y.l.length d1c4) ty24 H rfl 0 rfl rfl rfl rfl ?_)
      refine sr_want rfl (j := 26) (d := 31) rfl rfl rfl (v := true) rfl rfl (ow_call en220 rfl (equalE_c ih H d0_4 d1_4 (by omega)) ?_)
      rintro _ _ ⟨rfl, H⟩
      refine sr_op rfl rfl (ow_pick (v := .bool (sameXs x.l y.l)) rfl rfl ?_)
      exact sr_live [37, 4] (again _ _ ⟨_, _, rfl, H, by rw [hg] <;> rfl⟩)
  rintro _ _ ⟨r, _, rfl, H, rfl⟩
  refine sr_op rfl rfl (ow_assign (v := .bool (((((decide (x.kind = y.kind)) && (decide (x.n = y.n))) && (decide (x.no = y.no))) && (decide (x.name = y.name))) && (sameXs x.l y.l))) rfl ?_)
  refine sr_nil ?_
  refine st_ret hb (hR _ _ (.bool (((((decide (x.kind = y.kind)) && (decide (x.n = y.n))) && (decide (x.no = y.no))) && (decide (x.name = y.name))) && (sameXs x.l y.l))) (res_run (vs := [.bool (((((decide (x.kind = y.kind)) && (decide (x.n = y.n))) && (decide (x.no = y.no))) && (decide (x.name = y.name))) && (sameXs x.l y.l))]) Tryz.results135 ⟨_, _, rfl, rfl, rfl⟩) ?_)
  exact ⟨_, rfl, congrArg Value.bool (sameX_eq x y).symm, (H.drop 2)⟩
theorem sameR_c {B I L w} {x y : Ru} {us ws : List Value} (H : Hp B I w L) (hx : RepL I (encRu x) us) (hy : RepL I (encRu y) ws) : Calls Tryz.prog 134 #[.agg us.toArray, .agg ws.toArray] w (Rt fun r w' => r = .bool (sameR x y) ∧ Hp B I w' L) := by
  have d0 := hx
  obtain ⟨d0v7, rfl, d0_0, d0_1, d0_2, d0_3, d0_4, d0_5, d0_6, d0_7⟩ := ru_iff.1 hx
  obtain ⟨d0A7, d0c7, rfl, d0m7, d0M7, d0_7⟩ := RepS.open_ d0_7
  have d1 := hy
  obtain ⟨d1v7, rfl, d1_0, d1_1, d1_2, d1_3, d1_4, d1_5, d1_6, d1_7⟩ := ru_iff.1 hy
  obtain ⟨d1A7, d1c7, rfl, d1m7, d1M7, d1_7⟩ := RepS.open_ d1_7
  refine calls_st (n := 31) Tryz.func134 rfl rfl rfl ?_
  intro G bF cs hb hfn hR hP
  simp only [ini]
  refine st_seq ?_
  refine st_region ?_
  refine sr_op rfl rfl (ow_box H (v := .agg #[.string x.kind, .int .i64 x.kindNo, .int .i64 x.think, .int .i64 x.expr.kind, .int .i64 x.expr.n, .int .i64 x.expr.no, .string x.expr.name, .slice d0A7 x.expr.l.length d0c7]) rfl [.string x.kind, .int .i64 x.kindNo, .int .i64 x.think, .int .i64 x.expr.kind, .int .i64 x.expr.n, .int .i64 x.expr.no, .string x.expr.name, .slice d0A7 x.expr.l.length d0c7] rfl (fun g1 _ H => ?_))
  refine sr_op rfl rfl (ow_box H (v := .agg #[.string y.kind, .int .i64 y.kindNo, .int .i64 y.think, .int .i64 y.expr.kind, .int .i64 y.expr.n, .int .i64 y.expr.no, .string y.expr.name, .slice d1A7 y.expr.l.length d1c7]) rfl [.string y.kind, .int .i64 y.kindNo, .int .i64 y.think, .int .i64 y.expr.kind, .int .i64 y.expr.n, .int .i64 y.expr.no, .string y.expr.name, .slice d1A7 y.expr.l.length d1c7] rfl (fun g2 _ H => ?_))
  refine sr_op rfl rfl (ow_assign (v := .bool false) rfl ?_)
  refine sr_nil ?_
  refine st_seq ?_
  refine st_region ?_
  refine sr_op rfl rfl (ow_fieldAddr fd84_0 ty9 rfl rfl (r := 0) rfl ?_)
  refine sr_op rfl rfl (ow_load (v := .string x.kind) ty9 H rfl 1 rfl rfl rfl rfl ?_)
  refine sr_op rfl rfl (ow_fieldAddr fd84_0 ty9 rfl rfl (r := 0) rfl ?_)
  refine sr_op rfl rfl (ow_load (v := .string y.kind) ty9 H rfl 0 rfl rfl rfl rfl ?_)
  refine sr_op rfl rfl (ow_seq rfl rfl ?_)
  refine sr_op rfl rfl (ow_move (v := .bool (decide (x.kind = y.kind))) rfl ?_)
  refine sr_cut 6 (fun m_ w_ => ∃ (r_ : Sl) (v_ : Bool), m_ = (16, .bool v_) :: (2, .pointer (some ⟨g1, 0, none⟩)) :: (3, .pointer (some ⟨g2, 0, none⟩)) :: (4, .bool false) :: r_ ∧ Hp B I w_ ((g2, Ob [.string y.kind, .int .i64 y.kindNo, .int .i64 y.think, .int .i64 y.expr.kind, .int .i64 y.expr.n, .int .i64 y.expr.no, .string y.expr.name, .slice d1A7 y.expr.l.length d1c7] 84) :: (g1, Ob [.string x.kind, .int .i64 x.kindNo, .int .i64 x.think, .int .i64 x.expr.kind, .int .i64 x.expr.n, .int .i64 x.expr.no, .string x.expr.name, .slice d0A7 x.expr.l.length d0c7] 84) :: L) ∧ v_ = ((decide (x.kind = y.kind)) && (decide (x.kindNo = y.kindNo)))) (fun again => ?_) ?_
  · rcases hg : decide (x.kind = y.kind) with _ | _
    · refine sr_pass rfl (j := 5) (d := 10) rfl rfl rfl (u := false) (v := true) rfl rfl ?_
      refine sr_pass rfl (j := 5) (d := 10) rfl rfl rfl (u := false) (v := true) rfl rfl ?_
      refine sr_pass rfl (j := 5) (d := 10) rfl rfl rfl (u := false) (v := true) rfl rfl ?_
      refine sr_pass rfl (j := 5) (d := 10) rfl rfl rfl (u := false) (v := true) rfl rfl ?_
      refine sr_pass rfl (j := 5) (d := 10) rfl rfl rfl (u := false) (v := true) rfl rfl ?_
      refine sr_op rfl rfl (ow_pick (v := .bool false) rfl rfl ?_)
      exact sr_live [16, 2, 3, 4] (again _ _ ⟨_, _, rfl, H, by rw [hg] <;> rfl⟩)
    · refine sr_want rfl (j := 5) (d := 10) rfl rfl rfl (v := true) rfl rfl (ow_fieldAddr fd84_1 ty3 rfl rfl (r := 1) rfl ?_)
      refine sr_want rfl (j := 5) (d := 10) rfl rfl rfl (v := true) rfl rfl (ow_load (v := .int .i64 x.kindNo) ty3 H rfl 1 rfl rfl rfl rfl ?_)
      refine sr_want rfl (j := 5) (d := 10) rfl rfl rfl (v := true) rfl rfl (ow_fieldAddr fd84_1 ty3 rfl rfl (r := 1) rfl ?_)
      refine sr_want rfl (j := 5) (d := 10) rfl rfl rfl (v := true) rfl rfl (ow_load (v := .int .i64 y.kindNo) ty3 H rfl 0 rfl rfl rfl rfl ?_)
      refine sr_want rfl (j := 5) (d := 10) rfl rfl rfl (v := true) rfl rfl (ow_eql rfl rfl ?_)
      refine sr_op rfl rfl (ow_pick (v := .bool (decide (x.kindNo = y.kindNo))) rfl rfl ?_)
      exact sr_live [16, 2, 3, 4] (again _ _ ⟨_, _, rfl, H, by rw [hg] <;> rfl⟩)
  rintro _ _ ⟨r, _, rfl, H, rfl⟩
  refine sr_op rfl rfl (ow_move (v := .bool ((decide (x.kind = y.kind)) && (decide (x.kindNo = y.kindNo)))) rfl ?_)
  refine sr_cut 6 (fun m_ w_ => ∃ (r_ : Sl) (v_ : Bool), m_ = (23, .bool v_) :: (2, .pointer (some ⟨g1, 0, none⟩)) :: (3, .pointer (some ⟨g2, 0, none⟩)) :: (4, .bool false) :: r_ ∧ Hp B I w_ ((g2, Ob [.string y.kind, .int .i64 y.kindNo, .int .i64 y.think, .int .i64 y.expr.kind, .int .i64 y.expr.n, .int .i64 y.expr.no, .string y.expr.name, .slice d1A7 y.expr.l.length d1c7] 84) :: (g1, Ob [.string x.kind, .int .i64 x.kindNo, .int .i64 x.think, .int .i64 x.expr.kind, .int .i64 x.expr.n, .int .i64 x.expr.no, .string x.expr.name, .slice d0A7 x.expr.l.length d0c7] 84) :: L) ∧ v_ = (((decide (x.kind = y.kind)) && (decide (x.kindNo = y.kindNo))) && (decide (x.think = y.think)))) (fun again => ?_) ?_
  · rcases hg : (decide (x.kind = y.kind)) && (decide (x.kindNo = y.kindNo)) with _ | _
    · refine sr_pass rfl (j := 12) (d := 17) rfl rfl rfl (u := false) (v := true) rfl rfl ?_
      refine sr_pass rfl (j := 12) (d := 17) rfl rfl rfl (u := false) (v := true) rfl rfl ?_
      refine sr_pass rfl (j := 12) (d := 17) rfl rfl rfl (u := false) (v := true) rfl rfl ?_
      refine sr_pass rfl (j := 12) (d := 17) rfl rfl rfl (u := false) (v := true) rfl rfl ?_
      refine sr_pass rfl (j := 12) (d := 17) rfl rfl rfl (u := false) (v := true) rfl rfl ?_
      refine sr_op rfl rfl (ow_pick (v := .bool false) rfl rfl ?_)
      exact sr_live [23, 2, 3, 4] (again _ _ ⟨_, _, rfl, H, by rw [hg] <;> rfl⟩)
    · refine sr_want rfl (j := 12) (d := 17) rfl rfl rfl (v := true) rfl rfl (ow_fieldAddr fd84_2 ty3 rfl rfl (r := 2) rfl ?_)
      refine sr_want rfl (j := 12) (d := 17) rfl rfl rfl (v := true) rfl rfl (ow_load (v := .int .i64 x.think) ty3 H rfl 1 rfl rfl rfl rfl ?_)
      refine sr_want rfl (j := 12) (d := 17) rfl rfl rfl (v := true) rfl rfl (ow_fieldAddr fd84_2 ty3 rfl rfl (r := 2) rfl ?_)
      refine sr_want rfl (j := 12) (d := 17) rfl rfl rfl (v := true) rfl rfl (ow_load (v := .int .i64 y.think) ty3 H rfl 0 rfl rfl rfl rfl ?_)
      refine sr_want rfl (j := 12) (d := 17) rfl rfl rfl (v := true) rfl rfl (ow_eql rfl rfl ?_)
      refine sr_op rfl rfl (ow_pick (v := .bool (decide (x.think = y.think))) rfl rfl ?_)
      exact sr_live [23, 2, 3, 4] (again _ _ ⟨_, _, rfl, H, by rw [hg] <;> rfl⟩)
  rintro _ _ ⟨r, _, rfl, H, rfl⟩
  refine sr_op rfl rfl (ow_move (v := .bool (((decide (x.kind = y.kind)) && (decide (x.kindNo = y.kindNo))) && (decide (x.think = y.think)))) rfl ?_)
  refine sr_cut 6 (fun m_ w_ => ∃ (r_ : Sl) (v_ : Bool), m_ = (30, .bool v_) :: (4, .bool false) :: r_ ∧ Hp B I w_ ((g2, Ob [.string y.kind, .int .i64 y.kindNo, .int .i64 y.think, .int .i64 y.expr.kind, .int .i64 y.expr.n, .int .i64 y.expr.no, .string y.expr.name, .slice d1A7 y.expr.l.length d1c7] 84) :: (g1, Ob [.string x.kind, .int .i64 x.kindNo, .int .i64 x.think, .int .i64 x.expr.kind, .int .i64 x.expr.n, .int .i64 x.expr.no, .string x.expr.name, .slice d0A7 x.expr.l.length d0c7] 84) :: L) ∧ v_ = ((((decide (x.kind = y.kind)) && (decide (x.kindNo = y.kindNo))) && (decide (x.think = y.think))) && (sameX x.expr y.expr))) (fun again => ?_) ?_
  · rcases hg : ((decide (x.kind = y.kind)) && (decide (x.kindNo = y.kindNo))) && (decide (x.think = y.think)) with _ | _
    · refine sr_pass rfl (j := 19) (d := 24) rfl rfl rfl (u := false) (v := true) rfl rfl ?_
      refine sr_pass rfl (j := 19) (d := 24) rfl rfl rfl (u := false) (v := true) rfl rfl ?_
      refine sr_pass rfl (j := 19) (d := 24) rfl rfl rfl (u := false) (v := true) rfl rfl ?_
      refine sr_pass rfl (j := 19) (d := 24) rfl rfl rfl (u := false) (v := true) rfl rfl ?_
      refine sr_pass rfl (j := 19) (d := 24) rfl rfl rfl (u := false) (v := true) rfl rfl ?_
      refine sr_op rfl rfl (ow_pick (v := .bool false) rfl rfl ?_)
      exact sr_live [30, 4] (again _ _ ⟨_, _, rfl, H, by rw [hg] <;> rfl⟩)
    · refine sr_want rfl (j := 19) (d := 24) rfl rfl rfl (v := true) rfl rfl (ow_fieldAddr fd84_3 ty26 rfl rfl (r := 3) rfl ?_)
      refine sr_want rfl (j := 19) (d := 24) rfl rfl rfl (v := true) rfl rfl (ow_load (v := .agg #[.int .i64 x.expr.kind, .int .i64 x.expr.n, .int .i64 x.expr.no, .string x.expr.name, .slice d0A7 x.expr.l.length d0c7]) ty26 H rfl 1 rfl rfl rfl rfl ?_)
      refine sr_want rfl (j := 19) (d := 24) rfl rfl rfl (v := true) rfl rfl (ow_fieldAddr fd84_3 ty26 rfl rfl (r := 3) rfl ?_)
      refine sr_want rfl (j := 19) (d := 24) rfl rfl rfl (v := true) rfl rfl (ow_load (v := .agg #[.int .i64 y.expr.kind, .int .i64 y.expr.n, .int .i64 y.expr.no, .string y.expr.name, .slice d1A7 y.expr.l.length d1c7]) ty26 H rfl 0 rfl rfl rfl rfl ?_)
      refine sr_want rfl (j := 19) (d := 24) rfl rfl rfl (v := true) rfl rfl (ow_call en135 rfl (sameExpr_c _ (Nat.le_refl _) H (ex_iff.2 ⟨_, rfl, d0_3, d0_4, d0_5, d0_6, d0_7⟩) (ex_iff.2 ⟨_, rfl, d1_3, d1_4, d1_5, d1_6, d1_7⟩)) ?_)
      rintro _ _ ⟨rfl, H⟩
      refine sr_op rfl rfl (ow_pick (v := .bool (sameX x.expr y.expr)) rfl rfl ?_)
      exact sr_live [30, 4] (again _ _ ⟨_, _, rfl, H, by rw [hg] <;> rfl⟩)
  rintro _ _ ⟨r, _, rfl, H, rfl⟩
  refine sr_op rfl rfl (ow_assign (v := .bool ((((decide (x.kind = y.kind)) && (decide (x.kindNo = y.kindNo))) && (decide (x.think = y.think))) && (sameX x.expr y.expr))) rfl ?_)
  refine sr_nil ?_
  refine st_ret hb (hR _ _ (.bool ((((decide (x.kind = y.kind)) && (decide (x.kindNo = y.kindNo))) && (decide (x.think = y.think))) && (sameX x.expr y.expr))) (res_run (vs := [.bool ((((decide (x.kind = y.kind)) && (decide (x.kindNo = y.kindNo))) && (decide (x.think = y.think))) && (sameX x.expr y.expr))]) Tryz.results134 ⟨_, _, rfl, rfl, rfl⟩) ?_)
  exact ⟨_, rfl, rfl, (H.drop 2)⟩
theorem equalR_c {B I L w}  {l m : List Ru} {v u : Value} (H : Hp B I w L) (hl : RepS encRu I 8 l v) (hm : RepS encRu I 8 m u) : Calls Tryz.prog 137 #[v, u, .func (.func 134) #[] #[]] w (Rt fun r w' => r = .bool (sameRs l m) ∧ Hp B I w' L) := by
  obtain ⟨s0A, s0c, rfl, s0m, s0M, s0⟩ := RepS.open_ hl
  obtain ⟨s1A, s1c, rfl, s1m, s1M, s1⟩ := RepS.open_ hm
  refine calls_st (n := 32) Tryz.func137 rfl rfl rfl ?_
  intro G bF cs hb hfn hR hP
  simp only [ini]
  refine st_seq ?_
  refine st_region ?_
  refine sr_op rfl rfl (ow_assign (v := .bool false) rfl ?_)
  refine sr_nil ?_
  refine st_seq ?_
  refine st_seq ?_
  refine st_region ?_
  refine sr_op rfl rfl (ow_move (v := .slice s0A l.length s0c) rfl ?_)
  refine sr_op rfl rfl (ow_lenS sl23 rfl rfl ?_)
  refine sr_op rfl rfl (ow_move (v := .slice s1A m.length s1c) rfl ?_)
  refine sr_op rfl rfl (ow_lenS sl23 rfl rfl ?_)
  refine sr_op rfl rfl (ow_neq rfl rfl ?_)
  refine sr_nil ?_
  refine st_cond (!decide ((l.length : Int) = (m.length : Int))) rfl (fun hc1 => ?_) (fun hc1 => ?_)
  · have hc1 := bnt hc1
    have hc1 := of_decide_eq_false hc1
    refine st_seq ?_
    refine st_region ?_
    refine sr_op rfl rfl (ow_assign (v := .bool false) rfl ?_)
    refine sr_nil ?_
    refine st_ret hb (hR _ _ (.bool false) (res_run (vs := [.bool false]) Tryz.results137 ⟨_, _, rfl, rfl, rfl⟩) ?_)
    exact ⟨_, rfl, congrArg Value.bool (sameRs_no hc1).symm, H⟩
  · have hc1 := bnf hc1
    have hc1 := of_decide_eq_true hc1
    have hlen : l.length = m.length := by omega
    refine st_skip ?_
    refine st_seq ?_
    refine st_seq ?_
    refine st_region ?_
    refine sr_op rfl rfl (ow_move (v := .slice s0A l.length s0c) rfl ?_)
    refine sr_op rfl rfl (ow_lenS sl23 rfl rfl ?_)
    refine sr_op rfl rfl (ow_move (v := .int .i64 0) rfl ?_)
    refine sr_nil ?_
    refine st_block ?_
    refine st_loop ?_
    refine st_live [1, 2, 6, 15, 16, 17] ?_
    refine st_ind (fun d_ m_ w_ => ∃ (i : Nat) (r_ : Sl), d_ = l.length - i ∧ m_ = (1, .slice s1A m.length s1c) :: (2, .func (.func 134) #[] #[]) :: (6, .bool false) :: (15, .slice s0A l.length s0c) :: (16, .int .i64 (l.length : Int)) :: (17, .int .i64 (i : Int)) :: r_ ∧ Hp B I w_ (L) ∧ i ≤ l.length ∧ sameRs l m = sameRs (l.drop i) (m.drop i)) _ ⟨0, _, rfl, rfl, H, Nat.zero_le _, rfl⟩ ?_
    rintro _ _ _ ⟨i, r3, rfl, rfl, H, hi, ha⟩ ih4
    refine st_seq ?_
    refine st_region ?_
    refine sr_op rfl rfl (ow_lss rfl rfl ?_)
    refine sr_nil ?_
    refine st_seq ?_
    refine st_cond (decide ((i : Int) < (l.length : Int))) rfl (fun hc5 => ?_) (fun hc5 => ?_)
    · have hc5 := of_decide_eq_true hc5
      refine st_skip ?_
      refine st_seq ?_
      refine st_block ?_
      refine st_seq ?_
      refine st_region ?_
      refine sr_op rfl rfl (ow_move (v := .int .i64 (i : Int)) rfl ?_)
      obtain ⟨e6, he6⟩ : ∃ q_, l[i]? = some q_ := ⟨_, List.getElem?_eq_getElem (by omega)⟩
      obtain ⟨b6, o6, us6, hA6, hat6, hul6, hr6⟩ := RepS.get s0 he6
      have d6 := hr6
      obtain ⟨d6v7, rfl, d6_0, d6_1, d6_2, d6_3, d6_4, d6_5, d6_6, d6_7⟩ := ru_iff.1 hr6
      obtain ⟨d6A7, d6c7, rfl, d6m7, d6M7, d6_7⟩ := RepS.open_ d6_7
      refine sr_op rfl rfl (ow_indexAddrA sl23 ty84 hA6 rfl rfl (by omega) (by omega) (r := o6 + i * 8) rfl ?_)
      refine sr_op rfl rfl (ow_loadI (v := .agg #[.string e6.kind, .int .i64 e6.kindNo, .int .i64 e6.think, .int .i64 e6.expr.kind, .int .i64 e6.expr.n, .int .i64 e6.expr.no, .string e6.expr.name, .slice d6A7 e6.expr.l.length d6c7]) ty84 H rfl hat6 rfl rfl rfl ?_)
      refine sr_op rfl rfl (ow_alloc ty84 H [.string ⟨#[]⟩, .int .i64 0, .int .i64 0, .int .i64 0, .int .i64 0, .int .i64 0, .string ⟨#[]⟩, .slice none 0 0] rfl (fun g7 _ H => ?_))
      refine sr_op rfl rfl (ow_assign (v := .int .i64 (i : Int)) rfl ?_)
      refine sr_op rfl rfl (ow_store ty84 H rfl (v := .agg #[.string e6.kind, .int .i64 e6.kindNo, .int .i64 e6.think, .int .i64 e6.expr.kind, .int .i64 e6.expr.n, .int .i64 e6.expr.no, .string e6.expr.name, .slice d6A7 e6.expr.l.length d6c7]) rfl [.string e6.kind, .int .i64 e6.kindNo, .int .i64 e6.think, .int .i64 e6.expr.kind, .int .i64 e6.expr.n, .int .i64 e6.expr.no, .string e6.expr.name, .slice d6A7 e6.expr.l.length d6c7] rfl rfl rfl 0 rfl rfl (fun _ H => ?_))
      refine sr_nil ?_
      refine st_seq ?_
      refine st_region ?_
      refine sr_op rfl rfl (ow_move (v := .slice s1A m.length s1c) rfl ?_)
      refine sr_op rfl rfl (ow_move (v := .int .i64 (i : Int)) rfl ?_)
      obtain ⟨e8, he8⟩ : ∃ q_, m[i]? = some q_ := ⟨_, List.getElem?_eq_getElem (by omega)⟩
      obtain ⟨b8, o8, us8, hA8, hat8, hul8, hr8⟩ := RepS.get s1 he8
      have d8 := hr8
      obtain ⟨d8v7, rfl, d8_0, d8_1, d8_2, d8_3, d8_4, d8_5, d8_6, d8_7⟩ := ru_iff.1 hr8
      obtain ⟨d8A7, d8c7, rfl, d8m7, d8M7, d8_7⟩ := RepS.open_ d8_7
      refine sr_op rfl rfl (ow_indexAddrA sl23 ty84 hA8 rfl rfl (by omega) (by omega) (r := o8 + i * 8) rfl ?_)
      refine sr_op rfl rfl (ow_loadI (v := .agg #[.string e8.kind, .int .i64 e8.kindNo, .int .i64 e8.think, .int .i64 e8.expr.kind, .int .i64 e8.expr.n, .int .i64 e8.expr.no, .string e8.expr.name, .slice d8A7 e8.expr.l.length d8c7]) ty84 H rfl hat8 rfl rfl rfl ?_)
      refine sr_op rfl rfl (ow_alloc ty84 H [.string ⟨#[]⟩, .int .i64 0, .int .i64 0, .int .i64 0, .int .i64 0, .int .i64 0, .string ⟨#[]⟩, .slice none 0 0] rfl (fun g9 _ H => ?_))
      refine sr_op rfl rfl (ow_store ty84 H rfl (v := .agg #[.string e8.kind, .int .i64 e8.kindNo, .int .i64 e8.think, .int .i64 e8.expr.kind, .int .i64 e8.expr.n, .int .i64 e8.expr.no, .string e8.expr.name, .slice d8A7 e8.expr.l.length d8c7]) rfl [.string e8.kind, .int .i64 e8.kindNo, .int .i64 e8.think, .int .i64 e8.expr.kind, .int .i64 e8.expr.n, .int .i64 e8.expr.no, .string e8.expr.name, .slice d8A7 e8.expr.l.length d8c7] rfl rfl rfl 0 rfl rfl (fun _ H => ?_))
      refine sr_nil ?_
      refine st_seq ?_
      refine st_region ?_
      refine sr_op rfl rfl (ow_move (v := .func (.func 134) #[] #[]) rfl ?_)
      refine sr_op rfl rfl (ow_load (v := .agg #[.string e6.kind, .int .i64 e6.kindNo, .int .i64 e6.think, .int .i64 e6.expr.kind, .int .i64 e6.expr.n, .int .i64 e6.expr.no, .string e6.expr.name, .slice d6A7 e6.expr.l.length d6c7]) ty84 H rfl 1 rfl rfl rfl rfl ?_)
      refine sr_op rfl rfl (ow_load (v := .agg #[.string e8.kind, .int .i64 e8.kindNo, .int .i64 e8.think, .int .i64 e8.expr.kind, .int .i64 e8.expr.n, .int .i64 e8.expr.no, .string e8.expr.name, .slice d8A7 e8.expr.l.length d8c7]) ty84 H rfl 0 rfl rfl rfl rfl ?_)
      refine sr_op rfl rfl (ow_callV en134 (first := []) (cap := []) rfl rfl (sameR_c H d6 d8) ?_)
      rintro _ _ ⟨rfl, H⟩
      refine sr_op rfl rfl (ow_not rfl ?_)
      refine sr_nil ?_
      refine st_cond (!(sameR e6 e8)) rfl (fun hc10 => ?_) (fun hc10 => ?_)
      · have hbad := bnt hc10
        refine st_seq ?_
        refine st_region ?_
        refine sr_op rfl rfl (ow_assign (v := .bool false) rfl ?_)
        refine sr_nil ?_
        refine st_ret hb (hR _ _ (.bool false) (res_run (vs := [.bool false]) Tryz.results137 ⟨_, _, rfl, rfl, rfl⟩) ?_)
        exact ⟨_, rfl, congrArg Value.bool (by rw [ha, drop_some he6, drop_some he8, sameRs, hbad, Bool.false_and]), (H.drop 2)⟩
      · have hgood := bnf hc10
        refine st_skip ?_
        refine st_inBlock ?_
        refine st_region ?_
        refine sr_op rfl rfl (ow_add (r := ((i + 1 : Nat) : Int)) rfl rfl (inc_i64 (by omega)) ?_)
        refine sr_op rfl rfl (ow_move (v := .int .i64 ((i + 1 : Nat) : Int)) rfl ?_)
        refine sr_nil ?_
        exact st_inLoop (st_live [1, 2, 6, 15, 16, 17] (ih4 _ _ _ (by omega) ⟨i + 1, _, rfl, rfl, H.drop 2, by omega, by rw [ha, drop_some he6, drop_some he8, sameRs, hgood, Bool.true_and]⟩))
    · have hc5 := of_decide_eq_false hc5
      refine st_exit rfl ?_
      refine st_seq ?_
      refine st_region ?_
      refine sr_op rfl rfl (ow_assign (v := .bool true) rfl ?_)
      refine sr_nil ?_
      refine st_ret hb (hR _ _ (.bool true) (res_run (vs := [.bool true]) Tryz.results137 ⟨_, _, rfl, rfl, rfl⟩) ?_)
      have h1 : l.drop i = [] := List.drop_of_length_le (by omega)
      have h2 : m.drop i = [] := List.drop_of_length_le (by omega)
      exact ⟨_, rfl, congrArg Value.bool (by rw [ha, h1, h2]; rfl), H⟩
theorem same_c {B I L w} {p q : Po} {us ws : List Value} (H : Hp B I w L) (hx : RepL I (encPo p) us) (hy : RepL I (encPo q) ws) : Calls Tryz.prog 49 #[.agg us.toArray, .agg ws.toArray] w (Rt fun r w' => r = .bool (sameP p q) ∧ Hp B I w' L) := by
  have d0 := hx
  obtain ⟨d0v1, d0v2, d0v3, d0v8, rfl, d0_0, d0_1, d0_2, d0_3, d0_4, d0_5, d0_6, d0_7, d0_8, d0_9⟩ := po_iff.1 hx
  obtain ⟨d0A1, d0c1, rfl, d0m1, d0M1, d0_1⟩ := RepS.open_ d0_1
  obtain ⟨d0A2, d0c2, rfl, d0m2, d0M2, d0_2⟩ := RepS.open_ d0_2
  obtain ⟨d0A3, d0c3, rfl, d0m3, d0M3, d0_3⟩ := RepS.open_ d0_3
  obtain ⟨d0A8, d0c8, rfl, d0m8, d0M8, d0_8⟩ := RepS.open_ d0_8
  have d1 := hy
  obtain ⟨d1v1, d1v2, d1v3, d1v8, rfl, d1_0, d1_1, d1_2, d1_3, d1_4, d1_5, d1_6, d1_7, d1_8, d1_9⟩ := po_iff.1 hy
  obtain ⟨d1A1, d1c1, rfl, d1m1, d1M1, d1_1⟩ := RepS.open_ d1_1
  obtain ⟨d1A2, d1c2, rfl, d1m2, d1M2, d1_2⟩ := RepS.open_ d1_2
  obtain ⟨d1A3, d1c3, rfl, d1m3, d1M3, d1_3⟩ := RepS.open_ d1_3
  obtain ⟨d1A8, d1c8, rfl, d1m8, d1M8, d1_8⟩ := RepS.open_ d1_8
  refine calls_st (n := 47) Tryz.func49 rfl rfl rfl ?_
  intro G bF cs hb hfn hR hP
  simp only [ini]
  refine st_seq ?_
  refine st_region ?_
  refine sr_op rfl rfl (ow_box H (v := .agg #[.string p.name, .slice d0A1 p.kinds.length d0c1, .slice d0A2 p.offices.length d0c2, .slice d0A3 p.rules.length d0c3, .int .i64 p.change.kind, .int .i64 p.change.n, .int .i64 p.change.no, .string p.change.name, .slice d0A8 p.change.l.length d0c8, .int .i64 p.mode]) rfl [.string p.name, .slice d0A1 p.kinds.length d0c1, .slice d0A2 p.offices.length d0c2, .slice d0A3 p.rules.length d0c3, .int .i64 p.change.kind, .int .i64 p.change.n, .int .i64 p.change.no, .string p.change.name, .slice d0A8 p.change.l.length d0c8, .int .i64 p.mode] rfl (fun g1 _ H => ?_))
  refine sr_op rfl rfl (ow_box H (v := .agg #[.string q.name, .slice d1A1 q.kinds.length d1c1, .slice d1A2 q.offices.length d1c2, .slice d1A3 q.rules.length d1c3, .int .i64 q.change.kind, .int .i64 q.change.n, .int .i64 q.change.no, .string q.change.name, .slice d1A8 q.change.l.length d1c8, .int .i64 q.mode]) rfl [.string q.name, .slice d1A1 q.kinds.length d1c1, .slice d1A2 q.offices.length d1c2, .slice d1A3 q.rules.length d1c3, .int .i64 q.change.kind, .int .i64 q.change.n, .int .i64 q.change.no, .string q.change.name, .slice d1A8 q.change.l.length d1c8, .int .i64 q.mode] rfl (fun g2 _ H => ?_))
  refine sr_op rfl rfl (ow_assign (v := .bool false) rfl ?_)
  refine sr_nil ?_
  refine st_seq ?_
  refine st_region ?_
  refine sr_op rfl rfl (ow_assign (v := .func (.func 134) #[] #[]) rfl ?_)
  refine sr_nil ?_
  refine st_seq ?_
  refine st_region ?_
  refine sr_op rfl rfl (ow_fieldAddr fd28_0 ty9 rfl rfl (r := 0) rfl ?_)
  refine sr_op rfl rfl (ow_load (v := .string p.name) ty9 H rfl 1 rfl rfl rfl rfl ?_)
  refine sr_op rfl rfl (ow_fieldAddr fd28_0 ty9 rfl rfl (r := 0) rfl ?_)
  refine sr_op rfl rfl (ow_load (v := .string q.name) ty9 H rfl 0 rfl rfl rfl rfl ?_)
  refine sr_op rfl rfl (ow_seq rfl rfl ?_)
  refine sr_op rfl rfl (ow_move (v := .bool (decide (p.name = q.name))) rfl ?_)
  refine sr_cut 6 (fun m_ w_ => ∃ (r_ : Sl) (v_ : Bool), m_ = (17, .bool v_) :: (2, .pointer (some ⟨g1, 0, none⟩)) :: (3, .pointer (some ⟨g2, 0, none⟩)) :: (4, .bool false) :: (5, .func (.func 134) #[] #[]) :: r_ ∧ Hp B I w_ ((g2, Ob [.string q.name, .slice d1A1 q.kinds.length d1c1, .slice d1A2 q.offices.length d1c2, .slice d1A3 q.rules.length d1c3, .int .i64 q.change.kind, .int .i64 q.change.n, .int .i64 q.change.no, .string q.change.name, .slice d1A8 q.change.l.length d1c8, .int .i64 q.mode] 28) :: (g1, Ob [.string p.name, .slice d0A1 p.kinds.length d0c1, .slice d0A2 p.offices.length d0c2, .slice d0A3 p.rules.length d0c3, .int .i64 p.change.kind, .int .i64 p.change.n, .int .i64 p.change.no, .string p.change.name, .slice d0A8 p.change.l.length d0c8, .int .i64 p.mode] 28) :: L) ∧ v_ = ((decide (p.name = q.name)) && (decide (p.mode = q.mode)))) (fun again => ?_) ?_
  · rcases hg : decide (p.name = q.name) with _ | _
    · refine sr_pass rfl (j := 5) (d := 11) rfl rfl rfl (u := false) (v := true) rfl rfl ?_
      refine sr_pass rfl (j := 5) (d := 11) rfl rfl rfl (u := false) (v := true) rfl rfl ?_
      refine sr_pass rfl (j := 5) (d := 11) rfl rfl rfl (u := false) (v := true) rfl rfl ?_
      refine sr_pass rfl (j := 5) (d := 11) rfl rfl rfl (u := false) (v := true) rfl rfl ?_
      refine sr_pass rfl (j := 5) (d := 11) rfl rfl rfl (u := false) (v := true) rfl rfl ?_
      refine sr_op rfl rfl (ow_pick (v := .bool false) rfl rfl ?_)
      exact sr_live [17, 2, 3, 4, 5] (again _ _ ⟨_, _, rfl, H, by rw [hg] <;> rfl⟩)
    · refine sr_want rfl (j := 5) (d := 11) rfl rfl rfl (v := true) rfl rfl (ow_fieldAddr fd28_5 ty3 rfl rfl (r := 9) rfl ?_)
      refine sr_want rfl (j := 5) (d := 11) rfl rfl rfl (v := true) rfl rfl (ow_load (v := .int .i64 p.mode) ty3 H rfl 1 rfl rfl rfl rfl ?_)
      refine sr_want rfl (j := 5) (d := 11) rfl rfl rfl (v := true) rfl rfl (ow_fieldAddr fd28_5 ty3 rfl rfl (r := 9) rfl ?_)
      refine sr_want rfl (j := 5) (d := 11) rfl rfl rfl (v := true) rfl rfl (ow_load (v := .int .i64 q.mode) ty3 H rfl 0 rfl rfl rfl rfl ?_)
      refine sr_want rfl (j := 5) (d := 11) rfl rfl rfl (v := true) rfl rfl (ow_eql rfl rfl ?_)
      refine sr_op rfl rfl (ow_pick (v := .bool (decide (p.mode = q.mode))) rfl rfl ?_)
      exact sr_live [17, 2, 3, 4, 5] (again _ _ ⟨_, _, rfl, H, by rw [hg] <;> rfl⟩)
  rintro _ _ ⟨r, _, rfl, H, rfl⟩
  refine sr_op rfl rfl (ow_move (v := .bool ((decide (p.name = q.name)) && (decide (p.mode = q.mode)))) rfl ?_)
  refine sr_cut 6 (fun m_ w_ => ∃ (r_ : Sl) (v_ : Bool), m_ = (24, .bool v_) :: (2, .pointer (some ⟨g1, 0, none⟩)) :: (3, .pointer (some ⟨g2, 0, none⟩)) :: (4, .bool false) :: (5, .func (.func 134) #[] #[]) :: r_ ∧ Hp B I w_ ((g2, Ob [.string q.name, .slice d1A1 q.kinds.length d1c1, .slice d1A2 q.offices.length d1c2, .slice d1A3 q.rules.length d1c3, .int .i64 q.change.kind, .int .i64 q.change.n, .int .i64 q.change.no, .string q.change.name, .slice d1A8 q.change.l.length d1c8, .int .i64 q.mode] 28) :: (g1, Ob [.string p.name, .slice d0A1 p.kinds.length d0c1, .slice d0A2 p.offices.length d0c2, .slice d0A3 p.rules.length d0c3, .int .i64 p.change.kind, .int .i64 p.change.n, .int .i64 p.change.no, .string p.change.name, .slice d0A8 p.change.l.length d0c8, .int .i64 p.mode] 28) :: L) ∧ v_ = (((decide (p.name = q.name)) && (decide (p.mode = q.mode))) && (sameT p.offices q.offices))) (fun again => ?_) ?_
  · rcases hg : (decide (p.name = q.name)) && (decide (p.mode = q.mode)) with _ | _
    · refine sr_pass rfl (j := 12) (d := 18) rfl rfl rfl (u := false) (v := true) rfl rfl ?_
      refine sr_pass rfl (j := 12) (d := 18) rfl rfl rfl (u := false) (v := true) rfl rfl ?_
      refine sr_pass rfl (j := 12) (d := 18) rfl rfl rfl (u := false) (v := true) rfl rfl ?_
      refine sr_pass rfl (j := 12) (d := 18) rfl rfl rfl (u := false) (v := true) rfl rfl ?_
      refine sr_pass rfl (j := 12) (d := 18) rfl rfl rfl (u := false) (v := true) rfl rfl ?_
      refine sr_op rfl rfl (ow_pick (v := .bool false) rfl rfl ?_)
      exact sr_live [24, 2, 3, 4, 5] (again _ _ ⟨_, _, rfl, H, by rw [hg] <;> rfl⟩)
    · refine sr_want rfl (j := 12) (d := 18) rfl rfl rfl (v := true) rfl rfl (ow_fieldAddr fd28_2 ty22 rfl rfl (r := 2) rfl ?_)
      refine sr_want rfl (j := 12) (d := 18) rfl rfl rfl (v := true) rfl rfl (ow_load (v := .slice d0A2 p.offices.length d0c2) ty22 H rfl 1 rfl rfl rfl rfl ?_)
      refine sr_want rfl (j := 12) (d := 18) rfl rfl rfl (v := true) rfl rfl (ow_fieldAddr fd28_2 ty22 rfl rfl (r := 2) rfl ?_)
      refine sr_want rfl (j := 12) (d := 18) rfl rfl rfl (v := true) rfl rfl (ow_load (v := .slice d1A2 q.offices.length d1c2) ty22 H rfl 0 rfl rfl rfl rfl ?_)
      refine sr_want rfl (j := 12) (d := 18) rfl rfl rfl (v := true) rfl rfl (ow_call en136 rfl (equalS_c H d0_2 d1_2) ?_)
      rintro _ _ ⟨rfl, H⟩
      refine sr_op rfl rfl (ow_pick (v := .bool (sameT p.offices q.offices)) rfl rfl ?_)
      exact sr_live [24, 2, 3, 4, 5] (again _ _ ⟨_, _, rfl, H, by rw [hg] <;> rfl⟩)
  rintro _ _ ⟨r, _, rfl, H, rfl⟩
  refine sr_op rfl rfl (ow_move (v := .bool (((decide (p.name = q.name)) && (decide (p.mode = q.mode))) && (sameT p.offices q.offices))) rfl ?_)
  refine sr_cut 6 (fun m_ w_ => ∃ (r_ : Sl) (v_ : Bool), m_ = (31, .bool v_) :: (2, .pointer (some ⟨g1, 0, none⟩)) :: (3, .pointer (some ⟨g2, 0, none⟩)) :: (4, .bool false) :: (5, .func (.func 134) #[] #[]) :: r_ ∧ Hp B I w_ ((g2, Ob [.string q.name, .slice d1A1 q.kinds.length d1c1, .slice d1A2 q.offices.length d1c2, .slice d1A3 q.rules.length d1c3, .int .i64 q.change.kind, .int .i64 q.change.n, .int .i64 q.change.no, .string q.change.name, .slice d1A8 q.change.l.length d1c8, .int .i64 q.mode] 28) :: (g1, Ob [.string p.name, .slice d0A1 p.kinds.length d0c1, .slice d0A2 p.offices.length d0c2, .slice d0A3 p.rules.length d0c3, .int .i64 p.change.kind, .int .i64 p.change.n, .int .i64 p.change.no, .string p.change.name, .slice d0A8 p.change.l.length d0c8, .int .i64 p.mode] 28) :: L) ∧ v_ = ((((decide (p.name = q.name)) && (decide (p.mode = q.mode))) && (sameT p.offices q.offices)) && (sameT p.kinds q.kinds))) (fun again => ?_) ?_
  · rcases hg : ((decide (p.name = q.name)) && (decide (p.mode = q.mode))) && (sameT p.offices q.offices) with _ | _
    · refine sr_pass rfl (j := 19) (d := 25) rfl rfl rfl (u := false) (v := true) rfl rfl ?_
      refine sr_pass rfl (j := 19) (d := 25) rfl rfl rfl (u := false) (v := true) rfl rfl ?_
      refine sr_pass rfl (j := 19) (d := 25) rfl rfl rfl (u := false) (v := true) rfl rfl ?_
      refine sr_pass rfl (j := 19) (d := 25) rfl rfl rfl (u := false) (v := true) rfl rfl ?_
      refine sr_pass rfl (j := 19) (d := 25) rfl rfl rfl (u := false) (v := true) rfl rfl ?_
      refine sr_op rfl rfl (ow_pick (v := .bool false) rfl rfl ?_)
      exact sr_live [31, 2, 3, 4, 5] (again _ _ ⟨_, _, rfl, H, by rw [hg] <;> rfl⟩)
    · refine sr_want rfl (j := 19) (d := 25) rfl rfl rfl (v := true) rfl rfl (ow_fieldAddr fd28_1 ty22 rfl rfl (r := 1) rfl ?_)
      refine sr_want rfl (j := 19) (d := 25) rfl rfl rfl (v := true) rfl rfl (ow_load (v := .slice d0A1 p.kinds.length d0c1) ty22 H rfl 1 rfl rfl rfl rfl ?_)
      refine sr_want rfl (j := 19) (d := 25) rfl rfl rfl (v := true) rfl rfl (ow_fieldAddr fd28_1 ty22 rfl rfl (r := 1) rfl ?_)
      refine sr_want rfl (j := 19) (d := 25) rfl rfl rfl (v := true) rfl rfl (ow_load (v := .slice d1A1 q.kinds.length d1c1) ty22 H rfl 0 rfl rfl rfl rfl ?_)
      refine sr_want rfl (j := 19) (d := 25) rfl rfl rfl (v := true) rfl rfl (ow_call en136 rfl (equalS_c H d0_1 d1_1) ?_)
      rintro _ _ ⟨rfl, H⟩
      refine sr_op rfl rfl (ow_pick (v := .bool (sameT p.kinds q.kinds)) rfl rfl ?_)
      exact sr_live [31, 2, 3, 4, 5] (again _ _ ⟨_, _, rfl, H, by rw [hg] <;> rfl⟩)
  rintro _ _ ⟨r, _, rfl, H, rfl⟩
  refine sr_op rfl rfl (ow_move (v := .bool ((((decide (p.name = q.name)) && (decide (p.mode = q.mode))) && (sameT p.offices q.offices)) && (sameT p.kinds q.kinds))) rfl ?_)
  refine sr_cut 7 (fun m_ w_ => ∃ (r_ : Sl) (v_ : Bool), m_ = (39, .bool v_) :: (2, .pointer (some ⟨g1, 0, none⟩)) :: (3, .pointer (some ⟨g2, 0, none⟩)) :: (4, .bool false) :: r_ ∧ Hp B I w_ ((g2, Ob [.string q.name, .slice d1A1 q.kinds.length d1c1, .slice d1A2 q.offices.length d1c2, .slice d1A3 q.rules.length d1c3, .int .i64 q.change.kind, .int .i64 q.change.n, .int .i64 q.change.no, .string q.change.name, .slice d1A8 q.change.l.length d1c8, .int .i64 q.mode] 28) :: (g1, Ob [.string p.name, .slice d0A1 p.kinds.length d0c1, .slice d0A2 p.offices.length d0c2, .slice d0A3 p.rules.length d0c3, .int .i64 p.change.kind, .int .i64 p.change.n, .int .i64 p.change.no, .string p.change.name, .slice d0A8 p.change.l.length d0c8, .int .i64 p.mode] 28) :: L) ∧ v_ = (((((decide (p.name = q.name)) && (decide (p.mode = q.mode))) && (sameT p.offices q.offices)) && (sameT p.kinds q.kinds)) && (sameRs p.rules q.rules))) (fun again => ?_) ?_
  · rcases hg : (((decide (p.name = q.name)) && (decide (p.mode = q.mode))) && (sameT p.offices q.offices)) && (sameT p.kinds q.kinds) with _ | _
    · refine sr_pass rfl (j := 26) (d := 32) rfl rfl rfl (u := false) (v := true) rfl rfl ?_
      refine sr_pass rfl (j := 26) (d := 32) rfl rfl rfl (u := false) (v := true) rfl rfl ?_
      refine sr_pass rfl (j := 26) (d := 32) rfl rfl rfl (u := false) (v := true) rfl rfl ?_
      refine sr_pass rfl (j := 26) (d := 32) rfl rfl rfl (u := false) (v := true) rfl rfl ?_
      refine sr_pass rfl (j := 26) (d := 32) rfl rfl rfl (u := false) (v := true) rfl rfl ?_
      refine sr_pass rfl (j := 26) (d := 32) rfl rfl rfl (u := false) (v := true) rfl rfl ?_
      refine sr_op rfl rfl (ow_pick (v := .bool false) rfl rfl ?_)
      exact sr_live [39, 2, 3, 4] (again _ _ ⟨_, _, rfl, H, by rw [hg] <;> rfl⟩)
    · refine sr_want rfl (j := 26) (d := 32) rfl rfl rfl (v := true) rfl rfl (ow_fieldAddr fd28_3 ty23 rfl rfl (r := 3) rfl ?_)
      refine sr_want rfl (j := 26) (d := 32) rfl rfl rfl (v := true) rfl rfl (ow_load (v := .slice d0A3 p.rules.length d0c3) ty23 H rfl 1 rfl rfl rfl rfl ?_)
      refine sr_want rfl (j := 26) (d := 32) rfl rfl rfl (v := true) rfl rfl (ow_fieldAddr fd28_3 ty23 rfl rfl (r := 3) rfl ?_)
      refine sr_want rfl (j := 26) (d := 32) rfl rfl rfl (v := true) rfl rfl (ow_load (v := .slice d1A3 q.rules.length d1c3) ty23 H rfl 0 rfl rfl rfl rfl ?_)
      refine sr_want rfl (j := 26) (d := 32) rfl rfl rfl (v := true) rfl rfl (ow_move (v := .func (.func 134) #[] #[]) rfl ?_)
      refine sr_want rfl (j := 26) (d := 32) rfl rfl rfl (v := true) rfl rfl (ow_call en137 rfl (equalR_c H d0_3 d1_3) ?_)
      rintro _ _ ⟨rfl, H⟩
      refine sr_op rfl rfl (ow_pick (v := .bool (sameRs p.rules q.rules)) rfl rfl ?_)
      exact sr_live [39, 2, 3, 4] (again _ _ ⟨_, _, rfl, H, by rw [hg] <;> rfl⟩)
  rintro _ _ ⟨r, _, rfl, H, rfl⟩
  refine sr_op rfl rfl (ow_move (v := .bool (((((decide (p.name = q.name)) && (decide (p.mode = q.mode))) && (sameT p.offices q.offices)) && (sameT p.kinds q.kinds)) && (sameRs p.rules q.rules))) rfl ?_)
  refine sr_cut 6 (fun m_ w_ => ∃ (r_ : Sl) (v_ : Bool), m_ = (46, .bool v_) :: (4, .bool false) :: r_ ∧ Hp B I w_ ((g2, Ob [.string q.name, .slice d1A1 q.kinds.length d1c1, .slice d1A2 q.offices.length d1c2, .slice d1A3 q.rules.length d1c3, .int .i64 q.change.kind, .int .i64 q.change.n, .int .i64 q.change.no, .string q.change.name, .slice d1A8 q.change.l.length d1c8, .int .i64 q.mode] 28) :: (g1, Ob [.string p.name, .slice d0A1 p.kinds.length d0c1, .slice d0A2 p.offices.length d0c2, .slice d0A3 p.rules.length d0c3, .int .i64 p.change.kind, .int .i64 p.change.n, .int .i64 p.change.no, .string p.change.name, .slice d0A8 p.change.l.length d0c8, .int .i64 p.mode] 28) :: L) ∧ v_ = ((((((decide (p.name = q.name)) && (decide (p.mode = q.mode))) && (sameT p.offices q.offices)) && (sameT p.kinds q.kinds)) && (sameRs p.rules q.rules)) && (sameX p.change q.change))) (fun again => ?_) ?_
  · rcases hg : ((((decide (p.name = q.name)) && (decide (p.mode = q.mode))) && (sameT p.offices q.offices)) && (sameT p.kinds q.kinds)) && (sameRs p.rules q.rules) with _ | _
    · refine sr_pass rfl (j := 34) (d := 40) rfl rfl rfl (u := false) (v := true) rfl rfl ?_
      refine sr_pass rfl (j := 34) (d := 40) rfl rfl rfl (u := false) (v := true) rfl rfl ?_
      refine sr_pass rfl (j := 34) (d := 40) rfl rfl rfl (u := false) (v := true) rfl rfl ?_
      refine sr_pass rfl (j := 34) (d := 40) rfl rfl rfl (u := false) (v := true) rfl rfl ?_
      refine sr_pass rfl (j := 34) (d := 40) rfl rfl rfl (u := false) (v := true) rfl rfl ?_
      refine sr_op rfl rfl (ow_pick (v := .bool false) rfl rfl ?_)
      exact sr_live [46, 4] (again _ _ ⟨_, _, rfl, H, by rw [hg] <;> rfl⟩)
    · refine sr_want rfl (j := 34) (d := 40) rfl rfl rfl (v := true) rfl rfl (ow_fieldAddr fd28_4 ty26 rfl rfl (r := 4) rfl ?_)
      refine sr_want rfl (j := 34) (d := 40) rfl rfl rfl (v := true) rfl rfl (ow_load (v := .agg #[.int .i64 p.change.kind, .int .i64 p.change.n, .int .i64 p.change.no, .string p.change.name, .slice d0A8 p.change.l.length d0c8]) ty26 H rfl 1 rfl rfl rfl rfl ?_)
      refine sr_want rfl (j := 34) (d := 40) rfl rfl rfl (v := true) rfl rfl (ow_fieldAddr fd28_4 ty26 rfl rfl (r := 4) rfl ?_)
      refine sr_want rfl (j := 34) (d := 40) rfl rfl rfl (v := true) rfl rfl (ow_load (v := .agg #[.int .i64 q.change.kind, .int .i64 q.change.n, .int .i64 q.change.no, .string q.change.name, .slice d1A8 q.change.l.length d1c8]) ty26 H rfl 0 rfl rfl rfl rfl ?_)
      refine sr_want rfl (j := 34) (d := 40) rfl rfl rfl (v := true) rfl rfl (ow_call en135 rfl (sameExpr_c _ (Nat.le_refl _) H (ex_iff.2 ⟨_, rfl, d0_4, d0_5, d0_6, d0_7, d0_8⟩) (ex_iff.2 ⟨_, rfl, d1_4, d1_5, d1_6, d1_7, d1_8⟩)) ?_)
      rintro _ _ ⟨rfl, H⟩
      refine sr_op rfl rfl (ow_pick (v := .bool (sameX p.change q.change)) rfl rfl ?_)
      exact sr_live [46, 4] (again _ _ ⟨_, _, rfl, H, by rw [hg] <;> rfl⟩)
  rintro _ _ ⟨r, _, rfl, H, rfl⟩
  refine sr_op rfl rfl (ow_assign (v := .bool ((((((decide (p.name = q.name)) && (decide (p.mode = q.mode))) && (sameT p.offices q.offices)) && (sameT p.kinds q.kinds)) && (sameRs p.rules q.rules)) && (sameX p.change q.change))) rfl ?_)
  refine sr_nil ?_
  refine st_ret hb (hR _ _ (.bool ((((((decide (p.name = q.name)) && (decide (p.mode = q.mode))) && (sameT p.offices q.offices)) && (sameT p.kinds q.kinds)) && (sameRs p.rules q.rules)) && (sameX p.change q.change))) (res_run (vs := [.bool ((((((decide (p.name = q.name)) && (decide (p.mode = q.mode))) && (sameT p.offices q.offices)) && (sameT p.kinds q.kinds)) && (sameRs p.rules q.rules)) && (sameX p.change q.change))]) Tryz.results49 ⟨_, _, rfl, rfl, rfl⟩) ?_)
  exact ⟨_, rfl, rfl, (H.drop 2)⟩
end Go.Proofs.YtghmjnbpkobooaaGreatDoor
