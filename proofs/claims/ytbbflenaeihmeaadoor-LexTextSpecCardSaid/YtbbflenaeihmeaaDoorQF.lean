/-
  Walks: Text of the reference, and the statement LexTextSpec.
-/
import Derived.Test.YtbbflenaeihmeaaDoorQE
import Derived.Test.YtbbflenaeihmeaaDoorQA
set_option linter.unusedVariables false
set_option linter.unusedSimpArgs false
set_option maxRecDepth 10000
set_option maxHeartbeats 4000000
namespace Go.Proofs.YtbbflenaeihmeaaDoor
open Go Go.RowKit

theorem size_20 : (⟨#[32]⟩ : ByteArray).size = 1 := rfl
theorem refText_c {B I L w} (H : Hp B I w L) {l : List Tk} {v : Value} (hl : RepS encTk I 4 l v) (hco : costT l ≤ 1000000) : Calls Tryd.prog 39 #[v] w (Rt fun r w' => r = .tuple #[.string (textE l).1, .int .i64 (textE l).2] ∧ Hp B I w' L) := by
  obtain ⟨s0A, s0c, rfl, s0m, s0M, s0⟩ := RepS.open_ hl
  refine calls_st (n := 44) Tryd.func39 rfl rfl rfl ?_
  intro G bF cs hb hfn hR hP
  simp only [ini]
  refine st_seq ?_
  refine st_region ?_
  refine sr_op rfl rfl (ow_assign (v := .string ⟨#[]⟩) rfl ?_)
  refine sr_op rfl rfl (ow_assign (v := .int .i64 0) rfl ?_)
  refine sr_nil ?_
  refine st_seq ?_
  refine st_region ?_
  refine sr_op rfl rfl (ow_assign (v := .string ⟨#[]⟩) rfl ?_)
  refine sr_nil ?_
  refine st_seq ?_
  refine st_seq ?_
  refine st_region ?_
  refine sr_op rfl rfl (ow_assign (v := .int .i64 0) rfl ?_)
  refine sr_nil ?_
  refine st_block ?_
  refine st_loop ?_
  refine st_live [0, 2, 3, 4, 5] ?_
  refine st_ind (fun d_ m_ w_ => ∃ (i : Nat) (s : ByteArray) (r_ : Sl), d_ = l.length - i ∧ m_ = (0, .slice s0A l.length s0c) :: (2, .string ⟨#[]⟩) :: (3, .int .i64 0) :: (4, .string s) :: (5, .int .i64 (i : Int)) :: r_ ∧ Hp B I w_ (L) ∧ i ≤ l.length ∧ (l.take i).all validB = true ∧ s.data.toList = joinL (wordsL (l.take i))) _ ⟨0, ⟨#[]⟩, _, rfl, rfl, H, Nat.zero_le _, rfl, rfl⟩ ?_
  rintro _ _ _ ⟨i, s, r2, rfl, rfl, H, hi, hall, hs_⟩ ih3
  have hss : s.size ≤ 1000000 := by
    have h1_ := join_cost (l.take i)
    rw [← hs_, ← size_data] at h1_
    have h2_ := cost_take l i
    omega
  refine st_seq ?_
  refine st_seq ?_
  refine st_region ?_
  refine sr_op rfl rfl (ow_move (v := .int .i64 (i : Int)) rfl ?_)
  refine sr_op rfl rfl (ow_move (v := .slice s0A l.length s0c) rfl ?_)
  refine sr_op rfl rfl (ow_lenS sl53 rfl rfl ?_)
  refine sr_op rfl rfl (ow_lss rfl rfl ?_)
  refine sr_nil ?_
  refine st_cond (decide ((i : Int) < (l.length : Int))) rfl (fun hc4 => ?_) (fun hc4 => ?_)
  · have hc4 := of_decide_eq_true hc4
    refine st_skip ?_
    refine st_seq ?_
    refine st_block ?_
    refine st_seq ?_
    refine st_seq ?_
    refine st_region ?_
    refine sr_op rfl rfl (ow_move (v := .slice s0A l.length s0c) rfl ?_)
    refine sr_op rfl rfl (ow_move (v := .int .i64 (i : Int)) rfl ?_)
    obtain ⟨e5, he5⟩ : ∃ q_, l[i]? = some q_ := ⟨_, List.getElem?_eq_getElem (by omega)⟩
    obtain ⟨b5, o5, us5, hA5, hat5, hul5, hr5⟩ := RepS.get s0 he5
    have d5 := hr5
    obtain ⟨rfl, d5_0, d5_1, d5_2, d5_3⟩ := tk_iff.1 hr5
    refine sr_op rfl rfl (ow_indexAddrA sl53 ty64 hA5 rfl rfl (by omega) (by omega) (r := o5 + i * 4) rfl ?_)
    refine sr_op rfl rfl (ow_loadI (v := .agg #[.int .i64 e5.kind, .string e5.text, .int .i64 e5.n, .int .i64 e5.at_]) ty64 H rfl hat5 rfl rfl rfl ?_)
    refine sr_op rfl rfl (ow_call en87 rfl (Valid_c H d5) ?_)
    rintro _ _ ⟨rfl, H⟩
    refine sr_op rfl rfl (ow_not rfl ?_)
    refine sr_nil ?_
    refine st_cond (!(validB e5)) rfl (fun hc6 => ?_) (fun hc6 => ?_)
    · have hbad := bnt hc6
      refine st_seq ?_
      refine st_region ?_
      refine sr_op rfl rfl (ow_assign (v := .string ⟨#[]⟩) rfl ?_)
      refine sr_op rfl rfl (ow_assign (v := .int .i64 30) rfl ?_)
      refine sr_nil ?_
      refine st_ret hb (hR _ _ (.tuple #[.string ⟨#[]⟩, .int .i64 30]) (res_run (vs := [.string ⟨#[]⟩, .int .i64 30]) Tryd.results39 ⟨_, _, rfl, rfl, ⟨_, _, rfl, rfl, rfl⟩⟩) ?_)
      exact ⟨_, rfl, by rw [textE, if_neg (fun h_ => by
        have := List.all_eq_true.1 h_ _ (List.mem_of_getElem? he5)
        rw [hbad] at this
        cases this)], H⟩
    · have hgood := bnf hc6
      have hw32 : (spellS e5).size ≤ 32 := by
        obtain ⟨_, _, _, _, _, _, hz_⟩ := word_valid hgood
        exact hz_
      refine st_skip ?_
      refine st_seq ?_
      refine st_seq ?_
      refine st_region ?_
      refine sr_op rfl rfl (ow_move (v := .int .i64 (i : Int)) rfl ?_)
      refine sr_op rfl rfl (ow_gtr rfl rfl ?_)
      refine sr_nil ?_
      refine st_cond (decide (0 < (i : Int))) rfl (fun hc7 => ?_) (fun hc7 => ?_)
      · have hi0 := of_decide_eq_true hc7
        refine st_region ?_
        refine sr_op rfl rfl (ow_move (v := .string s) rfl ?_)
        refine sr_op rfl rfl (ow_cat rfl rfl (by first | omega | (simp only [app_size, size_20]; omega)) ?_)
        refine sr_op rfl rfl (ow_assign (v := .string (s ++ ⟨#[32]⟩)) rfl ?_)
        refine sr_nil ?_
        refine st_seq ?_
        refine st_region ?_
        refine sr_op rfl rfl (ow_move (v := .slice s0A l.length s0c) rfl ?_)
        refine sr_op rfl rfl (ow_move (v := .int .i64 (i : Int)) rfl ?_)
        refine sr_op rfl rfl (ow_indexAddrA sl53 ty64 hA5 rfl rfl (by omega) (by omega) (r := o5 + i * 4) rfl ?_)
        refine sr_op rfl rfl (ow_fieldAddr fd64_0 ty3 rfl rfl (r := o5 + i * 4 + 0) rfl ?_)
        refine sr_op rfl rfl (ow_loadI (v := .int .i64 e5.kind) ty3 H rfl (At.sub (vs := [.int .i64 e5.kind]) hat5 0 rfl) rfl rfl rfl ?_)
        refine sr_op rfl rfl (ow_eql rfl rfl ?_)
        refine sr_nil ?_
        refine st_cond (decide (e5.kind = 2)) rfl (fun hc8 => ?_) (fun hc8 => ?_)
        · have hk2 := of_decide_eq_true hc8
          have hsp : spellS e5 = itoaS e5.n := if_pos hk2
          have hwz : ByteArray.size (itoaS e5.n) ≤ 32 := by
            rw [← hsp]
            exact hw32
          refine st_region ?_
          refine sr_op rfl rfl (ow_move (v := .string (s ++ ⟨#[32]⟩)) rfl ?_)
          refine sr_op rfl rfl (ow_move (v := .slice s0A l.length s0c) rfl ?_)
          refine sr_op rfl rfl (ow_move (v := .int .i64 (i : Int)) rfl ?_)
          refine sr_op rfl rfl (ow_indexAddrA sl53 ty64 hA5 rfl rfl (by omega) (by omega) (r := o5 + i * 4) rfl ?_)
          refine sr_op rfl rfl (ow_fieldAddr fd64_2 ty3 rfl rfl (r := o5 + i * 4 + 2) rfl ?_)
          refine sr_op rfl rfl (ow_loadI (v := .int .i64 e5.n) ty3 H rfl (At.sub (vs := [.int .i64 e5.n]) hat5 2 rfl) rfl rfl rfl ?_)
          refine sr_op rfl rfl (ow_call en88 rfl (Decimal_of H (valid_num2 hgood hk2).1 (valid_num2 hgood hk2).2) ?_)
          rintro _ _ ⟨rfl, H⟩
          refine sr_op rfl rfl (ow_cat rfl rfl (by first | omega | (simp only [app_size, size_20]; omega)) ?_)
          refine sr_op rfl rfl (ow_assign (v := .string ((s ++ ⟨#[32]⟩) ++ (itoaS e5.n))) rfl ?_)
          refine sr_nil ?_
          refine st_inBlock ?_
          refine st_region ?_
          refine sr_op rfl rfl (ow_move (v := .int .i64 (i : Int)) rfl ?_)
          refine sr_op rfl rfl (ow_add (r := ((i + 1 : Nat) : Int)) rfl rfl (inc_i64 (by omega)) ?_)
          refine sr_op rfl rfl (ow_assign (v := .int .i64 ((i + 1 : Nat) : Int)) rfl ?_)
          refine sr_nil ?_
          exact st_inLoop (st_live [0, 2, 3, 4, 5] (ih3 _ _ _ (by omega) ⟨i + 1, (s ++ ⟨#[32]⟩) ++ (itoaS e5.n), _, rfl, rfl, H, by omega, Text_take hall he5 hgood, text_more he5 (by omega) hsp hs_⟩))
        · have hk2 := of_decide_eq_false hc8
          have hsp : spellS e5 = e5.text := if_neg hk2
          have hwz : ByteArray.size (e5.text) ≤ 32 := by
            rw [← hsp]
            exact hw32
          refine st_region ?_
          refine sr_op rfl rfl (ow_move (v := .string (s ++ ⟨#[32]⟩)) rfl ?_)
          refine sr_op rfl rfl (ow_move (v := .slice s0A l.length s0c) rfl ?_)
          refine sr_op rfl rfl (ow_move (v := .int .i64 (i : Int)) rfl ?_)
          refine sr_op rfl rfl (ow_indexAddrA sl53 ty64 hA5 rfl rfl (by omega) (by omega) (r := o5 + i * 4) rfl ?_)
          refine sr_op rfl rfl (ow_fieldAddr fd64_1 ty9 rfl rfl (r := o5 + i * 4 + 1) rfl ?_)
          refine sr_op rfl rfl (ow_loadI (v := .string e5.text) ty9 H rfl (At.sub (vs := [.string e5.text]) hat5 1 rfl) rfl rfl rfl ?_)
          refine sr_op rfl rfl (ow_cat rfl rfl (by first | omega | (simp only [app_size, size_20]; omega)) ?_)
          refine sr_op rfl rfl (ow_assign (v := .string ((s ++ ⟨#[32]⟩) ++ e5.text)) rfl ?_)
          refine sr_nil ?_
          refine st_inBlock ?_
          refine st_region ?_
          refine sr_op rfl rfl (ow_move (v := .int .i64 (i : Int)) rfl ?_)
          refine sr_op rfl rfl (ow_add (r := ((i + 1 : Nat) : Int)) rfl rfl (inc_i64 (by omega)) ?_)
          refine sr_op rfl rfl (ow_assign (v := .int .i64 ((i + 1 : Nat) : Int)) rfl ?_)
          refine sr_nil ?_
          exact st_inLoop (st_live [0, 2, 3, 4, 5] (ih3 _ _ _ (by omega) ⟨i + 1, (s ++ ⟨#[32]⟩) ++ e5.text, _, rfl, rfl, H, by omega, Text_take hall he5 hgood, text_more he5 (by omega) hsp hs_⟩))
      · have hi0 := of_decide_eq_false hc7
        refine st_skip ?_
        refine st_seq ?_
        refine st_region ?_
        refine sr_op rfl rfl (ow_move (v := .slice s0A l.length s0c) rfl ?_)
        refine sr_op rfl rfl (ow_move (v := .int .i64 (i : Int)) rfl ?_)
        refine sr_op rfl rfl (ow_indexAddrA sl53 ty64 hA5 rfl rfl (by omega) (by omega) (r := o5 + i * 4) rfl ?_)
        refine sr_op rfl rfl (ow_fieldAddr fd64_0 ty3 rfl rfl (r := o5 + i * 4 + 0) rfl ?_)
        refine sr_op rfl rfl (ow_loadI (v := .int .i64 e5.kind) ty3 H rfl (At.sub (vs := [.int .i64 e5.kind]) hat5 0 rfl) rfl rfl rfl ?_)
        refine sr_op rfl rfl (ow_eql rfl rfl ?_)
        refine sr_nil ?_
        refine st_cond (decide (e5.kind = 2)) rfl (fun hc9 => ?_) (fun hc9 => ?_)
        · have hk2 := of_decide_eq_true hc9
          have hsp : spellS e5 = itoaS e5.n := if_pos hk2
          have hwz : ByteArray.size (itoaS e5.n) ≤ 32 := by
            rw [← hsp]
            exact hw32
          refine st_region ?_
          refine sr_op rfl rfl (ow_move (v := .string s) rfl ?_)
          refine sr_op rfl rfl (ow_move (v := .slice s0A l.length s0c) rfl ?_)
          refine sr_op rfl rfl (ow_move (v := .int .i64 (i : Int)) rfl ?_)
          refine sr_op rfl rfl (ow_indexAddrA sl53 ty64 hA5 rfl rfl (by omega) (by omega) (r := o5 + i * 4) rfl ?_)
          refine sr_op rfl rfl (ow_fieldAddr fd64_2 ty3 rfl rfl (r := o5 + i * 4 + 2) rfl ?_)
          refine sr_op rfl rfl (ow_loadI (v := .int .i64 e5.n) ty3 H rfl (At.sub (vs := [.int .i64 e5.n]) hat5 2 rfl) rfl rfl rfl ?_)
          refine sr_op rfl rfl (ow_call en88 rfl (Decimal_of H (valid_num2 hgood hk2).1 (valid_num2 hgood hk2).2) ?_)
          rintro _ _ ⟨rfl, H⟩
          refine sr_op rfl rfl (ow_cat rfl rfl (by first | omega | (simp only [app_size, size_20]; omega)) ?_)
          refine sr_op rfl rfl (ow_assign (v := .string (s ++ (itoaS e5.n))) rfl ?_)
          refine sr_nil ?_
          refine st_inBlock ?_
          refine st_region ?_
          refine sr_op rfl rfl (ow_move (v := .int .i64 (i : Int)) rfl ?_)
          refine sr_op rfl rfl (ow_add (r := ((i + 1 : Nat) : Int)) rfl rfl (inc_i64 (by omega)) ?_)
          refine sr_op rfl rfl (ow_assign (v := .int .i64 ((i + 1 : Nat) : Int)) rfl ?_)
          refine sr_nil ?_
          exact st_inLoop (st_live [0, 2, 3, 4, 5] (ih3 _ _ _ (by omega) ⟨i + 1, s ++ (itoaS e5.n), _, rfl, rfl, H, by omega, Text_take hall he5 hgood, by
              have hi1 : i = 0 := by omega
              subst hi1
              exact text_first he5 hsp hs_⟩))
        · have hk2 := of_decide_eq_false hc9
          have hsp : spellS e5 = e5.text := if_neg hk2
          have hwz : ByteArray.size (e5.text) ≤ 32 := by
            rw [← hsp]
            exact hw32
          refine st_region ?_
          refine sr_op rfl rfl (ow_move (v := .string s) rfl ?_)
          refine sr_op rfl rfl (ow_move (v := .slice s0A l.length s0c) rfl ?_)
          refine sr_op rfl rfl (ow_move (v := .int .i64 (i : Int)) rfl ?_)
          refine sr_op rfl rfl (ow_indexAddrA sl53 ty64 hA5 rfl rfl (by omega) (by omega) (r := o5 + i * 4) rfl ?_)
          refine sr_op rfl rfl (ow_fieldAddr fd64_1 ty9 rfl rfl (r := o5 + i * 4 + 1) rfl ?_)
          refine sr_op rfl rfl (ow_loadI (v := .string e5.text) ty9 H rfl (At.sub (vs := [.string e5.text]) hat5 1 rfl) rfl rfl rfl ?_)
          refine sr_op rfl rfl (ow_cat rfl rfl (by first | omega | (simp only [app_size, size_20]; omega)) ?_)
          refine sr_op rfl rfl (ow_assign (v := .string (s ++ e5.text)) rfl ?_)
          refine sr_nil ?_
          refine st_inBlock ?_
          refine st_region ?_
          refine sr_op rfl rfl (ow_move (v := .int .i64 (i : Int)) rfl ?_)
          refine sr_op rfl rfl (ow_add (r := ((i + 1 : Nat) : Int)) rfl rfl (inc_i64 (by omega)) ?_)
          refine sr_op rfl rfl (ow_assign (v := .int .i64 ((i + 1 : Nat) : Int)) rfl ?_)
          refine sr_nil ?_
          exact st_inLoop (st_live [0, 2, 3, 4, 5] (ih3 _ _ _ (by omega) ⟨i + 1, s ++ e5.text, _, rfl, rfl, H, by omega, Text_take hall he5 hgood, by
              have hi1 : i = 0 := by omega
              subst hi1
              exact text_first he5 hsp hs_⟩))
  · have hc4 := of_decide_eq_false hc4
    refine st_exit rfl ?_
    refine st_seq ?_
    refine st_region ?_
    refine sr_op rfl rfl (ow_move (v := .string s) rfl ?_)
    refine sr_op rfl rfl (ow_assign (v := .string s) rfl ?_)
    refine sr_op rfl rfl (ow_assign (v := .int .i64 0) rfl ?_)
    refine sr_nil ?_
    refine st_ret hb (hR _ _ (.tuple #[.string s, .int .i64 0]) (res_run (vs := [.string s, .int .i64 0]) Tryd.results39 ⟨_, _, rfl, rfl, ⟨_, _, rfl, rfl, rfl⟩⟩) ?_)
    rw [List.take_of_length_le (by omega)] at hall hs_
    exact ⟨_, rfl, by rw [textE, if_pos hall, show s = joinS (l.map spellS) ⟨#[32]⟩ from bytes_ext (hs_.trans (join_words l).symm)], H⟩
theorem tt_pair {α : Type} {β : Type} {p : α × β} {a : α} {b : β} (h : p = (a, b)) : p.1 = a ∧ p.2 = b := by rw [h]; exact ⟨rfl, rfl⟩
theorem pair_refl_ {q : Tk → Tk → Bool} (hq : ∀ x, q x x = true) : ∀ l : List Tk, pairB q l l = true
  | [] => rfl
  | x :: l => by simp only [pairB, hq x, pair_refl_ hq l, Bool.and_self]
theorem same_refl_ (l : List Tk) : sameTs l l = true := pair_refl_ (fun x => by simp [sameTk]) l
theorem LexTextSpec_c {B I L w} (H : Hp B I w L) {a b : List Tk} {va vb : Value} (ha : RepS encTk I 4 a va) (hb1 : RepS encTk I 4 b vb) (s : ByteArray) (hS : s.size ≤ 140737488355328) (hba : ∀ t ∈ a, t.text.size ≤ 140737488355328) (hbb : ∀ t ∈ b, t.text.size ≤ 140737488355328) (hlib : LibAt I) : Calls Tryd.prog 10 #[va, vb, .string s] w (Rt fun r w' => r = .bool true ∧ Hp B I w' L) := by
  have htz := toks_sz ha
  rcases Bool.eq_false_or_eq_true (fewT a) with hfw | hfw
  rotate_left
  rotate_left
  have hco : costT a ≤ 1000000 := by
    obtain ⟨hl1, hl2⟩ := few_len hfw
    have := cost_few (l := a) fun t ht => (htz t ht).2
    omega
  have hl1 := (few_len hfw).1
  rcases Bool.eq_false_or_eq_true (fewT b) with hfb | hfb
  rcases Classical.em (1000 < (s.size : Int)) with hbig | hbig
  rotate_left
  · obtain ⟨s0A, s0c, rfl, s0m, s0M, s0⟩ := RepS.open_ ha
    obtain ⟨s1A, s1c, rfl, s1m, s1M, s1⟩ := RepS.open_ hb1
    refine calls_st (n := 65) Tryd.func10 rfl rfl rfl ?_
    intro G bF cs hb hfn hR hP
    simp only [ini]
    refine st_seq ?_
    refine st_region ?_
    refine sr_op rfl rfl (ow_assign (v := .bool false) rfl ?_)
    refine sr_nil ?_
    refine st_seq ?_
    refine st_seq ?_
    refine st_region ?_
    refine sr_op rfl rfl (ow_call en33 rfl (lexSane_c H hlib) ?_)
    rintro _ _ ⟨rfl, H⟩
    refine sr_op rfl rfl (ow_not rfl ?_)
    refine sr_nil ?_
    refine st_no rfl ?_
    refine st_skip ?_
    refine st_seq ?_
    refine st_seq ?_
    refine st_region ?_
    refine sr_op rfl rfl (ow_move (v := .slice s0A a.length s0c) rfl ?_)
    refine sr_op rfl rfl (ow_call en37 rfl (FewT_c H s0 hba) ?_)
    rintro _ _ ⟨rfl, H⟩
    refine sr_op rfl rfl (ow_not rfl ?_)
    refine sr_op rfl rfl (ow_move (v := .bool (!(fewT a))) rfl ?_)
    refine sr_want rfl (j := 3) (d := 16) rfl rfl rfl (v := false) (congrArg Value.bool (congrArg (a₂ := true) not hfw)) rfl (ow_move (v := .slice s1A b.length s1c) rfl ?_)
    refine sr_want rfl (j := 3) (d := 16) rfl rfl rfl (v := false) (congrArg Value.bool (congrArg (a₂ := true) not hfw)) rfl (ow_call en37 rfl (FewT_c H s1 hbb) ?_)
    rintro _ _ ⟨rfl, H⟩
    refine sr_want rfl (j := 3) (d := 16) rfl rfl rfl (v := false) (congrArg Value.bool (congrArg (a₂ := true) not hfw)) rfl (ow_not rfl ?_)
    refine sr_op rfl rfl (ow_pick (a := false) (v := .bool (!(fewT b))) (congrArg Value.bool (congrArg (a₂ := true) not hfw)) rfl ?_)
    refine sr_op rfl rfl (ow_move (v := .bool (!(fewT b))) rfl ?_)
    refine sr_want rfl (j := 8) (d := 21) rfl rfl rfl (v := false) (congrArg Value.bool (congrArg (a₂ := true) not hfb)) rfl (ow_move (v := .string s) rfl ?_)
    refine sr_want rfl (j := 8) (d := 21) rfl rfl rfl (v := false) (congrArg Value.bool (congrArg (a₂ := true) not hfb)) rfl (ow_lenT un9 rfl rfl ?_)
    refine sr_want rfl (j := 8) (d := 21) rfl rfl rfl (v := false) (congrArg Value.bool (congrArg (a₂ := true) not hfb)) rfl (ow_gtr rfl rfl ?_)
    refine sr_op rfl rfl (ow_pick (a := false) (v := .bool (decide (1000 < (s.size : Int)))) (congrArg Value.bool (congrArg (a₂ := true) not hfb)) rfl ?_)
    refine sr_nil ?_
    refine st_no (congrArg Value.bool (decide_eq_false hbig)) ?_
    refine st_skip ?_
    refine st_seq ?_
    refine st_region ?_
    refine sr_op rfl rfl (ow_move (v := .slice s0A a.length s0c) rfl ?_)
    refine sr_op rfl rfl (ow_call en38 rfl (Text_c H s0 (by omega) (join_cost_le hco) hlib htz) ?_)
    rintro _ _ ⟨rfl, H⟩
    refine sr_op rfl rfl (ow_move (v := .tuple #[.string ((textE a).1), .int .i64 ((textE a).2)]) rfl ?_)
    refine sr_op rfl rfl (ow_extract (v := .string ((textE a).1)) rfl rfl ?_)
    refine sr_op rfl rfl (ow_extract (v := .int .i64 ((textE a).2)) rfl rfl ?_)
    refine sr_op rfl rfl (ow_assign (v := .string ((textE a).1)) rfl ?_)
    refine sr_op rfl rfl (ow_assign (v := .int .i64 ((textE a).2)) rfl ?_)
    refine sr_nil ?_
    refine st_seq ?_
    refine st_region ?_
    refine sr_op rfl rfl (ow_move (v := .slice s0A a.length s0c) rfl ?_)
    refine sr_op rfl rfl (ow_call en39 rfl (refText_c H s0 hco) ?_)
    rintro _ _ ⟨rfl, H⟩
    refine sr_op rfl rfl (ow_move (v := .tuple #[.string ((textE a).1), .int .i64 ((textE a).2)]) rfl ?_)
    refine sr_op rfl rfl (ow_extract (v := .string ((textE a).1)) rfl rfl ?_)
    refine sr_op rfl rfl (ow_extract (v := .int .i64 ((textE a).2)) rfl rfl ?_)
    refine sr_op rfl rfl (ow_assign (v := .string ((textE a).1)) rfl ?_)
    refine sr_op rfl rfl (ow_assign (v := .int .i64 ((textE a).2)) rfl ?_)
    refine sr_nil ?_
    refine st_seq ?_
    refine st_region ?_
    refine sr_op rfl rfl (ow_move (v := .string ((textE a).1)) rfl ?_)
    refine sr_op rfl rfl (ow_move (v := .string ((textE a).1)) rfl ?_)
    refine sr_op rfl rfl (ow_seq rfl rfl ?_)
    refine sr_op rfl rfl (ow_move (v := .bool (decide (((textE a).1) = ((textE a).1)))) rfl ?_)
    refine sr_want rfl (j := 3) (d := 39) rfl rfl rfl (v := true) (congrArg Value.bool (decide_eq_true rfl)) rfl (ow_move (v := .int .i64 ((textE a).2)) rfl ?_)
    refine sr_want rfl (j := 3) (d := 39) rfl rfl rfl (v := true) (congrArg Value.bool (decide_eq_true rfl)) rfl (ow_move (v := .int .i64 ((textE a).2)) rfl ?_)
    refine sr_want rfl (j := 3) (d := 39) rfl rfl rfl (v := true) (congrArg Value.bool (decide_eq_true rfl)) rfl (ow_eql rfl rfl ?_)
    refine sr_op rfl rfl (ow_pick (a := true) (v := .bool (decide (((textE a).2) = ((textE a).2)))) (congrArg Value.bool (decide_eq_true rfl)) rfl ?_)
    refine sr_op rfl rfl (ow_move (v := .bool (decide (((textE a).2) = ((textE a).2)))) rfl ?_)
    refine sr_want rfl (j := 8) (d := 44) rfl rfl rfl (v := true) (congrArg Value.bool (decide_eq_true rfl)) rfl (ow_move (v := .slice s0A a.length s0c) rfl ?_)
    refine sr_want rfl (j := 8) (d := 44) rfl rfl rfl (v := true) (congrArg Value.bool (decide_eq_true rfl)) rfl (ow_move (v := .slice s1A b.length s1c) rfl ?_)
    refine sr_want rfl (j := 8) (d := 44) rfl rfl rfl (v := true) (congrArg Value.bool (decide_eq_true rfl)) rfl (ow_call en40 rfl (lexSame_c H s0 s1) ?_)
    rintro _ _ ⟨rfl, H⟩
    refine sr_want rfl (j := 8) (d := 44) rfl rfl rfl (v := true) (congrArg Value.bool (decide_eq_true rfl)) rfl (ow_move (v := .slice s0A a.length s0c) rfl ?_)
    refine sr_want rfl (j := 8) (d := 44) rfl rfl rfl (v := true) (congrArg Value.bool (decide_eq_true rfl)) rfl (ow_move (v := .slice s1A b.length s1c) rfl ?_)
    refine sr_want rfl (j := 8) (d := 44) rfl rfl rfl (v := true) (congrArg Value.bool (decide_eq_true rfl)) rfl (ow_call en41 rfl (refSame_c H s0 s1) ?_)
    rintro _ _ ⟨rfl, H⟩
    refine sr_want rfl (j := 8) (d := 44) rfl rfl rfl (v := true) (congrArg Value.bool (decide_eq_true rfl)) rfl (ow_beq Tryd.underlying4 rfl rfl ?_)
    refine sr_op rfl rfl (ow_pick (a := true) (v := .bool (decide ((sameTs a b) = (sameTs a b)))) (congrArg Value.bool (decide_eq_true rfl)) rfl ?_)
    refine sr_op rfl rfl (ow_move (v := .bool (decide ((sameTs a b) = (sameTs a b)))) rfl ?_)
    refine sr_want rfl (j := 17) (d := 53) rfl rfl rfl (v := true) (congrArg Value.bool (decide_eq_true rfl)) rfl (ow_move (v := .slice s0A a.length s0c) rfl ?_)
    refine sr_want rfl (j := 17) (d := 53) rfl rfl rfl (v := true) (congrArg Value.bool (decide_eq_true rfl)) rfl (ow_move (v := .slice s0A a.length s0c) rfl ?_)
    refine sr_want rfl (j := 17) (d := 53) rfl rfl rfl (v := true) (congrArg Value.bool (decide_eq_true rfl)) rfl (ow_call en40 rfl (lexSame_as H s0 s0 (same_refl_ _)) ?_)
    rintro _ _ ⟨rfl, H⟩
    refine sr_op rfl rfl (ow_pick (a := true) (v := .bool true) (congrArg Value.bool (decide_eq_true rfl)) rfl ?_)
    refine sr_op rfl rfl (ow_move (v := .bool true) rfl ?_)
    refine sr_want rfl (j := 22) (d := 58) rfl rfl rfl (v := true) rfl rfl (ow_move (v := .string s) rfl ?_)
    refine sr_want rfl (j := 22) (d := 58) rfl rfl rfl (v := true) rfl rfl (ow_call en42 rfl (Name_c H s (s63_of hS)) ?_)
    rintro _ _ ⟨rfl, H⟩
    refine sr_want rfl (j := 22) (d := 58) rfl rfl rfl (v := true) rfl rfl (ow_move (v := .string s) rfl ?_)
    refine sr_want rfl (j := 22) (d := 58) rfl rfl rfl (v := true) rfl rfl (ow_call en43 rfl (refName_c H s (s63_of hS)) ?_)
    rintro _ _ ⟨rfl, H⟩
    refine sr_want rfl (j := 22) (d := 58) rfl rfl rfl (v := true) rfl rfl (ow_beq Tryd.underlying4 rfl rfl ?_)
    refine sr_op rfl rfl (ow_pick (v := .bool (decide ((nameB s) = (nameB s)))) rfl rfl ?_)
    refine sr_op rfl rfl (ow_assign (v := .bool (decide ((nameB s) = (nameB s)))) rfl ?_)
    refine sr_nil ?_
    refine st_ret hb (hR _ _ (.bool (decide ((nameB s) = (nameB s)))) (res_run (vs := [.bool (decide ((nameB s) = (nameB s)))]) Tryd.results10 ⟨_, _, rfl, rfl, rfl⟩) ?_)
    exact ⟨_, rfl, congrArg Value.bool (decide_eq_true rfl), H⟩
  · obtain ⟨s0A, s0c, rfl, s0m, s0M, s0⟩ := RepS.open_ ha
    obtain ⟨s1A, s1c, rfl, s1m, s1M, s1⟩ := RepS.open_ hb1
    refine calls_st (n := 65) Tryd.func10 rfl rfl rfl ?_
    intro G bF cs hb hfn hR hP
    simp only [ini]
    refine st_seq ?_
    refine st_region ?_
    refine sr_op rfl rfl (ow_assign (v := .bool false) rfl ?_)
    refine sr_nil ?_
    refine st_seq ?_
    refine st_seq ?_
    refine st_region ?_
    refine sr_op rfl rfl (ow_call en33 rfl (lexSane_c H hlib) ?_)
    rintro _ _ ⟨rfl, H⟩
    refine sr_op rfl rfl (ow_not rfl ?_)
    refine sr_nil ?_
    refine st_no rfl ?_
    refine st_skip ?_
    refine st_seq ?_
    refine st_seq ?_
    refine st_region ?_
    refine sr_op rfl rfl (ow_move (v := .slice s0A a.length s0c) rfl ?_)
    refine sr_op rfl rfl (ow_call en37 rfl (FewT_c H s0 hba) ?_)
    rintro _ _ ⟨rfl, H⟩
    refine sr_op rfl rfl (ow_not rfl ?_)
    refine sr_op rfl rfl (ow_move (v := .bool (!(fewT a))) rfl ?_)
    refine sr_want rfl (j := 3) (d := 16) rfl rfl rfl (v := false) (congrArg Value.bool (congrArg (a₂ := true) not hfw)) rfl (ow_move (v := .slice s1A b.length s1c) rfl ?_)
    refine sr_want rfl (j := 3) (d := 16) rfl rfl rfl (v := false) (congrArg Value.bool (congrArg (a₂ := true) not hfw)) rfl (ow_call en37 rfl (FewT_c H s1 hbb) ?_)
    rintro _ _ ⟨rfl, H⟩
    refine sr_want rfl (j := 3) (d := 16) rfl rfl rfl (v := false) (congrArg Value.bool (congrArg (a₂ := true) not hfw)) rfl (ow_not rfl ?_)
    refine sr_op rfl rfl (ow_pick (a := false) (v := .bool (!(fewT b))) (congrArg Value.bool (congrArg (a₂ := true) not hfw)) rfl ?_)
    refine sr_op rfl rfl (ow_move (v := .bool (!(fewT b))) rfl ?_)
    refine sr_pass rfl (j := 8) (d := 21) rfl rfl rfl (u := true) (v := false) (congrArg Value.bool (congrArg (a₂ := false) not hfb)) rfl ?_
    refine sr_pass rfl (j := 8) (d := 21) rfl rfl rfl (u := true) (v := false) (congrArg Value.bool (congrArg (a₂ := false) not hfb)) rfl ?_
    refine sr_pass rfl (j := 8) (d := 21) rfl rfl rfl (u := true) (v := false) (congrArg Value.bool (congrArg (a₂ := false) not hfb)) rfl ?_
    refine sr_op rfl rfl (ow_pick (a := true) (v := .bool true) (congrArg Value.bool (congrArg (a₂ := false) not hfb)) rfl ?_)
    refine sr_nil ?_
    refine st_yes rfl ?_
    refine st_seq ?_
    refine st_region ?_
    refine sr_op rfl rfl (ow_assign (v := .bool true) rfl ?_)
    refine sr_nil ?_
    refine st_ret hb (hR _ _ (.bool true) (res_run (vs := [.bool true]) Tryd.results10 ⟨_, _, rfl, rfl, rfl⟩) ?_)
    exact ⟨_, rfl, rfl, H⟩
  · obtain ⟨s0A, s0c, rfl, s0m, s0M, s0⟩ := RepS.open_ ha
    obtain ⟨s1A, s1c, rfl, s1m, s1M, s1⟩ := RepS.open_ hb1
    refine calls_st (n := 65) Tryd.func10 rfl rfl rfl ?_
    intro G bF cs hb hfn hR hP
    simp only [ini]
    refine st_seq ?_
    refine st_region ?_
    refine sr_op rfl rfl (ow_assign (v := .bool false) rfl ?_)
    refine sr_nil ?_
    refine st_seq ?_
    refine st_seq ?_
    refine st_region ?_
    refine sr_op rfl rfl (ow_call en33 rfl (lexSane_c H hlib) ?_)
    rintro _ _ ⟨rfl, H⟩
    refine sr_op rfl rfl (ow_not rfl ?_)
    refine sr_nil ?_
    refine st_no rfl ?_
    refine st_skip ?_
    refine st_seq ?_
    refine st_seq ?_
    refine st_region ?_
    refine sr_op rfl rfl (ow_move (v := .slice s0A a.length s0c) rfl ?_)
    refine sr_op rfl rfl (ow_call en37 rfl (FewT_c H s0 hba) ?_)
    rintro _ _ ⟨rfl, H⟩
    refine sr_op rfl rfl (ow_not rfl ?_)
    refine sr_op rfl rfl (ow_move (v := .bool (!(fewT a))) rfl ?_)
    refine sr_pass rfl (j := 3) (d := 16) rfl rfl rfl (u := true) (v := false) (congrArg Value.bool (congrArg (a₂ := false) not hfw)) rfl ?_
    refine sr_pass rfl (j := 3) (d := 16) rfl rfl rfl (u := true) (v := false) (congrArg Value.bool (congrArg (a₂ := false) not hfw)) rfl ?_
    refine sr_pass rfl (j := 3) (d := 16) rfl rfl rfl (u := true) (v := false) (congrArg Value.bool (congrArg (a₂ := false) not hfw)) rfl ?_
    refine sr_op rfl rfl (ow_pick (a := true) (v := .bool true) (congrArg Value.bool (congrArg (a₂ := false) not hfw)) rfl ?_)
    refine sr_op rfl rfl (ow_move (v := .bool true) rfl ?_)
    refine sr_pass rfl (j := 8) (d := 21) rfl rfl rfl (u := true) (v := false) rfl rfl ?_
    refine sr_pass rfl (j := 8) (d := 21) rfl rfl rfl (u := true) (v := false) rfl rfl ?_
    refine sr_pass rfl (j := 8) (d := 21) rfl rfl rfl (u := true) (v := false) rfl rfl ?_
    refine sr_op rfl rfl (ow_pick (v := .bool true) rfl rfl ?_)
    refine sr_nil ?_
    refine st_yes rfl ?_
    refine st_seq ?_
    refine st_region ?_
    refine sr_op rfl rfl (ow_assign (v := .bool true) rfl ?_)
    refine sr_nil ?_
    refine st_ret hb (hR _ _ (.bool true) (res_run (vs := [.bool true]) Tryd.results10 ⟨_, _, rfl, rfl, rfl⟩) ?_)
    exact ⟨_, rfl, rfl, H⟩
  · obtain ⟨s0A, s0c, rfl, s0m, s0M, s0⟩ := RepS.open_ ha
    obtain ⟨s1A, s1c, rfl, s1m, s1M, s1⟩ := RepS.open_ hb1
    refine calls_st (n := 65) Tryd.func10 rfl rfl rfl ?_
    intro G bF cs hb hfn hR hP
    simp only [ini]
    refine st_seq ?_
    refine st_region ?_
    refine sr_op rfl rfl (ow_assign (v := .bool false) rfl ?_)
    refine sr_nil ?_
    refine st_seq ?_
    refine st_seq ?_
    refine st_region ?_
    refine sr_op rfl rfl (ow_call en33 rfl (lexSane_c H hlib) ?_)
    rintro _ _ ⟨rfl, H⟩
    refine sr_op rfl rfl (ow_not rfl ?_)
    refine sr_nil ?_
    refine st_no rfl ?_
    refine st_skip ?_
    refine st_seq ?_
    refine st_seq ?_
    refine st_region ?_
    refine sr_op rfl rfl (ow_move (v := .slice s0A a.length s0c) rfl ?_)
    refine sr_op rfl rfl (ow_call en37 rfl (FewT_c H s0 hba) ?_)
    rintro _ _ ⟨rfl, H⟩
    refine sr_op rfl rfl (ow_not rfl ?_)
    refine sr_op rfl rfl (ow_move (v := .bool (!(fewT a))) rfl ?_)
    refine sr_want rfl (j := 3) (d := 16) rfl rfl rfl (v := false) (congrArg Value.bool (congrArg (a₂ := true) not hfw)) rfl (ow_move (v := .slice s1A b.length s1c) rfl ?_)
    refine sr_want rfl (j := 3) (d := 16) rfl rfl rfl (v := false) (congrArg Value.bool (congrArg (a₂ := true) not hfw)) rfl (ow_call en37 rfl (FewT_c H s1 hbb) ?_)
    rintro _ _ ⟨rfl, H⟩
    refine sr_want rfl (j := 3) (d := 16) rfl rfl rfl (v := false) (congrArg Value.bool (congrArg (a₂ := true) not hfw)) rfl (ow_not rfl ?_)
    refine sr_op rfl rfl (ow_pick (a := false) (v := .bool (!(fewT b))) (congrArg Value.bool (congrArg (a₂ := true) not hfw)) rfl ?_)
    refine sr_op rfl rfl (ow_move (v := .bool (!(fewT b))) rfl ?_)
    refine sr_want rfl (j := 8) (d := 21) rfl rfl rfl (v := false) (congrArg Value.bool (congrArg (a₂ := true) not hfb)) rfl (ow_move (v := .string s) rfl ?_)
    refine sr_want rfl (j := 8) (d := 21) rfl rfl rfl (v := false) (congrArg Value.bool (congrArg (a₂ := true) not hfb)) rfl (ow_lenT un9 rfl rfl ?_)
    refine sr_want rfl (j := 8) (d := 21) rfl rfl rfl (v := false) (congrArg Value.bool (congrArg (a₂ := true) not hfb)) rfl (ow_gtr rfl rfl ?_)
    refine sr_op rfl rfl (ow_pick (a := false) (v := .bool (decide (1000 < (s.size : Int)))) (congrArg Value.bool (congrArg (a₂ := true) not hfb)) rfl ?_)
    refine sr_nil ?_
    refine st_yes (congrArg Value.bool (decide_eq_true hbig)) ?_
    refine st_seq ?_
    refine st_region ?_
    refine sr_op rfl rfl (ow_assign (v := .bool true) rfl ?_)
    refine sr_nil ?_
    refine st_ret hb (hR _ _ (.bool true) (res_run (vs := [.bool true]) Tryd.results10 ⟨_, _, rfl, rfl, rfl⟩) ?_)
    exact ⟨_, rfl, rfl, H⟩
end Go.Proofs.YtbbflenaeihmeaaDoor
