/-
  Walks: the statement LexSpaces.
-/
import Derived.Test.YtbbflenaeihmeaaDoorQA
import Derived.Test.YtbbflenaeihmeaaDoorL8
set_option linter.unusedVariables false
set_option linter.unusedSimpArgs false
set_option maxRecDepth 10000
set_option maxHeartbeats 4000000
namespace Go.Proofs.YtbbflenaeihmeaaDoor
open Go Go.RowKit

theorem sz_20 : (⟨#[32]⟩ : ByteArray).size = 1 := rfl
theorem sz_0a : (⟨#[10]⟩ : ByteArray).size = 1 := rfl
theorem sz_2f : (⟨#[47, 47]⟩ : ByteArray).size = 2 := rfl
theorem one_le {t : Tk} : ∀ {l : List Tk}, t ∈ l → t.text.size ≤ sumT l
  | x :: l, h => by
    simp only [sumT]
    rcases List.mem_cons.1 h with rfl | h
    · omega
    · have := one_le h
      omega
  | [], h => by cases h
theorem text1_good {t : Tk} (h : (textE [t]).2 = 0) : validB t = true ∧ (textE [t]).1 = spellS t := by
  cases hv : validB t with
  | true =>
    refine ⟨rfl, ?_⟩
    rw [textE_ok (by rw [List.all_cons, hv]; rfl)]
    exact spell_one t
  | false =>
    rw [textE_no (by rw [List.all_cons, hv]; rfl)] at h
    cases h
theorem text1_bad {t : Tk} (h : ¬ (textE [t]).2 = 0) : validB t = false := by
  cases hv : validB t with
  | false => rfl
  | true => exact absurd (by rw [textE_ok (by rw [List.all_cons, hv]; rfl)]) h
theorem bad_all {l : List Tk} {j : Nat} {t : Tk} (ht : l[j]? = some t) (h : validB t = false) : l.all validB = false := by
  cases hv : l.all validB with
  | false => rfl
  | true => rw [List.all_eq_true.1 hv t (List.mem_of_getElem? ht)] at h; cases h
theorem spell_le {t : Tk} (h : I64 t.n) : (spellS t).size ≤ t.text.size + 20 := by
  have := itoa_size t.n h
  unfold spellS
  split
  · omega
  · omega
theorem words_more {w note : ByteArray} {i : Nat} {u : UInt8} (hu : note.data.toList[i]? = some u) (hn : ¬ (u.toNat : Int) = 10) (hw : ∀ x ∈ w.data.toList, x ≠ 10) : ∀ x ∈ (w ++ note.extract i (i + 1)).data.toList, x ≠ 10 := by
  intro x hx
  rw [app_list] at hx
  rcases List.mem_append.1 hx with h | h
  · exact hw x h
  · rw [cut_list, drop_some hu, Nat.add_sub_cancel_left] at h
    obtain rfl := List.mem_singleton.1 h
    intro e
    rw [e] at hn
    exact hn rfl
theorem words_size {w note : ByteArray} {i : Nat} (h : w.size ≤ i) : (w ++ note.extract i (i + 1)).size ≤ i + 1 := by
  rw [app_size, ByteArray.size_extract]
  omega
theorem rem8 (e : Int) (h : 0 ≤ e) : ∃ k : Nat, Int.tmod e 8 = (k : Int) ∧ k < 8 := by
  refine ⟨(e % 8).toNat, ?_, by omega⟩
  rw [Int.tmod_eq_emod_of_nonneg h]
  omega
theorem LexSpaces_c {B I L w} (H : Hp B I w L) {l : List Tk} {v : Value} (hl : RepS encTk I 4 l v) {turns : List Int} {tv : Value} (htn : RepS encU I 1 turns tv) (note : ByteArray) (hS : note.size ≤ 140737488355328) (hbt : ∀ t ∈ l, t.text.size ≤ 140737488355328) (hlib : LibAt I) : Calls Tryd.prog 14 #[v, tv, .string note] w (Rt fun r w' => r = .bool true ∧ Hp B I w' L) := by
  have htz := toks_sz hl
  rcases Bool.eq_false_or_eq_true (fewT l) with hfw | hfw
  rcases Classical.em (100 < (note.size : Int)) with hbig | hbig
  rotate_left
  obtain ⟨hl1, hl2⟩ := few_len hfw
  have hco : costT l ≤ 1000000 := by
    have := cost_few (l := l) fun t ht => (htz t ht).2
    omega
  rotate_left 1
  · obtain ⟨s0A, s0c, rfl, s0m, s0M, s0⟩ := RepS.open_ hl
    obtain ⟨s1A, s1c, rfl, s1m, s1M, s1⟩ := RepS.open_ htn
    refine calls_st (n := 113) Tryd.func14 rfl rfl rfl ?_
    intro G bF cs hb hfn hR hP
    simp only [ini]
    refine st_seq ?_
    refine st_region ?_
    refine sr_op rfl rfl (ow_assign (v := .bool false) rfl ?_)
    refine sr_nil ?_
    refine st_seq ?_
    refine st_seq ?_
    refine st_region ?_
    refine sr_op rfl rfl (ow_call en33 rfl (lexSane_c H hlib) ?_)
    rintro _ _ ⟨rfl, H⟩
    refine sr_op rfl rfl (ow_not rfl ?_)
    refine sr_nil ?_
    refine st_no rfl ?_
    refine st_skip ?_
    refine st_seq ?_
    refine st_seq ?_
    refine st_region ?_
    refine sr_op rfl rfl (ow_move (v := .slice s0A l.length s0c) rfl ?_)
    refine sr_op rfl rfl (ow_call en37 rfl (FewT_c H s0 hbt) ?_)
    rintro _ _ ⟨rfl, H⟩
    refine sr_op rfl rfl (ow_not rfl ?_)
    refine sr_op rfl rfl (ow_move (v := .bool (!(fewT l))) rfl ?_)
    refine sr_pass rfl (j := 3) (d := 26) rfl rfl rfl (u := true) (v := false) (congrArg Value.bool (congrArg (a₂ := false) not hfw)) rfl ?_
    refine sr_pass rfl (j := 3) (d := 26) rfl rfl rfl (u := true) (v := false) (congrArg Value.bool (congrArg (a₂ := false) not hfw)) rfl ?_
    refine sr_pass rfl (j := 3) (d := 26) rfl rfl rfl (u := true) (v := false) (congrArg Value.bool (congrArg (a₂ := false) not hfw)) rfl ?_
    refine sr_op rfl rfl (ow_pick (a := true) (v := .bool true) (congrArg Value.bool (congrArg (a₂ := false) not hfw)) rfl ?_)
    refine sr_nil ?_
    refine st_yes rfl ?_
    refine st_seq ?_
    refine st_region ?_
    refine sr_op rfl rfl (ow_assign (v := .bool true) rfl ?_)
    refine sr_nil ?_
    refine st_ret hb (hR _ _ (.bool true) (res_run (vs := [.bool true]) Tryd.results14 ⟨_, _, rfl, rfl, rfl⟩) ?_)
    exact ⟨_, rfl, rfl, H⟩
  · obtain ⟨s0A, s0c, rfl, s0m, s0M, s0⟩ := RepS.open_ hl
    obtain ⟨s1A, s1c, rfl, s1m, s1M, s1⟩ := RepS.open_ htn
    refine calls_st (n := 113) Tryd.func14 rfl rfl rfl ?_
    intro G bF cs hb hfn hR hP
    simp only [ini]
    refine st_seq ?_
    refine st_region ?_
    refine sr_op rfl rfl (ow_assign (v := .bool false) rfl ?_)
    refine sr_nil ?_
    refine st_seq ?_
    refine st_seq ?_
    refine st_region ?_
    refine sr_op rfl rfl (ow_call en33 rfl (lexSane_c H hlib) ?_)
    rintro _ _ ⟨rfl, H⟩
    refine sr_op rfl rfl (ow_not rfl ?_)
    refine sr_nil ?_
    refine st_no rfl ?_
    refine st_skip ?_
    refine st_seq ?_
    refine st_seq ?_
    refine st_region ?_
    refine sr_op rfl rfl (ow_move (v := .slice s0A l.length s0c) rfl ?_)
    refine sr_op rfl rfl (ow_call en37 rfl (FewT_c H s0 hbt) ?_)
    rintro _ _ ⟨rfl, H⟩
    refine sr_op rfl rfl (ow_not rfl ?_)
    refine sr_op rfl rfl (ow_move (v := .bool (!(fewT l))) rfl ?_)
    refine sr_want rfl (j := 3) (d := 26) rfl rfl rfl (v := false) (congrArg Value.bool (congrArg (a₂ := true) not hfw)) rfl (ow_move (v := .string note) rfl ?_)
    refine sr_want rfl (j := 3) (d := 26) rfl rfl rfl (v := false) (congrArg Value.bool (congrArg (a₂ := true) not hfw)) rfl (ow_lenT un9 rfl rfl ?_)
    refine sr_want rfl (j := 3) (d := 26) rfl rfl rfl (v := false) (congrArg Value.bool (congrArg (a₂ := true) not hfw)) rfl (ow_gtr rfl rfl ?_)
    refine sr_op rfl rfl (ow_pick (a := false) (v := .bool (decide (100 < (note.size : Int)))) (congrArg Value.bool (congrArg (a₂ := true) not hfw)) rfl ?_)
    refine sr_nil ?_
    refine st_yes (congrArg Value.bool (decide_eq_true hbig)) ?_
    refine st_seq ?_
    refine st_region ?_
    refine sr_op rfl rfl (ow_assign (v := .bool true) rfl ?_)
    refine sr_nil ?_
    refine st_ret hb (hR _ _ (.bool true) (res_run (vs := [.bool true]) Tryd.results14 ⟨_, _, rfl, rfl, rfl⟩) ?_)
    exact ⟨_, rfl, rfl, H⟩
  · obtain ⟨s0A, s0c, rfl, s0m, s0M, s0⟩ := RepS.open_ hl
    obtain ⟨s1A, s1c, rfl, s1m, s1M, s1⟩ := RepS.open_ htn
    refine calls_st (n := 113) Tryd.func14 rfl rfl rfl ?_
    intro G bF cs hb hfn hR hP
    simp only [ini]
    refine st_seq ?_
    refine st_region ?_
    refine sr_op rfl rfl (ow_assign (v := .bool false) rfl ?_)
    refine sr_nil ?_
    refine st_seq ?_
    refine st_seq ?_
    refine st_region ?_
    refine sr_op rfl rfl (ow_call en33 rfl (lexSane_c H hlib) ?_)
    rintro _ _ ⟨rfl, H⟩
    refine sr_op rfl rfl (ow_not rfl ?_)
    refine sr_nil ?_
    refine st_no rfl ?_
    refine st_skip ?_
    refine st_seq ?_
    refine st_seq ?_
    refine st_region ?_
    refine sr_op rfl rfl (ow_move (v := .slice s0A l.length s0c) rfl ?_)
    refine sr_op rfl rfl (ow_call en37 rfl (FewT_c H s0 hbt) ?_)
    rintro _ _ ⟨rfl, H⟩
    refine sr_op rfl rfl (ow_not rfl ?_)
    refine sr_op rfl rfl (ow_move (v := .bool (!(fewT l))) rfl ?_)
    refine sr_want rfl (j := 3) (d := 26) rfl rfl rfl (v := false) (congrArg Value.bool (congrArg (a₂ := true) not hfw)) rfl (ow_move (v := .string note) rfl ?_)
    refine sr_want rfl (j := 3) (d := 26) rfl rfl rfl (v := false) (congrArg Value.bool (congrArg (a₂ := true) not hfw)) rfl (ow_lenT un9 rfl rfl ?_)
    refine sr_want rfl (j := 3) (d := 26) rfl rfl rfl (v := false) (congrArg Value.bool (congrArg (a₂ := true) not hfw)) rfl (ow_gtr rfl rfl ?_)
    refine sr_op rfl rfl (ow_pick (a := false) (v := .bool (decide (100 < (note.size : Int)))) (congrArg Value.bool (congrArg (a₂ := true) not hfw)) rfl ?_)
    refine sr_nil ?_
    refine st_no (congrArg Value.bool (decide_eq_false hbig)) ?_
    refine st_skip ?_
    refine st_seq ?_
    refine st_region ?_
    refine sr_op rfl rfl (ow_assign (v := .string ⟨#[]⟩) rfl ?_)
    refine sr_nil ?_
    refine st_seq ?_
    refine st_seq ?_
    refine st_region ?_
    refine sr_op rfl rfl (ow_assign (v := .int .i64 0) rfl ?_)
    refine sr_nil ?_
    refine st_block ?_
    refine st_loop ?_
    refine st_live [0, 1, 2, 6, 7, 8] ?_
    refine st_ind (fun d_ m_ w_ => ∃ (i : Nat) (wd : ByteArray) (r_ : Sl), d_ = note.size - i ∧ m_ = (0, .slice s0A l.length s0c) :: (1, .slice s1A turns.length s1c) :: (2, .string note) :: (6, .bool false) :: (7, .string wd) :: (8, .int .i64 (i : Int)) :: r_ ∧ Hp B I w_ (L) ∧ i ≤ note.size ∧ wd.size ≤ i ∧ ∀ u ∈ wd.data.toList, u ≠ 10) _ ⟨0, ⟨#[]⟩, _, rfl, rfl, H, Nat.zero_le _, Nat.le_refl _, by intro u hu; cases hu⟩ ?_
    rintro _ _ _ ⟨i, wd, r2, rfl, rfl, H, hi, hwz, hwd⟩ ih3
    obtain ⟨u, hu⟩ := byte_of note i
    refine st_seq ?_
    refine st_seq ?_
    refine st_region ?_
    refine sr_op rfl rfl (ow_move (v := .int .i64 (i : Int)) rfl ?_)
    refine sr_op rfl rfl (ow_move (v := .string note) rfl ?_)
    refine sr_op rfl rfl (ow_lenT un9 rfl rfl ?_)
    refine sr_op rfl rfl (ow_lss rfl rfl ?_)
    refine sr_nil ?_
    refine st_cond (decide ((i : Int) < (note.size : Int))) rfl (fun hc4 => ?_) (fun hc4 => ?_)
    · have hc4 := of_decide_eq_true hc4
      refine st_skip ?_
      refine st_seq ?_
      refine st_block ?_
      refine st_seq ?_
      refine st_region ?_
      refine sr_op rfl rfl (ow_move (v := .string note) rfl ?_)
      refine sr_op rfl rfl (ow_move (v := .int .i64 (i : Int)) rfl ?_)
      refine sr_op rfl rfl (ow_indexT un9 rfl rfl (by omega) (u := u) (hu (by first | omega | (simp at hg; omega))).1 ?_)
      refine sr_op rfl rfl (ow_neq rfl rfl ?_)
      refine sr_nil ?_
      refine st_cond (!decide ((u.toNat : Int) = 10)) rfl (fun hc5 => ?_) (fun hc5 => ?_)
      · have hne := of_decide_eq_false (bnt hc5)
        refine st_region ?_
        refine sr_op rfl rfl (ow_move (v := .string wd) rfl ?_)
        refine sr_op rfl rfl (ow_move (v := .string note) rfl ?_)
        refine sr_op rfl rfl (ow_move (v := .int .i64 (i : Int)) rfl ?_)
        refine sr_op rfl rfl (ow_move (v := .int .i64 (i : Int)) rfl ?_)
        refine sr_op rfl rfl (ow_add (r := ((i + 1 : Nat) : Int)) rfl rfl (inc_i64 (by omega)) ?_)
        refine sr_op rfl rfl (ow_cutT (a := i) (c := (i + 1 : Nat)) un9 rfl (.inr ⟨_, rfl⟩) (.inr ⟨_, rfl⟩) (by omega) (by first | omega | (simp at hg; omega)) ?_)
        refine sr_op rfl rfl (ow_cat rfl rfl (by first | omega | (simp only [app_size, sz_20, sz_0a, sz_2f, ByteArray.size_extract] at *; omega)) ?_)
        refine sr_op rfl rfl (ow_assign (v := .string (wd ++ (note.extract i (i + 1 : Nat)))) rfl ?_)
        refine sr_nil ?_
        refine st_inBlock ?_
        refine st_region ?_
        refine sr_op rfl rfl (ow_move (v := .int .i64 (i : Int)) rfl ?_)
        refine sr_op rfl rfl (ow_add (r := ((i + 1 : Nat) : Int)) rfl rfl (inc_i64 (by omega)) ?_)
        refine sr_op rfl rfl (ow_assign (v := .int .i64 ((i + 1 : Nat) : Int)) rfl ?_)
        refine sr_nil ?_
        exact st_inLoop (st_live [0, 1, 2, 6, 7, 8] (ih3 _ _ _ (by omega) ⟨i + 1, wd ++ (note.extract i (i + 1 : Nat)), _, rfl, rfl, H, by omega, words_size hwz, words_more (hu (by omega)).2 hne hwd⟩))
      · skip
        refine st_skip ?_
        refine st_inBlock ?_
        refine st_region ?_
        refine sr_op rfl rfl (ow_move (v := .int .i64 (i : Int)) rfl ?_)
        refine sr_op rfl rfl (ow_add (r := ((i + 1 : Nat) : Int)) rfl rfl (inc_i64 (by omega)) ?_)
        refine sr_op rfl rfl (ow_assign (v := .int .i64 ((i + 1 : Nat) : Int)) rfl ?_)
        refine sr_nil ?_
        exact st_inLoop (st_live [0, 1, 2, 6, 7, 8] (ih3 _ _ _ (by omega) ⟨i + 1, wd, _, rfl, rfl, H, by omega, by omega, hwd⟩))
    · have hc4 := of_decide_eq_false hc4
      refine st_exit rfl ?_
      refine st_seq ?_
      refine st_region ?_
      refine sr_op rfl rfl (ow_move (v := .string wd) rfl ?_)
      refine sr_op rfl rfl (ow_cat rfl rfl (by first | omega | (simp only [app_size, sz_20, sz_0a, sz_2f, ByteArray.size_extract] at *; omega)) ?_)
      refine sr_op rfl rfl (ow_cat rfl rfl (by first | omega | (simp only [app_size, sz_20, sz_0a, sz_2f, ByteArray.size_extract] at *; omega)) ?_)
      refine sr_op rfl rfl (ow_buildSlice H (e := 9) (ps := [(0, .string ⟨#[32]⟩), (1, .string ⟨#[9]⟩), (2, .string ⟨#[10]⟩), (3, .string ⟨#[13, 10]⟩), (4, .string ⟨#[32, 32]⟩), (5, .string (((⟨#[47, 47]⟩ : ByteArray) ++ wd) ++ ⟨#[10]⟩)), (6, .string ⟨#[32, 47, 47, 32, 10]⟩), (7, .string ⟨#[10, 47, 47, 10]⟩)]) rfl [.string ⟨#[32]⟩, .string ⟨#[9]⟩, .string ⟨#[10]⟩, .string ⟨#[13, 10]⟩, .string ⟨#[32, 32]⟩, .string (((⟨#[47, 47]⟩ : ByteArray) ++ wd) ++ ⟨#[10]⟩), .string ⟨#[32, 47, 47, 32, 10]⟩, .string ⟨#[10, 47, 47, 10]⟩] (fun _ => by kernel_rfl) (fun g6 _ H => ?_))
      obtain ⟨I7, hI7, H, hl7⟩ := lit_done (enc := encS) (sz := 1) (n := 8) [⟨#[32]⟩, ⟨#[9]⟩, ⟨#[10]⟩, ⟨#[13, 10]⟩, ⟨#[32, 32]⟩, (((⟨#[47, 47]⟩ : ByteArray) ++ wd) ++ ⟨#[10]⟩), ⟨#[32, 47, 47, 32, 10]⟩, ⟨#[10, 47, 47, 10]⟩] rfl (by omega) H ⟨(s_iff.2 ⟨rfl, by unfold S63; decide⟩), rfl, ⟨(s_iff.2 ⟨rfl, by unfold S63; decide⟩), rfl, ⟨(s_iff.2 ⟨rfl, by unfold S63; decide⟩), rfl, ⟨(s_iff.2 ⟨rfl, by unfold S63; decide⟩), rfl, ⟨(s_iff.2 ⟨rfl, by unfold S63; decide⟩), rfl, ⟨(s_iff.2 ⟨rfl, s63_of (by simp only [app_size, sz_2f, sz_0a]; omega)⟩), rfl, ⟨(s_iff.2 ⟨rfl, by unfold S63; decide⟩), rfl, ⟨(s_iff.2 ⟨rfl, by unfold S63; decide⟩), rfl, rfl⟩⟩⟩⟩⟩⟩⟩⟩
      have hgl : RepS encS I7 1 (gapsS wd) (.slice (some ⟨g6, 0, none⟩) 8 8) := hl7
      refine sr_op rfl rfl (ow_assign (v := .slice (some ⟨g6, 0, none⟩) 8 8) rfl ?_)
      refine sr_nil ?_
      refine st_seq ?_
      refine st_region ?_
      refine sr_op rfl rfl (ow_assign (v := .string ⟨#[10]⟩) rfl ?_)
      refine sr_nil ?_
      refine st_seq ?_
      refine st_seq ?_
      refine st_region ?_
      refine sr_op rfl rfl (ow_move (v := .slice s0A l.length s0c) rfl ?_)
      refine sr_op rfl rfl (ow_lenS sl53 rfl rfl ?_)
      refine sr_op rfl rfl (ow_move (v := .int .i64 0) rfl ?_)
      refine sr_nil ?_
      refine st_block ?_
      refine st_loop ?_
      refine st_live [0, 1, 6, 9, 10, 52, 53, 54] ?_
      refine st_ind (fun d_ m_ w_ => ∃ (j : Nat) (s : ByteArray) (J8 : Im) (r_ : Sl), d_ = l.length - j ∧ m_ = (0, .slice s0A l.length s0c) :: (1, .slice s1A turns.length s1c) :: (6, .bool false) :: (9, .slice (some ⟨g6, 0, none⟩) 8 8) :: (10, .string s) :: (52, .slice s0A l.length s0c) :: (53, .int .i64 (l.length : Int)) :: (54, .int .i64 (j : Int)) :: r_ ∧ Hp B J8 w_ (L) ∧ Le I7 J8 ∧ j ≤ l.length ∧ s.size ≤ 1 + 140 * j ∧ ReadS s (l.take j)) _ ⟨0, ⟨#[10]⟩, I7, _, rfl, rfl, H, Le.refl _, Nat.zero_le _, Nat.le_refl _, by rw [List.take_zero]; exact read_start⟩ ?_
      rintro _ _ _ ⟨j, s, J8, r9, rfl, rfl, H, hJ8, hj, hsz, hrd⟩ ih10
      refine st_seq ?_
      refine st_region ?_
      refine sr_op rfl rfl (ow_lss rfl rfl ?_)
      refine sr_nil ?_
      refine st_seq ?_
      refine st_cond (decide ((j : Int) < (l.length : Int))) rfl (fun hc11 => ?_) (fun hc11 => ?_)
      · have hc11 := of_decide_eq_true hc11
        refine st_skip ?_
        refine st_seq ?_
        refine st_block ?_
        refine st_seq ?_
        refine st_region ?_
        refine sr_op rfl rfl (ow_move (v := .int .i64 (j : Int)) rfl ?_)
        have s0 := ((s0.mono hI7).mono hJ8)
        obtain ⟨e12, he12⟩ : ∃ q_, l[j]? = some q_ := ⟨_, List.getElem?_eq_getElem (by omega)⟩
        obtain ⟨b12, o12, us12, hA12, hat12, hul12, hr12⟩ := RepS.get s0 he12
        have d12 := hr12
        obtain ⟨rfl, d12_0, d12_1, d12_2, d12_3⟩ := tk_iff.1 hr12
        refine sr_op rfl rfl (ow_indexAddrA sl53 ty64 hA12 rfl rfl (by omega) (by omega) (r := o12 + j * 4) rfl ?_)
        refine sr_op rfl rfl (ow_loadI (v := .agg #[.int .i64 e12.kind, .string e12.text, .int .i64 e12.n, .int .i64 e12.at_]) ty64 H rfl hat12 rfl rfl rfl ?_)
        refine sr_op rfl rfl (ow_alloc ty64 H [.int .i64 0, .string ⟨#[]⟩, .int .i64 0, .int .i64 0] rfl (fun g13 _ H => ?_))
        refine sr_op rfl rfl (ow_assign (v := .int .i64 (j : Int)) rfl ?_)
        refine sr_op rfl rfl (ow_store ty64 H rfl (v := .agg #[.int .i64 e12.kind, .string e12.text, .int .i64 e12.n, .int .i64 e12.at_]) rfl [.int .i64 e12.kind, .string e12.text, .int .i64 e12.n, .int .i64 e12.at_] rfl rfl rfl 0 rfl rfl (fun _ H => ?_))
        refine sr_nil ?_
        refine st_seq ?_
        refine st_region ?_
        refine sr_op rfl rfl (ow_load (v := .agg #[.int .i64 e12.kind, .string e12.text, .int .i64 e12.n, .int .i64 e12.at_]) ty64 H rfl 0 rfl rfl rfl rfl ?_)
        refine sr_op rfl rfl (ow_buildSlice H (e := 64) (ps := [(0, .agg #[.int .i64 e12.kind, .string e12.text, .int .i64 e12.n, .int .i64 e12.at_])]) rfl [.int .i64 e12.kind, .string e12.text, .int .i64 e12.n, .int .i64 e12.at_] (fun _ => by kernel_rfl) (fun g14 _ H => ?_))
        obtain ⟨I15, hI15, H, hl15⟩ := lit_done (enc := encTk) (sz := 4) (n := 1) [e12] rfl (by omega) H ⟨d12, rfl, rfl⟩
        have hme := List.mem_of_getElem? he12
        have hte := htz _ hme
        have hsl := spell_le hte.2
        have hoe := one_le hme
        have hlib := (((hlib.mono hI7).mono hJ8).mono hI15)
        refine sr_op rfl rfl (ow_call en38 rfl (Text_c H hl15 (by simp) (by rw [spell_one]; omega) hlib (toks_sz hl15)) ?_)
        rintro _ _ ⟨rfl, H⟩
        refine sr_op rfl rfl (ow_move (v := .tuple #[.string ((textE [e12]).1), .int .i64 ((textE [e12]).2)]) rfl ?_)
        refine sr_op rfl rfl (ow_extract (v := .string ((textE [e12]).1)) rfl rfl ?_)
        refine sr_op rfl rfl (ow_extract (v := .int .i64 ((textE [e12]).2)) rfl rfl ?_)
        refine sr_op rfl rfl (ow_assign (v := .string ((textE [e12]).1)) rfl ?_)
        refine sr_op rfl rfl (ow_assign (v := .int .i64 ((textE [e12]).2)) rfl ?_)
        refine sr_nil ?_
        refine st_seq ?_
        refine st_seq ?_
        refine st_region ?_
        refine sr_op rfl rfl (ow_move (v := .int .i64 ((textE [e12]).2)) rfl ?_)
        refine sr_op rfl rfl (ow_neq rfl rfl ?_)
        refine sr_nil ?_
        refine st_cond (!decide (((textE [e12]).2) = 0)) rfl (fun hc16 => ?_) (fun hc16 => ?_)
        · have hbad := text1_bad (of_decide_eq_false (bnt hc16))
          refine st_seq ?_
          refine st_region ?_
          refine sr_op rfl rfl (ow_move (v := .slice s0A l.length s0c) rfl ?_)
          have s0 := (s0.mono hI15)
          refine sr_op rfl rfl (ow_call en38 rfl (Text_as H s0 hlib (by omega) (join_cost_le (l := l) hco) htz (textE_no (bad_all he12 hbad))) ?_)
          rintro _ _ ⟨rfl, H⟩
          refine sr_op rfl rfl (ow_move (v := .tuple #[.string ⟨#[]⟩, .int .i64 30]) rfl ?_)
          refine sr_op rfl rfl (ow_extract (v := .string ⟨#[]⟩) rfl rfl ?_)
          refine sr_op rfl rfl (ow_extract (v := .int .i64 30) rfl rfl ?_)
          refine sr_op rfl rfl (ow_assign (v := .string ⟨#[]⟩) rfl ?_)
          refine sr_op rfl rfl (ow_assign (v := .int .i64 30) rfl ?_)
          refine sr_nil ?_
          refine st_seq ?_
          refine st_region ?_
          refine sr_op rfl rfl (ow_move (v := .int .i64 30) rfl ?_)
          refine sr_op rfl rfl (ow_eql rfl rfl ?_)
          refine sr_op rfl rfl (ow_assign (v := .bool true) rfl ?_)
          refine sr_nil ?_
          refine st_ret hb (hR _ _ (.bool true) (res_run (vs := [.bool true]) Tryd.results14 ⟨_, _, rfl, rfl, rfl⟩) ?_)
          exact ⟨_, rfl, rfl, (Hp.back (H.drop 1) ((hI7.trans hJ8).trans hI15))⟩
        · have hgood := text1_good (of_decide_eq_true (bnf hc16))
          have hone : (textE [e12]).1.size ≤ 32 := by
            rw [hgood.2]
            obtain ⟨_, _, _, _, _, _, hz_⟩ := word_valid hgood.1
            exact hz_
          refine st_skip ?_
          refine st_seq ?_
          refine st_region ?_
          refine sr_op rfl rfl (ow_assign (v := .string ⟨#[32]⟩) rfl ?_)
          refine sr_nil ?_
          refine st_seq ?_
          refine st_seq ?_
          refine st_region ?_
          refine sr_op rfl rfl (ow_move (v := .int .i64 (j : Int)) rfl ?_)
          refine sr_op rfl rfl (ow_move (v := .slice s1A turns.length s1c) rfl ?_)
          refine sr_op rfl rfl (ow_lenS sl68 rfl rfl ?_)
          refine sr_op rfl rfl (ow_lss rfl rfl ?_)
          refine sr_nil ?_
          refine st_cond (decide ((j : Int) < (turns.length : Int))) rfl (fun hc17 => ?_) (fun hc17 => ?_)
          · have hc17 := of_decide_eq_true hc17
            refine st_region ?_
            refine sr_op rfl rfl (ow_move (v := .slice (some ⟨g6, 0, none⟩) 8 8) rfl ?_)
            refine sr_op rfl rfl (ow_move (v := .slice s1A turns.length s1c) rfl ?_)
            refine sr_op rfl rfl (ow_move (v := .int .i64 (j : Int)) rfl ?_)
            have s1 := (((s1.mono hI7).mono hJ8).mono hI15)
            obtain ⟨e18, he18⟩ : ∃ q_, turns[j]? = some q_ := ⟨_, List.getElem?_eq_getElem (by omega)⟩
            obtain ⟨b18, o18, us18, hA18, hat18, hul18, hr18⟩ := RepS.get s1 he18
            have d18 := hr18
            obtain ⟨rfl, d18_0⟩ := u_iff.1 hr18
            refine sr_op rfl rfl (ow_indexAddrA sl68 ty5 hA18 rfl rfl (by omega) (by omega) (r := o18 + j * 1) rfl ?_)
            refine sr_op rfl rfl (ow_loadI (v := .int .u8 e18) ty5 H rfl hat18 rfl rfl rfl ?_)
            refine sr_op rfl rfl (ow_conv (cm := true) Tryd.underlying5 Tryd.underlying3 rfl (r := e18) (wrap_i64 (by omega) (by omega)) ?_)
            refine sr_op rfl rfl (ow_move (v := .slice (some ⟨g6, 0, none⟩) 8 8) rfl ?_)
            refine sr_op rfl rfl (ow_lenS sl22 rfl rfl ?_)
            obtain ⟨k, hk, hk8⟩ := rem8 e18 (by omega)
            refine sr_op rfl rfl (ow_rem rfl rfl (by omega) (r := (k : Int)) hk ?_)
            have hgl := ((hgl.mono hJ8).mono hI15)
            obtain ⟨gp, hgp⟩ : ∃ q_, (gapsS wd)[k]? = some q_ := ⟨_, List.getElem?_eq_getElem (by show k < 8; exact hk8)⟩
            have hgz := (gaps_ok hwd (by omega) hgp).2
            have he19 := hgp
            obtain ⟨b19, o19, us19, hA19, hat19, hul19, hr19⟩ := RepS.get hgl he19
            have d19 := hr19
            obtain ⟨rfl, d19_0⟩ := s_iff.1 hr19
            refine sr_op rfl rfl (ow_indexAddrA sl22 ty9 hA19 rfl rfl (by omega) (by omega) (r := o19 + k * 1) rfl ?_)
            refine sr_op rfl rfl (ow_loadI (v := .string gp) ty9 H rfl hat19 rfl rfl rfl ?_)
            refine sr_op rfl rfl (ow_assign (v := .string gp) rfl ?_)
            refine sr_nil ?_
            refine st_region ?_
            refine sr_op rfl rfl (ow_move (v := .string s) rfl ?_)
            refine sr_op rfl rfl (ow_move (v := .string ((textE [e12]).1)) rfl ?_)
            refine sr_op rfl rfl (ow_cat rfl rfl (by first | omega | (simp only [app_size, sz_20, sz_0a, sz_2f, ByteArray.size_extract] at *; omega)) ?_)
            refine sr_op rfl rfl (ow_move (v := .string gp) rfl ?_)
            refine sr_op rfl rfl (ow_cat rfl rfl (by first | omega | (simp only [app_size, sz_20, sz_0a, sz_2f, ByteArray.size_extract] at *; omega)) ?_)
            refine sr_op rfl rfl (ow_cat rfl rfl (by first | omega | (simp only [app_size, sz_20, sz_0a, sz_2f, ByteArray.size_extract] at *; omega)) ?_)
            refine sr_op rfl rfl (ow_assign (v := .string (s ++ ((((textE [e12]).1) ++ ⟨#[32]⟩) ++ gp))) rfl ?_)
            refine sr_nil ?_
            refine st_inBlock ?_
            refine st_region ?_
            refine sr_op rfl rfl (ow_add (r := ((j + 1 : Nat) : Int)) rfl rfl (inc_i64 (by omega)) ?_)
            refine sr_op rfl rfl (ow_move (v := .int .i64 ((j + 1 : Nat) : Int)) rfl ?_)
            refine sr_nil ?_
            exact st_inLoop (st_live [0, 1, 6, 9, 10, 52, 53, 54] (ih10 _ _ _ (by omega) ⟨j + 1, s ++ ((((textE [e12]).1) ++ ⟨#[32]⟩) ++ gp), I15, _, rfl, rfl, H.drop 1, ((hJ8.trans hI15)), by omega, by
                have hg_ : GapOk (ByteArray.data gp).toList ∧ (ByteArray.size gp) ≤ 103 := gaps_ok hwd (by omega) hgp
                have hg_ := hg_.2
                simp only [app_size, sz_20] at *
                omega, by
                have hg_ : GapOk (ByteArray.data gp).toList ∧ (ByteArray.size gp) ≤ 103 := gaps_ok hwd (by omega) hgp
                rw [take_some he12, hgood.2]
                exact read_next hrd hgood.1 hg_.1⟩))
          · have hc17 := of_decide_eq_false hc17
            refine st_skip ?_
            refine st_region ?_
            refine sr_op rfl rfl (ow_move (v := .string s) rfl ?_)
            refine sr_op rfl rfl (ow_move (v := .string ((textE [e12]).1)) rfl ?_)
            refine sr_op rfl rfl (ow_cat rfl rfl (by first | omega | (simp only [app_size, sz_20, sz_0a, sz_2f, ByteArray.size_extract] at *; omega)) ?_)
            refine sr_op rfl rfl (ow_move (v := .string ⟨#[32]⟩) rfl ?_)
            refine sr_op rfl rfl (ow_cat rfl rfl (by first | omega | (simp only [app_size, sz_20, sz_0a, sz_2f, ByteArray.size_extract] at *; omega)) ?_)
            refine sr_op rfl rfl (ow_cat rfl rfl (by first | omega | (simp only [app_size, sz_20, sz_0a, sz_2f, ByteArray.size_extract] at *; omega)) ?_)
            refine sr_op rfl rfl (ow_assign (v := .string (s ++ ((((textE [e12]).1) ++ ⟨#[32]⟩) ++ ⟨#[32]⟩))) rfl ?_)
            refine sr_nil ?_
            refine st_inBlock ?_
            refine st_region ?_
            refine sr_op rfl rfl (ow_add (r := ((j + 1 : Nat) : Int)) rfl rfl (inc_i64 (by omega)) ?_)
            refine sr_op rfl rfl (ow_move (v := .int .i64 ((j + 1 : Nat) : Int)) rfl ?_)
            refine sr_nil ?_
            exact st_inLoop (st_live [0, 1, 6, 9, 10, 52, 53, 54] (ih10 _ _ _ (by omega) ⟨j + 1, s ++ ((((textE [e12]).1) ++ ⟨#[32]⟩) ++ ⟨#[32]⟩), I15, _, rfl, rfl, H.drop 1, ((hJ8.trans hI15)), by omega, by
                have hg_ : GapOk (ByteArray.data ⟨#[32]⟩).toList ∧ (ByteArray.size ⟨#[32]⟩) ≤ 103 := ⟨gap_white white_32, by decide⟩
                have hg_ := hg_.2
                simp only [app_size, sz_20] at *
                omega, by
                have hg_ : GapOk (ByteArray.data ⟨#[32]⟩).toList ∧ (ByteArray.size ⟨#[32]⟩) ≤ 103 := ⟨gap_white white_32, by decide⟩
                rw [take_some he12, hgood.2]
                exact read_next hrd hgood.1 hg_.1⟩))
      · have hc11 := of_decide_eq_false hc11
        refine st_exit rfl ?_
        refine st_seq ?_
        refine st_region ?_
        refine sr_op rfl rfl (ow_move (v := .string s) rfl ?_)
        rw [List.take_of_length_le (by omega)] at hrd
        obtain ⟨m, hm, hsm⟩ := read_lex hrd (by omega)
        have hlib := ((hlib.mono hI7).mono hJ8)
        refine sr_op rfl rfl (ow_call en34 rfl (Lex_as H (s63_of (by omega)) hlib hm) ?_)
        rintro _ _ ⟨I20, v20, hI20, H, rfl, hl20⟩
        obtain ⟨s20A, s20c, rfl, s20m, s20M, s20⟩ := RepS.open_ hl20
        refine sr_op rfl rfl (ow_move (v := .tuple #[.slice s20A m.length s20c, .int .i64 0, .int .i64 0]) rfl ?_)
        refine sr_op rfl rfl (ow_extract (v := .slice s20A m.length s20c) rfl rfl ?_)
        refine sr_op rfl rfl (ow_extract (v := .int .i64 0) rfl rfl ?_)
        refine sr_op rfl rfl (ow_extract (v := .int .i64 0) rfl rfl ?_)
        refine sr_op rfl rfl (ow_assign (v := .slice s20A m.length s20c) rfl ?_)
        refine sr_op rfl rfl (ow_assign (v := .int .i64 0) rfl ?_)
        refine sr_op rfl rfl (ow_assign (v := .int .i64 0) rfl ?_)
        refine sr_nil ?_
        refine st_seq ?_
        refine st_region ?_
        refine sr_op rfl rfl (ow_move (v := .int .i64 0) rfl ?_)
        refine sr_op rfl rfl (ow_eql rfl rfl ?_)
        refine sr_op rfl rfl (ow_move (v := .bool true) rfl ?_)
        refine sr_want rfl (j := 2) (d := 104) rfl rfl rfl (v := true) rfl rfl (ow_move (v := .int .i64 0) rfl ?_)
        refine sr_want rfl (j := 2) (d := 104) rfl rfl rfl (v := true) rfl rfl (ow_eql rfl rfl ?_)
        refine sr_op rfl rfl (ow_pick (v := .bool true) rfl rfl ?_)
        refine sr_op rfl rfl (ow_move (v := .bool true) rfl ?_)
        refine sr_want rfl (j := 6) (d := 108) rfl rfl rfl (v := true) rfl rfl (ow_move (v := .slice s0A l.length s0c) rfl ?_)
        refine sr_want rfl (j := 6) (d := 108) rfl rfl rfl (v := true) rfl rfl (ow_move (v := .slice s20A m.length s20c) rfl ?_)
        have s0 := (((s0.mono hI7).mono hJ8).mono hI20)
        refine sr_want rfl (j := 6) (d := 108) rfl rfl rfl (v := true) rfl rfl (ow_call en40 rfl (lexSame_as H s0 s20 hsm) ?_)
        rintro _ _ ⟨rfl, H⟩
        refine sr_op rfl rfl (ow_pick (v := .bool true) rfl rfl ?_)
        refine sr_op rfl rfl (ow_assign (v := .bool true) rfl ?_)
        refine sr_nil ?_
        refine st_ret hb (hR _ _ (.bool true) (res_run (vs := [.bool true]) Tryd.results14 ⟨_, _, rfl, rfl, rfl⟩) ?_)
        exact ⟨_, rfl, rfl, (Hp.back H ((hI7.trans hJ8).trans hI20))⟩
end Go.Proofs.YtbbflenaeihmeaaDoor
