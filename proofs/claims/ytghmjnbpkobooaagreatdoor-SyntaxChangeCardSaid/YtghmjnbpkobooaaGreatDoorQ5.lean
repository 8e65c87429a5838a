/-
  Walks: Text.
-/
import Derived.Test.YtghmjnbpkobooaaGreatDoorQ4
import Derived.Laws.OwnMore
set_option linter.unusedVariables false
set_option linter.unusedSimpArgs false
set_option maxRecDepth 10000
set_option maxHeartbeats 4000000
namespace Go.Proofs.YtghmjnbpkobooaaGreatDoor
open Go Go.RowKit

def spellS (t : Tk) : ByteArray := if t.kind = 2 then itoaS t.n else t.text
def textE (l : List Tk) : ByteArray × Int := if l.all validB = true then (joinS (l.map spellS) ⟨#[32]⟩, 0) else (⟨#[]⟩, 30)
/-- The words as they stand when i of them are written. -/
def wordsV (l : List Tk) (i : Nat) : List Value := (l.take i).map (fun t => .string (spellS t)) ++ List.replicate (l.length - i) (.string ⟨#[]⟩)
theorem words_len (l : List Tk) (i : Nat) (h : i ≤ l.length) : (wordsV l i).length = l.length := by
  simp only [wordsV, List.length_append, List.length_map, List.length_take, List.length_replicate]
  omega
theorem words_zero (l : List Tk) : wordsV l 0 = List.replicate l.length (.string ⟨#[]⟩) := by simp [wordsV]
theorem wr_words {l : List Tk} {i : Nat} {t : Tk} (ht : l[i]? = some t) {s : ByteArray} (hs : spellS t = s) : wr (wordsV l i) i [.string s] = wordsV l (i + 1) := by
  have hi : i < l.length := (List.getElem?_eq_some_iff.1 ht).1
  have h1 : ((l.take i).map (fun t => Value.string (spellS t))).length = i := by simp; omega
  have h2 : l.length - i = (l.length - (i + 1)) + 1 := by omega
  have e1 : (wordsV l i).take i = (l.take i).map (fun t => Value.string (spellS t)) := by
    unfold wordsV
    rw [List.take_append_of_le_length (by omega), List.take_of_length_le (by omega)]
  have e2 : (wordsV l i).drop (i + 1) = List.replicate (l.length - (i + 1)) (.string ⟨#[]⟩) := by
    unfold wordsV
    rw [h2, List.replicate_succ, show i + 1 = ((l.take i).map (fun t => Value.string (spellS t))).length + 1 by omega, List.drop_length_add_append]
    rfl
  unfold wr
  simp only [List.length_singleton, e1, e2]
  unfold wordsV
  rw [take_some ht, List.map_append, List.map_singleton, hs]
  simp
theorem words_rows {I : Im} : ∀ {l : List ByteArray}, (∀ s ∈ l, S63 s) → Rows I 1 (l.map encS) (l.map Value.string)
  | [], _ => rfl
  | s :: l, h => by
    simp only [List.map_cons, Rows, List.take_succ_cons, List.take_zero, List.drop_succ_cons, List.drop_zero]
    exact ⟨s_iff.2 ⟨rfl, h s (List.mem_cons_self ..)⟩, rfl, words_rows fun q hq => h q (List.mem_cons_of_mem _ hq)⟩
theorem words_full (l : List Tk) : wordsV l l.length = (l.map spellS).map Value.string := by simp [wordsV]
theorem dec_len : ∀ (k u : Nat), u < 10 ^ (k + 1) → (Lib.decDigits u).length ≤ k + 1
  | 0, u, h => by
    unfold Lib.decDigits
    rw [dif_pos (by simpa using h)]
    simp
  | k + 1, u, h => by
    unfold Lib.decDigits
    split
    · simp
    · have := dec_len k (u / 10) (by rw [Nat.pow_succ] at h; omega)
      simp only [List.length_append, List.length_singleton]
      omega
theorem itoa_size (n : Int) (h : I64 n) : (itoaS n).size ≤ 20 := by
  have h1 : (itoaS n).size = (Lib.itoa n).length := by simp [itoaS, ByteArray.size]
  have hb := h.1
  have hc := h.2
  rw [h1]
  unfold Lib.itoa
  split
  · have := dec_len 18 n.natAbs (by omega)
    simp only [List.length_cons]
    omega
  · have := dec_len 18 n.toNat (by omega)
    omega
theorem Text_take {l : List Tk} {i : Nat} {t : Tk} (h : (l.take i).all validB = true) (ht : l[i]? = some t) (hv : validB t = true) : (l.take (i + 1)).all validB = true := by
  rw [take_some ht, List.all_append, h]
  simpa using hv
theorem Text_c {B I L w} (H : Hp B I w L) {l : List Tk} {v : Value} (hl : RepS encTk I 4 l v) (hn : l.length ≤ 100000) (hj : l.all validB = true → (joinS (l.map spellS) ⟨#[32]⟩).size ≤ 140737488355328) (hlib : LibAt I) (hsz : ∀ t ∈ l, S63 t.text ∧ I64 t.n) : Calls Tryz.prog 36 #[v] w (Rt fun r w' => r = .tuple #[.string (textE l).1, .int .i64 (textE l).2] ∧ Hp B I w' L) := by
  obtain ⟨s0A, s0c, rfl, s0m, s0M, s0⟩ := RepS.open_ hl
  refine calls_st (n := 39) Tryz.func36 rfl rfl rfl ?_
  intro G bF cs hb hfn hR hP
  simp only [ini]
  refine st_seq ?_
  refine st_region ?_
  refine sr_op rfl rfl (ow_assign (v := .string ⟨#[]⟩) rfl ?_)
  refine sr_op rfl rfl (ow_assign (v := .int .i64 0) rfl ?_)
  refine sr_nil ?_
  refine st_seq ?_
  refine st_region ?_
  refine sr_op rfl rfl (ow_move (v := .slice s0A l.length s0c) rfl ?_)
  refine sr_op rfl rfl (ow_lenS sl67 rfl rfl ?_)
  refine sr_op rfl rfl (ow_makeSlice sl22 ty9 H (l := l.length) (c := l.length) rfl rfl (by omega) (by omega) (by omega) (by omega) (List.replicate l.length (.string ⟨#[]⟩)) (by rw [Nat.mul_one]; exact toList_madeCells_one _ _) (fun gW _ H => ?_))
  rw [← words_zero l] at H
  refine sr_op rfl rfl (ow_assign (v := .slice (some ⟨gW, 0, none⟩) l.length l.length) rfl ?_)
  refine sr_nil ?_
  refine st_seq ?_
  refine st_seq ?_
  refine st_region ?_
  refine sr_op rfl rfl (ow_move (v := .slice s0A l.length s0c) rfl ?_)
  refine sr_op rfl rfl (ow_lenS sl67 rfl rfl ?_)
  refine sr_op rfl rfl (ow_move (v := .int .i64 0) rfl ?_)
  refine sr_nil ?_
  refine st_block ?_
  refine st_loop ?_
  refine st_live [2, 3, 4, 10, 11, 12] ?_
  refine st_ind (fun d_ m_ w_ => ∃ (i : Nat) (r_ : Sl), d_ = l.length - i ∧ m_ = (2, .string ⟨#[]⟩) :: (3, .int .i64 0) :: (4, .slice (some ⟨gW, 0, none⟩) l.length l.length) :: (10, .slice s0A l.length s0c) :: (11, .int .i64 (l.length : Int)) :: (12, .int .i64 (i : Int)) :: r_ ∧ Hp B I w_ ((gW, Ob (wordsV l i) 9) :: L) ∧ i ≤ l.length ∧ (l.take i).all validB = true) _ ⟨0, _, rfl, rfl, H, Nat.zero_le _, rfl⟩ ?_
  rintro _ _ _ ⟨i, r2, rfl, rfl, H, hi, hall⟩ ih3
  refine st_seq ?_
  refine st_region ?_
  refine sr_op rfl rfl (ow_lss rfl rfl ?_)
  refine sr_nil ?_
  refine st_seq ?_
  refine st_cond (decide ((i : Int) < (l.length : Int))) rfl (fun hc4 => ?_) (fun hc4 => ?_)
  · have hc4 := of_decide_eq_true hc4
    refine st_skip ?_
    refine st_seq ?_
    refine st_block ?_
    refine st_seq ?_
    refine st_region ?_
    refine sr_op rfl rfl (ow_move (v := .int .i64 (i : Int)) rfl ?_)
    obtain ⟨e5, he5⟩ : ∃ q_, l[i]? = some q_ := ⟨_, List.getElem?_eq_getElem (by omega)⟩
    obtain ⟨b5, o5, us5, hA5, hat5, hul5, hr5⟩ := RepS.get s0 he5
    have d5 := hr5
    obtain ⟨rfl, d5_0, d5_1, d5_2, d5_3⟩ := tk_iff.1 hr5
    refine sr_op rfl rfl (ow_indexAddrA sl67 ty71 hA5 rfl rfl (by omega) (by omega) (r := o5 + i * 4) rfl ?_)
    refine sr_op rfl rfl (ow_loadI (v := .agg #[.int .i64 e5.kind, .string e5.text, .int .i64 e5.n, .int .i64 e5.at_]) ty71 H rfl hat5 rfl rfl rfl ?_)
    refine sr_op rfl rfl (ow_alloc ty71 H [.int .i64 0, .string ⟨#[]⟩, .int .i64 0, .int .i64 0] rfl (fun g6 _ H => ?_))
    refine sr_op rfl rfl (ow_assign (v := .int .i64 (i : Int)) rfl ?_)
    refine sr_op rfl rfl (ow_store ty71 H rfl (v := .agg #[.int .i64 e5.kind, .string e5.text, .int .i64 e5.n, .int .i64 e5.at_]) rfl [.int .i64 e5.kind, .string e5.text, .int .i64 e5.n, .int .i64 e5.at_] rfl rfl rfl 0 rfl rfl (fun _ H => ?_))
    refine sr_nil ?_
    refine st_block ?_
    refine st_seq ?_
    refine st_region ?_
    refine sr_op rfl rfl (ow_load (v := .agg #[.int .i64 e5.kind, .string e5.text, .int .i64 e5.n, .int .i64 e5.at_]) ty71 H rfl 0 rfl rfl rfl rfl ?_)
    refine sr_op rfl rfl (ow_call en100 rfl (valid_c H d5) ?_)
    rintro _ _ ⟨rfl, H⟩
    refine sr_op rfl rfl (ow_not rfl ?_)
    refine sr_op rfl rfl (ow_assign (v := .bool (!(validB e5))) rfl ?_)
    refine sr_nil ?_
    refine st_cond (!(validB e5)) rfl (fun hc7 => ?_) (fun hc7 => ?_)
    · have hbad := bnt hc7
      refine st_seq ?_
      refine st_region ?_
      refine sr_op rfl rfl (ow_assign (v := .string ⟨#[]⟩) rfl ?_)
      refine sr_op rfl rfl (ow_assign (v := .int .i64 30) rfl ?_)
      refine sr_nil ?_
      refine st_ret hb (hR _ _ (.tuple #[.string ⟨#[]⟩, .int .i64 30]) (res_run (vs := [.string ⟨#[]⟩, .int .i64 30]) Tryz.results36 ⟨_, _, rfl, rfl, ⟨_, _, rfl, rfl, rfl⟩⟩) ?_)
      exact ⟨_, rfl, by rw [textE, if_neg (fun h_ => by
        have := List.all_eq_true.1 h_ _ (List.mem_of_getElem? he5)
        rw [hbad] at this
        cases this)], (H.drop 2)⟩
    · have hgood := bnf hc7
      refine st_seq ?_
      refine st_region ?_
      refine sr_op rfl rfl (ow_fieldAddr fd71_0 ty3 rfl rfl (r := 0) rfl ?_)
      refine sr_op rfl rfl (ow_load (v := .int .i64 e5.kind) ty3 H rfl 0 rfl rfl rfl rfl ?_)
      refine sr_op rfl rfl (ow_eql rfl rfl ?_)
      refine sr_op rfl rfl (ow_assign (v := .bool (decide (e5.kind = 2))) rfl ?_)
      refine sr_nil ?_
      refine st_cond (decide (e5.kind = 2)) rfl (fun hc8 => ?_) (fun hc8 => ?_)
      · have hk2 := of_decide_eq_true hc8
        refine st_region ?_
        refine sr_op rfl rfl (ow_move (v := .slice (some ⟨gW, 0, none⟩) l.length l.length) rfl ?_)
        refine sr_op rfl rfl (ow_move (v := .int .i64 (i : Int)) rfl ?_)
        refine sr_op rfl rfl (ow_fieldAddr fd71_2 ty3 rfl rfl (r := 2) rfl ?_)
        refine sr_op rfl rfl (ow_load (v := .int .i64 e5.n) ty3 H rfl 0 rfl rfl rfl rfl ?_)
        refine sr_op rfl rfl (ow_call en101 rfl (Itoa_c H (hsz _ (List.mem_of_getElem? he5)).2 hlib) ?_)
        rintro _ _ ⟨rfl, H⟩
        refine sr_op rfl rfl (ow_indexAddr sl22 ty9 rfl rfl (by omega) (by omega) (r := i) (by simp) ?_)
        refine sr_op rfl rfl (ow_store ty9 H rfl (v := .string (itoaS e5.n)) rfl [.string (itoaS e5.n)] rfl rfl rfl 1 rfl (Nat.ble_eq_true_of_le (by rw [words_len l i (by omega)]; omega)) (fun _ H => ?_))
        simp only [List.set] at H
        rw [wr_words he5 (by rw [spellS, if_pos hk2])] at H
        refine sr_nil ?_
        refine st_inBlock ?_
        refine st_inBlock ?_
        refine st_region ?_
        refine sr_op rfl rfl (ow_add (r := ((i + 1 : Nat) : Int)) rfl rfl (inc_i64 (by omega)) ?_)
        refine sr_op rfl rfl (ow_move (v := .int .i64 ((i + 1 : Nat) : Int)) rfl ?_)
        refine sr_nil ?_
        exact st_inLoop (st_live [2, 3, 4, 10, 11, 12] (ih3 _ _ _ (by omega) ⟨i + 1, _, rfl, rfl, H.drop 1, by omega, Text_take hall he5 hgood⟩))
      · have hk2 := of_decide_eq_false hc8
        refine st_region ?_
        refine sr_op rfl rfl (ow_move (v := .slice (some ⟨gW, 0, none⟩) l.length l.length) rfl ?_)
        refine sr_op rfl rfl (ow_move (v := .int .i64 (i : Int)) rfl ?_)
        refine sr_op rfl rfl (ow_fieldAddr fd71_1 ty9 rfl rfl (r := 1) rfl ?_)
        refine sr_op rfl rfl (ow_load (v := .string e5.text) ty9 H rfl 0 rfl rfl rfl rfl ?_)
        refine sr_op rfl rfl (ow_indexAddr sl22 ty9 rfl rfl (by omega) (by omega) (r := i) (by simp) ?_)
        refine sr_op rfl rfl (ow_store ty9 H rfl (v := .string e5.text) rfl [.string e5.text] rfl rfl rfl 1 rfl (Nat.ble_eq_true_of_le (by rw [words_len l i (by omega)]; omega)) (fun _ H => ?_))
        simp only [List.set] at H
        rw [wr_words he5 (by rw [spellS, if_neg hk2])] at H
        refine sr_nil ?_
        refine st_inBlock ?_
        refine st_inBlock ?_
        refine st_region ?_
        refine sr_op rfl rfl (ow_add (r := ((i + 1 : Nat) : Int)) rfl rfl (inc_i64 (by omega)) ?_)
        refine sr_op rfl rfl (ow_move (v := .int .i64 ((i + 1 : Nat) : Int)) rfl ?_)
        refine sr_nil ?_
        exact st_inLoop (st_live [2, 3, 4, 10, 11, 12] (ih3 _ _ _ (by omega) ⟨i + 1, _, rfl, rfl, H.drop 1, by omega, Text_take hall he5 hgood⟩))
  · have hc4 := of_decide_eq_false hc4
    obtain rfl : i = l.length := by omega
    rw [words_full] at H
    obtain ⟨Iw, hIw, H, hw_⟩ := lit_done (enc := encS) (sz := 1) (n := l.length) (l.map spellS) (List.length_map ..) (by omega) H (words_rows (by
      intro s_ hs_
      obtain ⟨t_, ht_, rfl⟩ := List.mem_map.1 hs_
      have h_ := hsz t_ ht_
      unfold spellS
      split
      · have := itoa_size t_.n h_.2
        unfold S63
        omega
      · exact h_.1))
    refine st_exit rfl ?_
    refine st_seq ?_
    refine st_region ?_
    refine sr_op rfl rfl (ow_move (v := .slice (some ⟨gW, 0, none⟩) l.length l.length) rfl ?_)
    refine sr_op rfl rfl (ow_call en102 rfl (Join_c H hw_ _ (by rw [List.length_map]; omega) (hj (by rw [List.take_of_length_le (Nat.le_refl _)] at hall; exact hall))) ?_)
    rintro _ _ ⟨rfl, H⟩
    refine sr_op rfl rfl (ow_assign (v := .string (joinS (l.map spellS) ⟨#[32]⟩)) rfl ?_)
    refine sr_op rfl rfl (ow_assign (v := .int .i64 0) rfl ?_)
    refine sr_nil ?_
    refine st_ret hb (hR _ _ (.tuple #[.string (joinS (l.map spellS) ⟨#[32]⟩), .int .i64 0]) (res_run (vs := [.string (joinS (l.map spellS) ⟨#[32]⟩), .int .i64 0]) Tryz.results36 ⟨_, _, rfl, rfl, ⟨_, _, rfl, rfl, rfl⟩⟩) ?_)
    rw [List.take_of_length_le (Nat.le_refl _)] at hall
    exact ⟨_, rfl, by rw [textE, if_pos hall], (Hp.back H hIw)⟩
end Go.Proofs.YtghmjnbpkobooaaGreatDoor
