/-
  Walks: Lex of the reference, and the statement LexSpec.
-/
import Derived.Test.YtbbflenaeihmeaaDoorQG
set_option linter.unusedVariables false
set_option linter.unusedSimpArgs false
set_option maxRecDepth 10000
set_option maxHeartbeats 4000000
namespace Go.Proofs.YtbbflenaeihmeaaDoor
open Go Go.RowKit

theorem spanP_end {p : UInt8 → Bool} {s : ByteArray} {n : Nat} {u : UInt8} (h : (decide ((n : Int) < (s.size : Int)) && p u) = false) (hu : n < s.size → s[n]? = some u ∧ s.data.toList[n]? = some u) : spanL p (s.data.toList.drop n) = 0 := by
  by_cases hn : n < s.size
  · rw [drop_some (hu hn).2]
    rw [decide_eq_true (show (n : Int) < (s.size : Int) by omega), Bool.true_and] at h
    simp only [spanL, h]
    rfl
  · rw [List.drop_of_length_le (by rw [← size_data]; omega)]
    rfl
theorem spanP_step {p : UInt8 → Bool} {s : ByteArray} {n : Nat} {u : UInt8} (h : (decide ((n : Int) < (s.size : Int)) && p u) = true) (hu : n < s.size → s[n]? = some u ∧ s.data.toList[n]? = some u) : n < s.size ∧ spanL p (s.data.toList.drop n) = spanL p (s.data.toList.drop (n + 1)) + 1 := by
  simp only [Bool.and_eq_true, decide_eq_true_eq] at h
  have hn : n < s.size := by omega
  refine ⟨hn, ?_⟩
  rw [drop_some (hu hn).2]
  simp only [spanL, h.2, if_true]
def pNot (u : UInt8) : Bool := !decide ((u.toNat : Int) = 10)
def pPart (u : UInt8) : Bool := partB (u.toNat : Int)
def pDig (u : UInt8) : Bool := digitB (u.toNat : Int)
theorem all_u8 {p q : Nat → Bool} (h : ((List.range 256).all fun n => p n == q n) = true) (u : UInt8) : p u.toNat = q u.toNat := eq_of_beq (List.all_eq_true.1 h u.toNat (List.mem_range.2 u.toNat_lt))
theorem pNot_eq : pNot = not10 := by
  funext u
  unfold pNot not10
  by_cases h : u = 10
  · rw [h]
    rfl
  · have h1 : ¬ (u.toNat : Int) = 10 := fun e => h (UInt8.toNat_inj.1 (by show u.toNat = 10; omega))
    rw [decide_eq_false h1, beq_eq_false_iff_ne.2 h]
theorem pPart_eq : pPart = clsK [2, 3, 5] := by
  funext u
  exact all_u8 (p := fun n => partB (n : Int)) (q := fun n => inK [2, 3, 5] (classI (n : Int))) (by kernel_rfl) u
theorem pDig_eq : pDig = clsK [3] := by
  funext u
  exact all_u8 (p := fun n => digitB (n : Int)) (q := fun n => inK [3] (classI (n : Int))) (by kernel_rfl) u
theorem space_class (u : UInt8) : spaceB (u.toNat : Int) = decide (classI (u.toNat : Int) = 1) := all_u8 (p := fun n => spaceB (n : Int)) (q := fun n => decide (classI (n : Int) = 1)) (by kernel_rfl) u
theorem letter_cls (u : UInt8) : letterB (u.toNat : Int) = decide (classI (u.toNat : Int) = 2) := all_u8 (p := fun n => letterB (n : Int)) (q := fun n => decide (classI (n : Int) = 2)) (by kernel_rfl) u
theorem figure_cls (u : UInt8) : digitB (u.toNat : Int) = decide (classI (u.toNat : Int) = 3) := all_u8 (p := fun n => digitB (n : Int)) (q := fun n => decide (classI (n : Int) = 3)) (by kernel_rfl) u
theorem s63_ext {s : ByteArray} {a b : Nat} (h : s.size ≤ 140737488355328) : S63 (s.extract a b) := by
  unfold S63
  rw [ByteArray.size_extract]
  omega
theorem empty_acc (I : Im) (g : Nat) : Acc I 4 (.slice (some ⟨g, 0, none⟩) 0 0) [] (([] : List Tk).map encTk) := .inr ⟨g, 0, rfl, Nat.le_refl _, Nat.zero_le _, by simp, fun j x hx => by simp at hx⟩
section
variable {src : ByteArray} {a i : Nat} {u v : UInt8}
theorem step_com (ha : a < src.size) (hu : src.data.toList[a]? = some u) (hc : isCom (src.data.toList.drop a) = true) : stepO src a = some ([], a + spanL not10 (src.data.toList.drop a)) := by
  obtain ⟨m, hm⟩ := com_two hc
  have h47 : classI ((47 : UInt8).toNat : Int) = 4 := by decide +kernel
  rw [step_T ha, hm]
  simp only [stepT]
  rw [if_neg (by omega), if_neg (by omega), if_neg (by omega), if_pos h47, if_pos (by rfl)]
  rfl
theorem step_sign (ha : a < src.size) (hu : src.data.toList[a]? = some u) (h4 : classI (u.toNat : Int) = 4) (hc : isCom (src.data.toList.drop a) = false) : stepO src a = some ([mkTk 3 (src.extract a (a + 1)) 0 (a : Int)], a + 1) := by
  have h5 : byteC src a = 4 := by rw [byteC_at hu, h4]
  rw [step4 h5]
  unfold signR
  rw [pref_slash, tail_list, hc, if_neg (by decide)]
theorem com_here (hu : a < src.size → src[a]? = some u ∧ src.data.toList[a]? = some u) (hv : a + 1 < src.size → src[a + 1]? = some v ∧ src.data.toList[a + 1]? = some v) (ha : a < src.size) : isCom (src.data.toList.drop a) = ((decide ((u.toNat : Int) = 47) && decide (((a + 1 : Nat) : Int) < (src.size : Int))) && decide ((v.toNat : Int) = 47)) := by
  have e1 : ∀ w : UInt8, decide (some w = some (47 : UInt8)) = decide ((w.toNat : Int) = 47) := fun w => by
    by_cases h : w = 47
    · rw [h]
      rfl
    · have h1 : ¬ (w.toNat : Int) = 47 := fun e => h (UInt8.toNat_inj.1 (by show w.toNat = 47; omega))
      rw [decide_eq_false h1, decide_eq_false (fun e => h (Option.some.inj e))]
  unfold isCom
  rw [List.getElem?_drop, List.getElem?_drop, Nat.add_zero, (hu ha).2, e1]
  by_cases h : a + 1 < src.size
  · rw [(hv h).2, e1, decide_eq_true (show (((a + 1 : Nat) : Int) < (src.size : Int)) by omega), Bool.and_true]
  · rw [List.getElem?_eq_none (by rw [← size_data]; omega), decide_eq_false (show ¬ (((a + 1 : Nat) : Int) < (src.size : Int)) by omega)]
    simp
end
theorem span_take_all {p : UInt8 → Bool} : ∀ l : List UInt8, (l.take (spanL p l)).all p = true
  | [] => rfl
  | u :: l => by
    cases h : p u with
    | false => simp [spanL, h]
    | true => simp only [spanL, h, if_true, List.take_succ_cons, List.all_cons, span_take_all l, Bool.and_self]
theorem pDig_is : pDig = isDig := by
  funext u
  unfold pDig isDig digitB
  congr 1
  · exact decide_eq_decide.2 (by omega)
  · exact decide_eq_decide.2 (by omega)
theorem digs_word {src : ByteArray} {a i : Nat} (hsp : spanL pDig (src.data.toList.drop a) = i - a) (h1 : 1 ≤ i - a) : ∃ c r, (src.extract a i).data.toList = c :: r ∧ (c :: r).all isDig = true := by
  have h2 := span_take_all (p := pDig) (src.data.toList.drop a)
  rw [hsp] at h2
  have h3 := cut_list src a i
  cases hl : (src.extract a i).data.toList with
  | nil =>
    rw [h3] at hl
    have h4 := spanL_le pDig (src.data.toList.drop a)
    have := congrArg List.length hl
    rw [List.length_take, List.length_nil] at this
    omega
  | cons c r =>
    rw [← h3, hl, pDig_is] at h2
    exact ⟨c, r, rfl, h2⟩
theorem numO_i64 {s : ByteArray} {v : Int} (h : numO s = some v) : I64 v := by
  unfold numO at h
  split at h
  · split at h
    · injection h with h
      subst h
      constructor <;> omega
    · cases h
  · cases h
theorem refLex_c {B I L w} (H : Hp B I w L) (src : ByteArray) (hS : src.size ≤ 140737488355328) : Calls Tryd.prog 35 #[.string src] w (Rt fun r w' => ∃ I' v, Le I I' ∧ Hp B I' w' L ∧ r = .tuple #[v, .int .i64 (lexE src).2.1, .int .i64 (lexE src).2.2] ∧ RepS encTk I' 4 (lexE src).1 v) := by
  refine calls_st (n := 138) Tryd.func35 rfl rfl rfl ?_
  intro G bF cs hb hfn hR hP
  simp only [ini]
  refine st_seq ?_
  refine st_region ?_
  refine sr_op rfl rfl (ow_assign (v := .slice none 0 0) rfl ?_)
  refine sr_op rfl rfl (ow_assign (v := .int .i64 0) rfl ?_)
  refine sr_op rfl rfl (ow_assign (v := .int .i64 0) rfl ?_)
  refine sr_nil ?_
  refine st_seq ?_
  refine st_seq ?_
  refine st_region ?_
  refine sr_op rfl rfl (ow_move (v := .string src) rfl ?_)
  refine sr_op rfl rfl (ow_lenT un9 rfl rfl ?_)
  refine sr_op rfl rfl (ow_gtr rfl rfl ?_)
  refine sr_nil ?_
  refine st_cond (decide (65536 < (src.size : Int))) rfl (fun hc1 => ?_) (fun hc1 => ?_)
  · have hbig := of_decide_eq_true hc1
    refine st_seq ?_
    refine st_region ?_
    refine sr_op rfl rfl (ow_assign (v := .slice none 0 0) rfl ?_)
    refine sr_op rfl rfl (ow_assign (v := .int .i64 0) rfl ?_)
    refine sr_op rfl rfl (ow_assign (v := .int .i64 2) rfl ?_)
    refine sr_nil ?_
    refine st_ret hb (hR _ _ (.tuple #[.slice none 0 0, .int .i64 0, .int .i64 2]) (res_run (vs := [.slice none 0 0, .int .i64 0, .int .i64 2]) Tryd.results35 ⟨_, _, rfl, rfl, ⟨_, _, rfl, rfl, ⟨_, _, rfl, rfl, rfl⟩⟩⟩) ?_)
    exact ⟨_, rfl, I, _, Le.refl _, H, by rw [lexE, if_pos hbig], by rw [lexE, if_pos hbig]; exact RepS.nil _ _ _⟩
  · have hsz := of_decide_eq_false hc1
    refine st_skip ?_
    refine st_seq ?_
    refine st_region ?_
    refine sr_op rfl rfl (ow_buildSlice H (e := 64) (ps := []) rfl [] (fun _ => by kernel_rfl) (fun g2 _ H => ?_))
    refine sr_op rfl rfl (ow_assign (v := .slice (some ⟨g2, 0, none⟩) 0 0) rfl ?_)
    refine sr_nil ?_
    refine st_seq ?_
    refine st_region ?_
    refine sr_op rfl rfl (ow_assign (v := .int .i64 0) rfl ?_)
    refine sr_nil ?_
    refine st_seq ?_
    refine st_block ?_
    refine st_loop ?_
    refine st_live [0, 2, 3, 4, 5, 6] ?_
    refine st_ind (fun d_ m_ w_ => ∃ (a : Nat) (toks : List Tk) (J3 : Im) (Aa_ : Option Addr) (na_ ca_ : Nat) (cs_ : List Value) (r_ : Sl), d_ = src.size - a ∧ m_ = (0, .string src) :: (2, .slice none 0 0) :: (3, .int .i64 0) :: (4, .int .i64 0) :: (5, .slice Aa_ na_ ca_) :: (6, .int .i64 (a : Int)) :: r_ ∧ Hp B J3 w_ ((rowL (.slice Aa_ na_ ca_) cs_ 64 ++ L)) ∧ Le I J3 ∧ Acc J3 4 (.slice Aa_ na_ ca_) cs_ ((toks).map encTk) ∧ a ≤ src.size ∧ toks.length ≤ a ∧ lexFrom src 0 [] = lexFrom src a toks) _ ⟨0, [], I, (some ⟨g2, 0, none⟩), 0, 0, [], _, rfl, rfl, H, Le.refl _, empty_acc _ g2, Nat.zero_le _, Nat.le_refl _, rfl⟩ ?_
    rintro _ _ _ ⟨a, toks, J3, Aa_, na_, ca_, cs_, r4, rfl, rfl, H, hJ3, ha_, haS, hT, hfr⟩ ih5
    obtain ⟨u, hu⟩ := byte_of src a
    obtain ⟨v2, hv2⟩ := byte_of src (a + 1)
    refine st_seq ?_
    refine st_seq ?_
    refine st_region ?_
    refine sr_op rfl rfl (ow_move (v := .int .i64 (a : Int)) rfl ?_)
    refine sr_op rfl rfl (ow_move (v := .string src) rfl ?_)
    refine sr_op rfl rfl (ow_lenT un9 rfl rfl ?_)
    refine sr_op rfl rfl (ow_lss rfl rfl ?_)
    refine sr_nil ?_
    refine st_cond (decide ((a : Int) < (src.size : Int))) rfl (fun hc6 => ?_) (fun hc6 => ?_)
    · have hlt : a < src.size := by have := of_decide_eq_true hc6; omega
      refine st_skip ?_
      refine st_block ?_
      refine st_seq ?_
      refine st_region ?_
      refine sr_op rfl rfl (ow_move (v := .int .i64 (a : Int)) rfl ?_)
      refine sr_op rfl rfl (ow_assign (v := .int .i64 (a : Int)) rfl ?_)
      refine sr_nil ?_
      refine st_seq ?_
      refine st_seq ?_
      refine st_region ?_
      refine sr_op rfl rfl (ow_move (v := .string src) rfl ?_)
      refine sr_op rfl rfl (ow_move (v := .int .i64 (a : Int)) rfl ?_)
      refine sr_op rfl rfl (ow_indexT un9 rfl rfl (by omega) (u := u) (hu hlt).1 ?_)
      refine sr_op rfl rfl (ow_call en44 rfl (Space_c H (u.toNat : Int)) ?_)
      rintro _ _ ⟨rfl, H⟩
      refine sr_nil ?_
      refine st_cond (spaceB (u.toNat : Int)) rfl (fun hc7 => ?_) (fun hc7 => ?_)
      · have hk1 : classI (u.toNat : Int) = 1 := by
          have h_ := hc7
          rw [space_class] at h_
          exact of_decide_eq_true h_
        refine st_seq ?_
        refine st_region ?_
        refine sr_op rfl rfl (ow_move (v := .int .i64 (a : Int)) rfl ?_)
        refine sr_op rfl rfl (ow_add (r := ((a + 1 : Nat) : Int)) rfl rfl (inc_i64 (by omega)) ?_)
        refine sr_op rfl rfl (ow_assign (v := .int .i64 ((a + 1 : Nat) : Int)) rfl ?_)
        refine sr_nil ?_
        refine st_exit rfl ?_
        exact st_inLoop (st_live [0, 2, 3, 4, 5, 6] (ih5 _ _ _ (by omega) ⟨a + 1, toks, J3, _, _, _, _, _, rfl, rfl, H, (hJ3), ha_, by omega, by omega, hfr.trans (lex_space (by rw [byteC_at (hu hlt).2, hk1]) _)⟩))
      · have hn1 : ¬ classI (u.toNat : Int) = 1 := by
          have h_ := hc7
          rw [space_class] at h_
          exact of_decide_eq_false h_
        refine st_skip ?_
        refine st_seq ?_
        refine st_seq ?_
        refine st_region ?_
        refine sr_op rfl rfl (ow_move (v := .string src) rfl ?_)
        refine sr_op rfl rfl (ow_move (v := .int .i64 (a : Int)) rfl ?_)
        refine sr_op rfl rfl (ow_indexT un9 rfl rfl (by omega) (u := u) (hu hlt).1 ?_)
        refine sr_op rfl rfl (ow_eql rfl rfl ?_)
        refine sr_op rfl rfl (ow_move (v := .bool (decide ((u.toNat : Int) = 47))) rfl ?_)
        refine sr_cut 6 (fun m_ w_ => ∃ (r_ : Sl) (v_ : Bool), m_ = (35, .bool v_) :: (0, .string src) :: (2, .slice none 0 0) :: (3, .int .i64 0) :: (4, .int .i64 0) :: (5, .slice Aa_ na_ ca_) :: (6, .int .i64 (a : Int)) :: (7, .int .i64 (a : Int)) :: r_ ∧ Hp B J3 w_ ((rowL (.slice Aa_ na_ ca_) cs_ 64 ++ L)) ∧ v_ = ((decide ((u.toNat : Int) = 47)) && (decide (((a + 1 : Nat) : Int) < (src.size : Int))))) (fun again => ?_) ?_
        · rcases hg : decide ((u.toNat : Int) = 47) with _ | _
          · refine sr_pass rfl (j := 4) (d := 29) rfl rfl rfl (u := false) (v := true) rfl rfl ?_
            refine sr_pass rfl (j := 4) (d := 29) rfl rfl rfl (u := false) (v := true) rfl rfl ?_
            refine sr_pass rfl (j := 4) (d := 29) rfl rfl rfl (u := false) (v := true) rfl rfl ?_
            refine sr_pass rfl (j := 4) (d := 29) rfl rfl rfl (u := false) (v := true) rfl rfl ?_
            refine sr_pass rfl (j := 4) (d := 29) rfl rfl rfl (u := false) (v := true) rfl rfl ?_
            refine sr_op rfl rfl (ow_pick (v := .bool false) rfl rfl ?_)
            exact sr_live [35, 0, 2, 3, 4, 5, 6, 7] (again _ _ ⟨_, _, rfl, H, by rw [hg] <;> rfl⟩)
          · refine sr_want rfl (j := 4) (d := 29) rfl rfl rfl (v := true) rfl rfl (ow_move (v := .int .i64 (a : Int)) rfl ?_)
            refine sr_want rfl (j := 4) (d := 29) rfl rfl rfl (v := true) rfl rfl (ow_add (r := ((a + 1 : Nat) : Int)) rfl rfl (inc_i64 (by omega)) ?_)
            refine sr_want rfl (j := 4) (d := 29) rfl rfl rfl (v := true) rfl rfl (ow_move (v := .string src) rfl ?_)
            refine sr_want rfl (j := 4) (d := 29) rfl rfl rfl (v := true) rfl rfl (ow_lenT un9 rfl rfl ?_)
            refine sr_want rfl (j := 4) (d := 29) rfl rfl rfl (v := true) rfl rfl (ow_lss rfl rfl ?_)
            refine sr_op rfl rfl (ow_pick (v := .bool (decide (((a + 1 : Nat) : Int) < (src.size : Int)))) rfl rfl ?_)
            exact sr_live [35, 0, 2, 3, 4, 5, 6, 7] (again _ _ ⟨_, _, rfl, H, by rw [hg] <;> rfl⟩)
        rintro _ _ ⟨r, _, rfl, H, rfl⟩
        refine sr_op rfl rfl (ow_move (v := .bool ((decide ((u.toNat : Int) = 47)) && (decide (((a + 1 : Nat) : Int) < (src.size : Int))))) rfl ?_)
        refine sr_cut 6 (fun m_ w_ => ∃ (r_ : Sl) (v_ : Bool), m_ = (42, .bool v_) :: (0, .string src) :: (2, .slice none 0 0) :: (3, .int .i64 0) :: (4, .int .i64 0) :: (5, .slice Aa_ na_ ca_) :: (6, .int .i64 (a : Int)) :: (7, .int .i64 (a : Int)) :: r_ ∧ Hp B J3 w_ ((rowL (.slice Aa_ na_ ca_) cs_ 64 ++ L)) ∧ v_ = (((decide ((u.toNat : Int) = 47)) && (decide (((a + 1 : Nat) : Int) < (src.size : Int)))) && (decide ((v2.toNat : Int) = 47)))) (fun again => ?_) ?_
        · rcases hg : (decide ((u.toNat : Int) = 47)) && (decide (((a + 1 : Nat) : Int) < (src.size : Int))) with _ | _
          · refine sr_pass rfl (j := 11) (d := 36) rfl rfl rfl (u := false) (v := true) rfl rfl ?_
            refine sr_pass rfl (j := 11) (d := 36) rfl rfl rfl (u := false) (v := true) rfl rfl ?_
            refine sr_pass rfl (j := 11) (d := 36) rfl rfl rfl (u := false) (v := true) rfl rfl ?_
            refine sr_pass rfl (j := 11) (d := 36) rfl rfl rfl (u := false) (v := true) rfl rfl ?_
            refine sr_pass rfl (j := 11) (d := 36) rfl rfl rfl (u := false) (v := true) rfl rfl ?_
            refine sr_op rfl rfl (ow_pick (v := .bool false) rfl rfl ?_)
            exact sr_live [42, 0, 2, 3, 4, 5, 6, 7] (again _ _ ⟨_, _, rfl, H, by rw [hg] <;> rfl⟩)
          · refine sr_want rfl (j := 11) (d := 36) rfl rfl rfl (v := true) rfl rfl (ow_move (v := .string src) rfl ?_)
            refine sr_want rfl (j := 11) (d := 36) rfl rfl rfl (v := true) rfl rfl (ow_move (v := .int .i64 (a : Int)) rfl ?_)
            refine sr_want rfl (j := 11) (d := 36) rfl rfl rfl (v := true) rfl rfl (ow_add (r := ((a + 1 : Nat) : Int)) rfl rfl (inc_i64 (by omega)) ?_)
            refine sr_want rfl (j := 11) (d := 36) rfl rfl rfl (v := true) rfl rfl (ow_indexT un9 rfl rfl (by omega) (u := v2) (hv2 (by first | omega | (simp at hg; omega))).1 ?_)
            refine sr_want rfl (j := 11) (d := 36) rfl rfl rfl (v := true) rfl rfl (ow_eql rfl rfl ?_)
            refine sr_op rfl rfl (ow_pick (v := .bool (decide ((v2.toNat : Int) = 47))) rfl rfl ?_)
            exact sr_live [42, 0, 2, 3, 4, 5, 6, 7] (again _ _ ⟨_, _, rfl, H, by rw [hg] <;> rfl⟩)
        rintro _ _ ⟨r, _, rfl, H, rfl⟩
        refine sr_nil ?_
        refine st_cond (((decide ((u.toNat : Int) = 47)) && (decide (((a + 1 : Nat) : Int) < (src.size : Int)))) && (decide ((v2.toNat : Int) = 47))) rfl (fun hc8 => ?_) (fun hc8 => ?_)
        · have hcm : isCom (src.data.toList.drop a) = true := by rw [com_here hu hv2 hlt]; exact hc8
          refine st_seq ?_
          refine st_block ?_
          refine st_loop ?_
          refine st_live [0, 2, 3, 4, 5, 6, 7] ?_
          refine st_ind (fun d_ m_ w_ => ∃ (i : Nat) (r_ : Sl), d_ = src.size - i ∧ m_ = (0, .string src) :: (2, .slice none 0 0) :: (3, .int .i64 0) :: (4, .int .i64 0) :: (5, .slice Aa_ na_ ca_) :: (6, .int .i64 (i : Int)) :: (7, .int .i64 (a : Int)) :: r_ ∧ Hp B J3 w_ ((rowL (.slice Aa_ na_ ca_) cs_ 64 ++ L)) ∧ a ≤ i ∧ i ≤ src.size ∧ spanL pNot (src.data.toList.drop a) = (i - a) + spanL pNot (src.data.toList.drop i)) _ ⟨a, _, rfl, rfl, H, Nat.le_refl _, haS, by simp⟩ ?_
          rintro _ _ _ ⟨i, r10, rfl, rfl, H, hai, hi, hsp⟩ ih11
          obtain ⟨u3, hu3⟩ := byte_of src i
          refine st_seq ?_
          refine st_seq ?_
          refine st_region ?_
          refine sr_op rfl rfl (ow_move (v := .int .i64 (i : Int)) rfl ?_)
          refine sr_op rfl rfl (ow_move (v := .string src) rfl ?_)
          refine sr_op rfl rfl (ow_lenT un9 rfl rfl ?_)
          refine sr_op rfl rfl (ow_lss rfl rfl ?_)
          refine sr_op rfl rfl (ow_move (v := .bool (decide ((i : Int) < (src.size : Int)))) rfl ?_)
          refine sr_cut 5 (fun m_ w_ => ∃ (r_ : Sl) (v_ : Bool), m_ = (52, .bool v_) :: (0, .string src) :: (2, .slice none 0 0) :: (3, .int .i64 0) :: (4, .int .i64 0) :: (5, .slice Aa_ na_ ca_) :: (6, .int .i64 (i : Int)) :: (7, .int .i64 (a : Int)) :: r_ ∧ Hp B J3 w_ ((rowL (.slice Aa_ na_ ca_) cs_ 64 ++ L)) ∧ v_ = ((decide ((i : Int) < (src.size : Int))) && (!decide ((u3.toNat : Int) = 10)))) (fun again => ?_) ?_
          · rcases hg : decide ((i : Int) < (src.size : Int)) with _ | _
            · refine sr_pass rfl (j := 4) (d := 47) rfl rfl rfl (u := false) (v := true) rfl rfl ?_
              refine sr_pass rfl (j := 4) (d := 47) rfl rfl rfl (u := false) (v := true) rfl rfl ?_
              refine sr_pass rfl (j := 4) (d := 47) rfl rfl rfl (u := false) (v := true) rfl rfl ?_
              refine sr_pass rfl (j := 4) (d := 47) rfl rfl rfl (u := false) (v := true) rfl rfl ?_
              refine sr_op rfl rfl (ow_pick (v := .bool false) rfl rfl ?_)
              exact sr_live [52, 0, 2, 3, 4, 5, 6, 7] (again _ _ ⟨_, _, rfl, H, by rw [hg] <;> rfl⟩)
            · refine sr_want rfl (j := 4) (d := 47) rfl rfl rfl (v := true) rfl rfl (ow_move (v := .string src) rfl ?_)
              refine sr_want rfl (j := 4) (d := 47) rfl rfl rfl (v := true) rfl rfl (ow_move (v := .int .i64 (i : Int)) rfl ?_)
              refine sr_want rfl (j := 4) (d := 47) rfl rfl rfl (v := true) rfl rfl (ow_indexT un9 rfl rfl (by omega) (u := u3) (hu3 (by first | omega | (simp at hg; omega))).1 ?_)
              refine sr_want rfl (j := 4) (d := 47) rfl rfl rfl (v := true) rfl rfl (ow_neq rfl rfl ?_)
              refine sr_op rfl rfl (ow_pick (v := .bool (!decide ((u3.toNat : Int) = 10))) rfl rfl ?_)
              exact sr_live [52, 0, 2, 3, 4, 5, 6, 7] (again _ _ ⟨_, _, rfl, H, by rw [hg] <;> rfl⟩)
          rintro _ _ ⟨r, _, rfl, H, rfl⟩
          refine sr_nil ?_
          refine st_cond ((decide ((i : Int) < (src.size : Int))) && (!decide ((u3.toNat : Int) = 10))) rfl (fun hc12 => ?_) (fun hc12 => ?_)
          · have hst := spanP_step (p := pNot) hc12 hu3
            refine st_skip ?_
            refine st_block ?_
            refine st_region ?_
            refine sr_op rfl rfl (ow_move (v := .int .i64 (i : Int)) rfl ?_)
            refine sr_op rfl rfl (ow_add (r := ((i + 1 : Nat) : Int)) rfl rfl (inc_i64 (by omega)) ?_)
            refine sr_op rfl rfl (ow_assign (v := .int .i64 ((i + 1 : Nat) : Int)) rfl ?_)
            refine sr_nil ?_
            refine st_inBlock ?_
            exact st_inLoop (st_live [0, 2, 3, 4, 5, 6, 7] (ih11 _ _ _ (by omega) ⟨i + 1, _, rfl, rfl, H, by omega, by omega, by rw [hsp, hst.2]; omega⟩))
          · have hend := spanP_end (p := pNot) hc12 hu3
            have hs : stepO src a = some ([], i) := by rw [step_com hlt (hu hlt).2 hcm, ← pNot_eq, hsp, hend, show a + (i - a + 0) = i by omega]
            refine st_exit rfl ?_
            refine st_exit rfl ?_
            exact st_inLoop (st_live [0, 2, 3, 4, 5, 6] (ih5 _ _ _ (by have h_ := step_prog hlt hs; (try simp only at h_); omega) ⟨i, toks ++ [], J3, _, _, _, _, _, rfl, rfl, H, (hJ3), by simpa using ha_, (step_prog hlt hs).2.1, by
                have h1_ := step_prog hlt hs
                rw [List.length_append]
                have h2_ := h1_.1
                have h3_ := h1_.2.2
                try simp only at h2_
                try simp only at h3_
                try simp only
                omega, hfr.trans (lex_step hlt hs)⟩))
        · have hcm : isCom (src.data.toList.drop a) = false := by rw [com_here hu hv2 hlt]; exact hc8
          refine st_skip ?_
          refine st_seq ?_
          refine st_seq ?_
          refine st_region ?_
          refine sr_op rfl rfl (ow_move (v := .string src) rfl ?_)
          refine sr_op rfl rfl (ow_move (v := .int .i64 (a : Int)) rfl ?_)
          refine sr_op rfl rfl (ow_indexT un9 rfl rfl (by omega) (u := u) (hu hlt).1 ?_)
          refine sr_op rfl rfl (ow_call en79 rfl (Letter_c H (u.toNat : Int)) ?_)
          rintro _ _ ⟨rfl, H⟩
          refine sr_nil ?_
          refine st_cond (letterB (u.toNat : Int)) rfl (fun hc13 => ?_) (fun hc13 => ?_)
          · have hk2 : classI (u.toNat : Int) = 2 := by
              have h_ := hc13
              rw [letter_cls] at h_
              exact of_decide_eq_true h_
            have hbc : byteC src a = 2 := by rw [byteC_at (hu hlt).2, hk2]
            refine st_seq ?_
            refine st_block ?_
            refine st_loop ?_
            refine st_live [0, 2, 3, 4, 5, 6, 7] ?_
            refine st_ind (fun d_ m_ w_ => ∃ (i : Nat) (r_ : Sl), d_ = src.size - i ∧ m_ = (0, .string src) :: (2, .slice none 0 0) :: (3, .int .i64 0) :: (4, .int .i64 0) :: (5, .slice Aa_ na_ ca_) :: (6, .int .i64 (i : Int)) :: (7, .int .i64 (a : Int)) :: r_ ∧ Hp B J3 w_ ((rowL (.slice Aa_ na_ ca_) cs_ 64 ++ L)) ∧ a ≤ i ∧ i ≤ src.size ∧ spanL pPart (src.data.toList.drop a) = (i - a) + spanL pPart (src.data.toList.drop i)) _ ⟨a, _, rfl, rfl, H, Nat.le_refl _, haS, by simp⟩ ?_
            rintro _ _ _ ⟨i, r15, rfl, rfl, H, hai, hi, hsp⟩ ih16
            obtain ⟨u3, hu3⟩ := byte_of src i
            refine st_seq ?_
            refine st_seq ?_
            refine st_region ?_
            refine sr_op rfl rfl (ow_move (v := .int .i64 (i : Int)) rfl ?_)
            refine sr_op rfl rfl (ow_move (v := .string src) rfl ?_)
            refine sr_op rfl rfl (ow_lenT un9 rfl rfl ?_)
            refine sr_op rfl rfl (ow_lss rfl rfl ?_)
            refine sr_op rfl rfl (ow_move (v := .bool (decide ((i : Int) < (src.size : Int)))) rfl ?_)
            refine sr_cut 5 (fun m_ w_ => ∃ (r_ : Sl) (v_ : Bool), m_ = (68, .bool v_) :: (0, .string src) :: (2, .slice none 0 0) :: (3, .int .i64 0) :: (4, .int .i64 0) :: (5, .slice Aa_ na_ ca_) :: (6, .int .i64 (i : Int)) :: (7, .int .i64 (a : Int)) :: r_ ∧ Hp B J3 w_ ((rowL (.slice Aa_ na_ ca_) cs_ 64 ++ L)) ∧ v_ = ((decide ((i : Int) < (src.size : Int))) && (partB (u3.toNat : Int)))) (fun again => ?_) ?_
            · rcases hg : decide ((i : Int) < (src.size : Int)) with _ | _
              · refine sr_pass rfl (j := 4) (d := 63) rfl rfl rfl (u := false) (v := true) rfl rfl ?_
                refine sr_pass rfl (j := 4) (d := 63) rfl rfl rfl (u := false) (v := true) rfl rfl ?_
                refine sr_pass rfl (j := 4) (d := 63) rfl rfl rfl (u := false) (v := true) rfl rfl ?_
                refine sr_pass rfl (j := 4) (d := 63) rfl rfl rfl (u := false) (v := true) rfl rfl ?_
                refine sr_op rfl rfl (ow_pick (v := .bool false) rfl rfl ?_)
                exact sr_live [68, 0, 2, 3, 4, 5, 6, 7] (again _ _ ⟨_, _, rfl, H, by rw [hg] <;> rfl⟩)
              · refine sr_want rfl (j := 4) (d := 63) rfl rfl rfl (v := true) rfl rfl (ow_move (v := .string src) rfl ?_)
                refine sr_want rfl (j := 4) (d := 63) rfl rfl rfl (v := true) rfl rfl (ow_move (v := .int .i64 (i : Int)) rfl ?_)
                refine sr_want rfl (j := 4) (d := 63) rfl rfl rfl (v := true) rfl rfl (ow_indexT un9 rfl rfl (by omega) (u := u3) (hu3 (by first | omega | (simp at hg; omega))).1 ?_)
                refine sr_want rfl (j := 4) (d := 63) rfl rfl rfl (v := true) rfl rfl (ow_call en80 rfl (part_c H (u3.toNat : Int)) ?_)
                rintro _ _ ⟨rfl, H⟩
                refine sr_op rfl rfl (ow_pick (v := .bool (partB (u3.toNat : Int))) rfl rfl ?_)
                exact sr_live [68, 0, 2, 3, 4, 5, 6, 7] (again _ _ ⟨_, _, rfl, H, by rw [hg] <;> rfl⟩)
            rintro _ _ ⟨r, _, rfl, H, rfl⟩
            refine sr_nil ?_
            refine st_cond ((decide ((i : Int) < (src.size : Int))) && (partB (u3.toNat : Int))) rfl (fun hc17 => ?_) (fun hc17 => ?_)
            · have hst := spanP_step (p := pPart) hc17 hu3
              refine st_skip ?_
              refine st_block ?_
              refine st_region ?_
              refine sr_op rfl rfl (ow_move (v := .int .i64 (i : Int)) rfl ?_)
              refine sr_op rfl rfl (ow_add (r := ((i + 1 : Nat) : Int)) rfl rfl (inc_i64 (by omega)) ?_)
              refine sr_op rfl rfl (ow_assign (v := .int .i64 ((i + 1 : Nat) : Int)) rfl ?_)
              refine sr_nil ?_
              refine st_inBlock ?_
              exact st_inLoop (st_live [0, 2, 3, 4, 5, 6, 7] (ih16 _ _ _ (by omega) ⟨i + 1, _, rfl, rfl, H, by omega, by omega, by rw [hsp, hst.2]; omega⟩))
            · have hend := spanP_end (p := pPart) hc17 hu3
              have hsn : spanS src a [2, 3, 5] = i - a := by
                unfold spanS restL
                rw [← pPart_eq, hsp, hend]
                omega
              have hwd : src.extract a i = wordS src a [2, 3, 5] := by
                unfold wordS
                rw [hsn, show a + (i - a) = i by omega]
              have hlen : 1 ≤ i - a := by
                rw [← hsn]
                exact span_pos (hu hlt).2 (by rw [hk2]; rfl)
              refine st_exit rfl ?_
              refine st_seq ?_
              refine st_seq ?_
              refine st_region ?_
              refine sr_op rfl rfl (ow_move (v := .string src) rfl ?_)
              refine sr_op rfl rfl (ow_move (v := .int .i64 (a : Int)) rfl ?_)
              refine sr_op rfl rfl (ow_move (v := .int .i64 (i : Int)) rfl ?_)
              refine sr_op rfl rfl (ow_cutT (a := a) (c := i) un9 rfl (.inr ⟨_, rfl⟩) (.inr ⟨_, rfl⟩) (by omega) (by first | omega | (simp at hg; omega)) ?_)
              refine sr_op rfl rfl (ow_call en43 rfl (refName_c H (src.extract a i) (s63_ext hS)) ?_)
              rintro _ _ ⟨rfl, H⟩
              refine sr_op rfl rfl (ow_not rfl ?_)
              refine sr_nil ?_
              refine st_cond (!(nameB (src.extract a i))) rfl (fun hc18 => ?_) (fun hc18 => ?_)
              · have hnm := bnt hc18
                have hbad : stepO src a = none := by rw [step2 hbc, ← hwd, if_neg (by rw [hnm]; decide)]
                refine st_seq ?_
                refine st_region ?_
                refine sr_op rfl rfl (ow_move (v := .int .i64 (a : Int)) rfl ?_)
                refine sr_op rfl rfl (ow_assign (v := .slice none 0 0) rfl ?_)
                refine sr_op rfl rfl (ow_assign (v := .int .i64 (a : Int)) rfl ?_)
                refine sr_op rfl rfl (ow_assign (v := .int .i64 30) rfl ?_)
                refine sr_nil ?_
                refine st_ret hb (hR _ _ (.tuple #[.slice none 0 0, .int .i64 (a : Int), .int .i64 30]) (res_run (vs := [.slice none 0 0, .int .i64 (a : Int), .int .i64 30]) Tryd.results35 ⟨_, _, rfl, rfl, ⟨_, _, rfl, rfl, ⟨_, _, rfl, rfl, rfl⟩⟩⟩) ?_)
                exact ⟨_, rfl, J3, _, hJ3, (H.sub (List.sublist_append_right _ _)), by rw [lexE, if_neg hsz, hfr, lex_bad hlt hbad], by rw [lexE, if_neg hsz, hfr, lex_bad hlt hbad]; exact RepS.nil _ _ _⟩
              · have hnm := bnf hc18
                have hs : stepO src a = some ([mkTk 1 (src.extract a i) 0 (a : Int)], i) := by rw [step2 hbc, ← hwd, if_pos hnm, hsn, show a + (i - a) = i by omega]
                refine st_skip ?_
                refine st_seq ?_
                refine st_region ?_
                refine sr_op rfl rfl (ow_move (v := .slice Aa_ na_ ca_) rfl ?_)
                refine sr_op rfl rfl (ow_move (v := .string src) rfl ?_)
                refine sr_op rfl rfl (ow_move (v := .int .i64 (a : Int)) rfl ?_)
                refine sr_op rfl rfl (ow_move (v := .int .i64 (i : Int)) rfl ?_)
                refine sr_op rfl rfl (ow_cutT (a := a) (c := i) un9 rfl (.inr ⟨_, rfl⟩) (.inr ⟨_, rfl⟩) (by omega) (by first | omega | (simp at hg; omega)) ?_)
                refine sr_op rfl rfl (ow_move (v := .int .i64 (a : Int)) rfl ?_)
                refine sr_op rfl rfl (ow_build (ps := [(0, .int .i64 1), (1, .string (src.extract a i)), (3, .int .i64 (a : Int))]) (v := .agg #[.int .i64 1, .string (src.extract a i), .int .i64 0, .int .i64 (a : Int)]) rfl (fun _ => by kernel_rfl) ?_)
                refine sr_op rfl rfl (ow_buildSlice H (e := 64) (ps := [(0, .agg #[.int .i64 1, .string (src.extract a i), .int .i64 0, .int .i64 (a : Int)])]) rfl [.int .i64 1, .string (src.extract a i), .int .i64 0, .int .i64 (a : Int)] (fun _ => by kernel_rfl) (fun g19 _ H => ?_))
                refine sr_op rfl rfl (ow_append1 sl53 ty64 rfl rfl [] (v := .slice Aa_ na_ ca_) (cs := cs_) (L := L) H ha_ rfl rfl (((tk_iff (t := mkTk 1 (src.extract a i) 0 (a : Int))).2 ⟨rfl, i64_1, (s63_ext hS), i64_0, (I64_nat (by omega))⟩)) (rfl) (rfl) (by simp only [List.length_map]; omega) (by simp only [List.length_map]; omega) (fun va20 cs21 _ H ha_ => ?_))
                obtain ⟨Aa22, na22, ca22, rfl⟩ := Acc.form ha_
                refine sr_op rfl rfl (ow_assign (v := .slice Aa22 na22 ca22) rfl ?_)
                refine sr_nil ?_
                refine st_exit rfl ?_
                exact st_inLoop (st_live [0, 2, 3, 4, 5, 6] (ih5 _ _ _ (by have h_ := step_prog hlt hs; (try simp only at h_); omega) ⟨i, toks ++ [mkTk 1 (src.extract a i) 0 (a : Int)], J3, _, _, _, _, _, rfl, rfl, H, (hJ3), by rw [List.map_append]; exact ha_, (step_prog hlt hs).2.1, by
                    have h1_ := step_prog hlt hs
                    rw [List.length_append]
                    have h2_ := h1_.1
                    have h3_ := h1_.2.2
                    try simp only at h2_
                    try simp only at h3_
                    try simp only
                    omega, hfr.trans (lex_step hlt hs)⟩))
          · have hn2 : ¬ classI (u.toNat : Int) = 2 := by
              have h_ := hc13
              rw [letter_cls] at h_
              exact of_decide_eq_false h_
            refine st_skip ?_
            refine st_seq ?_
            refine st_seq ?_
            refine st_region ?_
            refine sr_op rfl rfl (ow_move (v := .string src) rfl ?_)
            refine sr_op rfl rfl (ow_move (v := .int .i64 (a : Int)) rfl ?_)
            refine sr_op rfl rfl (ow_indexT un9 rfl rfl (by omega) (u := u) (hu hlt).1 ?_)
            refine sr_op rfl rfl (ow_call en81 rfl (Figure_c H (u.toNat : Int)) ?_)
            rintro _ _ ⟨rfl, H⟩
            refine sr_nil ?_
            refine st_cond (digitB (u.toNat : Int)) rfl (fun hc23 => ?_) (fun hc23 => ?_)
            · have hk3 : classI (u.toNat : Int) = 3 := by
                have h_ := hc23
                rw [figure_cls] at h_
                exact of_decide_eq_true h_
              have hbc : byteC src a = 3 := by rw [byteC_at (hu hlt).2, hk3]
              refine st_seq ?_
              refine st_block ?_
              refine st_loop ?_
              refine st_live [0, 2, 3, 4, 5, 6, 7] ?_
              refine st_ind (fun d_ m_ w_ => ∃ (i : Nat) (r_ : Sl), d_ = src.size - i ∧ m_ = (0, .string src) :: (2, .slice none 0 0) :: (3, .int .i64 0) :: (4, .int .i64 0) :: (5, .slice Aa_ na_ ca_) :: (6, .int .i64 (i : Int)) :: (7, .int .i64 (a : Int)) :: r_ ∧ Hp B J3 w_ ((rowL (.slice Aa_ na_ ca_) cs_ 64 ++ L)) ∧ a ≤ i ∧ i ≤ src.size ∧ spanL pDig (src.data.toList.drop a) = (i - a) + spanL pDig (src.data.toList.drop i)) _ ⟨a, _, rfl, rfl, H, Nat.le_refl _, haS, by simp⟩ ?_
              rintro _ _ _ ⟨i, r25, rfl, rfl, H, hai, hi, hsp⟩ ih26
              obtain ⟨u3, hu3⟩ := byte_of src i
              refine st_seq ?_
              refine st_seq ?_
              refine st_region ?_
              refine sr_op rfl rfl (ow_move (v := .int .i64 (i : Int)) rfl ?_)
              refine sr_op rfl rfl (ow_move (v := .string src) rfl ?_)
              refine sr_op rfl rfl (ow_lenT un9 rfl rfl ?_)
              refine sr_op rfl rfl (ow_lss rfl rfl ?_)
              refine sr_op rfl rfl (ow_move (v := .bool (decide ((i : Int) < (src.size : Int)))) rfl ?_)
              refine sr_cut 5 (fun m_ w_ => ∃ (r_ : Sl) (v_ : Bool), m_ = (100, .bool v_) :: (0, .string src) :: (2, .slice none 0 0) :: (3, .int .i64 0) :: (4, .int .i64 0) :: (5, .slice Aa_ na_ ca_) :: (6, .int .i64 (i : Int)) :: (7, .int .i64 (a : Int)) :: r_ ∧ Hp B J3 w_ ((rowL (.slice Aa_ na_ ca_) cs_ 64 ++ L)) ∧ v_ = ((decide ((i : Int) < (src.size : Int))) && (digitB (u3.toNat : Int)))) (fun again => ?_) ?_
              · rcases hg : decide ((i : Int) < (src.size : Int)) with _ | _
                · refine sr_pass rfl (j := 4) (d := 95) rfl rfl rfl (u := false) (v := true) rfl rfl ?_
                  refine sr_pass rfl (j := 4) (d := 95) rfl rfl rfl (u := false) (v := true) rfl rfl ?_
                  refine sr_pass rfl (j := 4) (d := 95) rfl rfl rfl (u := false) (v := true) rfl rfl ?_
                  refine sr_pass rfl (j := 4) (d := 95) rfl rfl rfl (u := false) (v := true) rfl rfl ?_
                  refine sr_op rfl rfl (ow_pick (v := .bool false) rfl rfl ?_)
                  exact sr_live [100, 0, 2, 3, 4, 5, 6, 7] (again _ _ ⟨_, _, rfl, H, by rw [hg] <;> rfl⟩)
                · refine sr_want rfl (j := 4) (d := 95) rfl rfl rfl (v := true) rfl rfl (ow_move (v := .string src) rfl ?_)
                  refine sr_want rfl (j := 4) (d := 95) rfl rfl rfl (v := true) rfl rfl (ow_move (v := .int .i64 (i : Int)) rfl ?_)
                  refine sr_want rfl (j := 4) (d := 95) rfl rfl rfl (v := true) rfl rfl (ow_indexT un9 rfl rfl (by omega) (u := u3) (hu3 (by first | omega | (simp at hg; omega))).1 ?_)
                  refine sr_want rfl (j := 4) (d := 95) rfl rfl rfl (v := true) rfl rfl (ow_call en81 rfl (Figure_c H (u3.toNat : Int)) ?_)
                  rintro _ _ ⟨rfl, H⟩
                  refine sr_op rfl rfl (ow_pick (v := .bool (digitB (u3.toNat : Int))) rfl rfl ?_)
                  exact sr_live [100, 0, 2, 3, 4, 5, 6, 7] (again _ _ ⟨_, _, rfl, H, by rw [hg] <;> rfl⟩)
              rintro _ _ ⟨r, _, rfl, H, rfl⟩
              refine sr_nil ?_
              refine st_cond ((decide ((i : Int) < (src.size : Int))) && (digitB (u3.toNat : Int))) rfl (fun hc27 => ?_) (fun hc27 => ?_)
              · have hst := spanP_step (p := pDig) hc27 hu3
                refine st_skip ?_
                refine st_block ?_
                refine st_region ?_
                refine sr_op rfl rfl (ow_move (v := .int .i64 (i : Int)) rfl ?_)
                refine sr_op rfl rfl (ow_add (r := ((i + 1 : Nat) : Int)) rfl rfl (inc_i64 (by omega)) ?_)
                refine sr_op rfl rfl (ow_assign (v := .int .i64 ((i + 1 : Nat) : Int)) rfl ?_)
                refine sr_nil ?_
                refine st_inBlock ?_
                exact st_inLoop (st_live [0, 2, 3, 4, 5, 6, 7] (ih26 _ _ _ (by omega) ⟨i + 1, _, rfl, rfl, H, by omega, by omega, by rw [hsp, hst.2]; omega⟩))
              · have hend := spanP_end (p := pDig) hc27 hu3
                have hsn : spanS src a [3] = i - a := by
                  unfold spanS restL
                  rw [← pDig_eq, hsp, hend]
                  omega
                have hwd : src.extract a i = wordS src a [3] := by
                  unfold wordS
                  rw [hsn, show a + (i - a) = i by omega]
                have hlen : 1 ≤ i - a := by
                  rw [← hsn]
                  exact span_pos (hu hlt).2 (by rw [hk3]; rfl)
                refine st_exit rfl ?_
                refine st_seq ?_
                refine st_region ?_
                refine sr_op rfl rfl (ow_move (v := .string src) rfl ?_)
                refine sr_op rfl rfl (ow_move (v := .int .i64 (a : Int)) rfl ?_)
                refine sr_op rfl rfl (ow_move (v := .int .i64 (i : Int)) rfl ?_)
                refine sr_op rfl rfl (ow_cutT (a := a) (c := i) un9 rfl (.inr ⟨_, rfl⟩) (.inr ⟨_, rfl⟩) (by omega) (by first | omega | (simp at hg; omega)) ?_)
                obtain ⟨c_, r_, hl_, hd_⟩ := digs_word (by rw [hsp, hend]; omega) hlen
                refine sr_op rfl rfl (ow_call en82 rfl (number2_c H hl_ hd_ (by rw [ByteArray.size_extract]; omega)) ?_)
                rintro _ _ ⟨nu, ok, rfl, hnr, H⟩
                refine sr_op rfl rfl (ow_move (v := .tuple #[.int .i64 nu, .bool ok]) rfl ?_)
                refine sr_op rfl rfl (ow_extract (v := .int .i64 nu) rfl rfl ?_)
                refine sr_op rfl rfl (ow_extract (v := .bool ok) rfl rfl ?_)
                refine sr_op rfl rfl (ow_assign (v := .int .i64 nu) rfl ?_)
                refine sr_op rfl rfl (ow_assign (v := .bool ok) rfl ?_)
                refine sr_nil ?_
                refine st_seq ?_
                refine st_seq ?_
                refine st_region ?_
                refine sr_op rfl rfl (ow_move (v := .bool ok) rfl ?_)
                refine sr_op rfl rfl (ow_not rfl ?_)
                refine sr_nil ?_
                refine st_cond (!ok) rfl (fun hc28 => ?_) (fun hc28 => ?_)
                · have hok := bnt hc28
                  have hno : numO (src.extract a i) = none := by
                    rcases hnr with ⟨h_, _⟩ | ⟨_, h_⟩
                    · rw [hok] at h_
                      cases h_
                    · exact h_
                  have hbad : stepO src a = none := by rw [step3 hbc, ← hwd, hno]
                  refine st_seq ?_
                  refine st_region ?_
                  refine sr_op rfl rfl (ow_move (v := .int .i64 (a : Int)) rfl ?_)
                  refine sr_op rfl rfl (ow_assign (v := .slice none 0 0) rfl ?_)
                  refine sr_op rfl rfl (ow_assign (v := .int .i64 (a : Int)) rfl ?_)
                  refine sr_op rfl rfl (ow_assign (v := .int .i64 30) rfl ?_)
                  refine sr_nil ?_
                  refine st_ret hb (hR _ _ (.tuple #[.slice none 0 0, .int .i64 (a : Int), .int .i64 30]) (res_run (vs := [.slice none 0 0, .int .i64 (a : Int), .int .i64 30]) Tryd.results35 ⟨_, _, rfl, rfl, ⟨_, _, rfl, rfl, ⟨_, _, rfl, rfl, rfl⟩⟩⟩) ?_)
                  exact ⟨_, rfl, J3, _, hJ3, (H.sub (List.sublist_append_right _ _)), by rw [lexE, if_neg hsz, hfr, lex_bad hlt hbad], by rw [lexE, if_neg hsz, hfr, lex_bad hlt hbad]; exact RepS.nil _ _ _⟩
                · have hok := bnf hc28
                  have hno : numO (src.extract a i) = some nu := by
                    rcases hnr with ⟨_, h_⟩ | ⟨h_, _⟩
                    · exact h_
                    · rw [hok] at h_
                      cases h_
                  have hs : stepO src a = some ([mkTk 2 ⟨#[]⟩ nu (a : Int)], i) := by rw [step3 hbc, ← hwd, hno, hsn, show a + (i - a) = i by omega]
                  refine st_skip ?_
                  refine st_seq ?_
                  refine st_region ?_
                  refine sr_op rfl rfl (ow_move (v := .slice Aa_ na_ ca_) rfl ?_)
                  refine sr_op rfl rfl (ow_move (v := .int .i64 nu) rfl ?_)
                  refine sr_op rfl rfl (ow_move (v := .int .i64 (a : Int)) rfl ?_)
                  refine sr_op rfl rfl (ow_build (ps := [(0, .int .i64 2), (2, .int .i64 nu), (3, .int .i64 (a : Int))]) (v := .agg #[.int .i64 2, .string ⟨#[]⟩, .int .i64 nu, .int .i64 (a : Int)]) rfl (fun _ => by kernel_rfl) ?_)
                  refine sr_op rfl rfl (ow_buildSlice H (e := 64) (ps := [(0, .agg #[.int .i64 2, .string ⟨#[]⟩, .int .i64 nu, .int .i64 (a : Int)])]) rfl [.int .i64 2, .string ⟨#[]⟩, .int .i64 nu, .int .i64 (a : Int)] (fun _ => by kernel_rfl) (fun g29 _ H => ?_))
                  refine sr_op rfl rfl (ow_append1 sl53 ty64 rfl rfl [] (v := .slice Aa_ na_ ca_) (cs := cs_) (L := L) H ha_ rfl rfl (((tk_iff (t := mkTk 2 ⟨#[]⟩ nu (a : Int))).2 ⟨rfl, i64_2, (show S63 ⟨#[]⟩ by unfold S63; decide), (numO_i64 hno), (I64_nat (by omega))⟩)) (rfl) (rfl) (by simp only [List.length_map]; omega) (by simp only [List.length_map]; omega) (fun va30 cs31 _ H ha_ => ?_))
                  obtain ⟨Aa32, na32, ca32, rfl⟩ := Acc.form ha_
                  refine sr_op rfl rfl (ow_assign (v := .slice Aa32 na32 ca32) rfl ?_)
                  refine sr_nil ?_
                  refine st_exit rfl ?_
                  exact st_inLoop (st_live [0, 2, 3, 4, 5, 6] (ih5 _ _ _ (by have h_ := step_prog hlt hs; (try simp only at h_); omega) ⟨i, toks ++ [mkTk 2 ⟨#[]⟩ nu (a : Int)], J3, _, _, _, _, _, rfl, rfl, H, (hJ3), by rw [List.map_append]; exact ha_, (step_prog hlt hs).2.1, by
                      have h1_ := step_prog hlt hs
                      rw [List.length_append]
                      have h2_ := h1_.1
                      have h3_ := h1_.2.2
                      try simp only at h2_
                      try simp only at h3_
                      try simp only
                      omega, hfr.trans (lex_step hlt hs)⟩))
            · have hn3 : ¬ classI (u.toNat : Int) = 3 := by
                have h_ := hc23
                rw [figure_cls] at h_
                exact of_decide_eq_false h_
              refine st_skip ?_
              refine st_seq ?_
              refine st_seq ?_
              refine st_region ?_
              refine sr_op rfl rfl (ow_move (v := .string src) rfl ?_)
              refine sr_op rfl rfl (ow_move (v := .int .i64 (a : Int)) rfl ?_)
              refine sr_op rfl rfl (ow_indexT un9 rfl rfl (by omega) (u := u) (hu hlt).1 ?_)
              refine sr_op rfl rfl (ow_call en83 rfl (Sign_c H (u.toNat : Int)) ?_)
              rintro _ _ ⟨rfl, H⟩
              refine sr_op rfl rfl (ow_not rfl ?_)
              refine sr_nil ?_
              refine st_cond (!(signL (u.toNat : Int))) rfl (fun hc33 => ?_) (fun hc33 => ?_)
              · have hn4 : ¬ classI (u.toNat : Int) = 4 := by
                  have h_ := bnt hc33
                  rw [sign_class] at h_
                  exact of_decide_eq_false h_
                have hbad : stepO src a = none := step0 (by rw [byteC_at (hu hlt).2]; have := class_range u; omega)
                refine st_seq ?_
                refine st_region ?_
                refine sr_op rfl rfl (ow_move (v := .int .i64 (a : Int)) rfl ?_)
                refine sr_op rfl rfl (ow_assign (v := .slice none 0 0) rfl ?_)
                refine sr_op rfl rfl (ow_assign (v := .int .i64 (a : Int)) rfl ?_)
                refine sr_op rfl rfl (ow_assign (v := .int .i64 30) rfl ?_)
                refine sr_nil ?_
                refine st_ret hb (hR _ _ (.tuple #[.slice none 0 0, .int .i64 (a : Int), .int .i64 30]) (res_run (vs := [.slice none 0 0, .int .i64 (a : Int), .int .i64 30]) Tryd.results35 ⟨_, _, rfl, rfl, ⟨_, _, rfl, rfl, ⟨_, _, rfl, rfl, rfl⟩⟩⟩) ?_)
                exact ⟨_, rfl, J3, _, hJ3, (H.sub (List.sublist_append_right _ _)), by rw [lexE, if_neg hsz, hfr, lex_bad hlt hbad], by rw [lexE, if_neg hsz, hfr, lex_bad hlt hbad]; exact RepS.nil _ _ _⟩
              · have h4 : classI (u.toNat : Int) = 4 := by
                  have h_ := bnf hc33
                  rw [sign_class] at h_
                  exact of_decide_eq_true h_
                have hs := step_sign hlt (hu hlt).2 h4 hcm
                refine st_skip ?_
                refine st_seq ?_
                refine st_region ?_
                refine sr_op rfl rfl (ow_move (v := .int .i64 (a : Int)) rfl ?_)
                refine sr_op rfl rfl (ow_add (r := ((a + 1 : Nat) : Int)) rfl rfl (inc_i64 (by omega)) ?_)
                refine sr_op rfl rfl (ow_assign (v := .int .i64 ((a + 1 : Nat) : Int)) rfl ?_)
                refine sr_nil ?_
                refine st_region ?_
                refine sr_op rfl rfl (ow_move (v := .slice Aa_ na_ ca_) rfl ?_)
                refine sr_op rfl rfl (ow_move (v := .string src) rfl ?_)
                refine sr_op rfl rfl (ow_move (v := .int .i64 (a : Int)) rfl ?_)
                refine sr_op rfl rfl (ow_move (v := .int .i64 ((a + 1 : Nat) : Int)) rfl ?_)
                refine sr_op rfl rfl (ow_cutT (a := a) (c := (a + 1 : Nat)) un9 rfl (.inr ⟨_, rfl⟩) (.inr ⟨_, rfl⟩) (by omega) (by first | omega | (simp at hg; omega)) ?_)
                refine sr_op rfl rfl (ow_move (v := .int .i64 (a : Int)) rfl ?_)
                refine sr_op rfl rfl (ow_build (ps := [(0, .int .i64 3), (1, .string (src.extract a (a + 1 : Nat))), (3, .int .i64 (a : Int))]) (v := .agg #[.int .i64 3, .string (src.extract a (a + 1 : Nat)), .int .i64 0, .int .i64 (a : Int)]) rfl (fun _ => by kernel_rfl) ?_)
                refine sr_op rfl rfl (ow_buildSlice H (e := 64) (ps := [(0, .agg #[.int .i64 3, .string (src.extract a (a + 1 : Nat)), .int .i64 0, .int .i64 (a : Int)])]) rfl [.int .i64 3, .string (src.extract a (a + 1 : Nat)), .int .i64 0, .int .i64 (a : Int)] (fun _ => by kernel_rfl) (fun g34 _ H => ?_))
                refine sr_op rfl rfl (ow_append1 sl53 ty64 rfl rfl [] (v := .slice Aa_ na_ ca_) (cs := cs_) (L := L) H ha_ rfl rfl (((tk_iff (t := mkTk 3 (src.extract a (a + 1 : Nat)) 0 (a : Int))).2 ⟨rfl, i64_3, (s63_ext hS), i64_0, (I64_nat (by omega))⟩)) (rfl) (rfl) (by simp only [List.length_map]; omega) (by simp only [List.length_map]; omega) (fun va35 cs36 _ H ha_ => ?_))
                obtain ⟨Aa37, na37, ca37, rfl⟩ := Acc.form ha_
                refine sr_op rfl rfl (ow_assign (v := .slice Aa37 na37 ca37) rfl ?_)
                refine sr_nil ?_
                refine st_inBlock ?_
                exact st_inLoop (st_live [0, 2, 3, 4, 5, 6] (ih5 _ _ _ (by have h_ := step_prog hlt hs; (try simp only at h_); omega) ⟨a + 1, toks ++ [mkTk 3 (src.extract a (a + 1)) 0 (a : Int)], J3, _, _, _, _, _, rfl, rfl, H, (hJ3), by rw [List.map_append]; exact ha_, (step_prog hlt hs).2.1, by
                    have h1_ := step_prog hlt hs
                    rw [List.length_append]
                    have h2_ := h1_.1
                    have h3_ := h1_.2.2
                    try simp only at h2_
                    try simp only at h3_
                    try simp only
                    omega, hfr.trans (lex_step hlt hs)⟩))
    · have hge := of_decide_eq_false hc6
      refine st_exit rfl ?_
      refine st_seq ?_
      refine st_region ?_
      refine sr_op rfl rfl (ow_move (v := .slice Aa_ na_ ca_) rfl ?_)
      refine sr_op rfl rfl (ow_assign (v := .slice Aa_ na_ ca_) rfl ?_)
      refine sr_op rfl rfl (ow_assign (v := .int .i64 0) rfl ?_)
      refine sr_op rfl rfl (ow_assign (v := .int .i64 0) rfl ?_)
      refine sr_nil ?_
      refine st_ret hb (hR _ _ (.tuple #[.slice Aa_ na_ ca_, .int .i64 0, .int .i64 0]) (res_run (vs := [.slice Aa_ na_ ca_, .int .i64 0, .int .i64 0]) Tryd.results35 ⟨_, _, rfl, rfl, ⟨_, _, rfl, rfl, ⟨_, _, rfl, rfl, rfl⟩⟩⟩) ?_)
      obtain ⟨I9, hI9, H9, hr_⟩ := Acc.done ha_ H
      change RepS encTk I9 4 toks (.slice Aa_ na_ ca_) at hr_
      have H := H9
      exact ⟨_, rfl, I9, _, (hJ3.trans hI9), H, by rw [lexE, if_neg hsz, hfr, lex_end toks (by omega)], by rw [lexE, if_neg hsz, hfr, lex_end toks (by omega)]; exact hr_⟩
theorem pr_ {q : Tk → Tk → Bool} (hq : ∀ x, q x x = true) : ∀ l : List Tk, pairB q l l = true
  | [] => rfl
  | x :: l => by simp only [pairB, hq x, pr_ hq l, Bool.and_self]
theorem eqTs_same (l : List Tk) : eqTs l l = true := by
  unfold eqTs atsB sameTs
  rw [pr_ (fun x => by simp [sameTk]) l, pr_ (fun x => by simp) l]
  rfl
theorem s63_le {s : ByteArray} (h : s.size ≤ 140737488355328) : S63 s := by
  unfold S63
  omega
theorem LexSpec_c {B I L w} (H : Hp B I w L) (src : ByteArray) (hS : src.size ≤ 140737488355328) (hlib : LibAt I) : Calls Tryd.prog 9 #[.string src] w (Rt fun r w' => r = .bool true ∧ Hp B I w' L) := by
  by_cases hbig : 70000 < (src.size : Int)
  · refine calls_st (n := 39) Tryd.func9 rfl rfl rfl ?_
    intro G bF cs hb hfn hR hP
    simp only [ini]
    refine st_seq ?_
    refine st_region ?_
    refine sr_op rfl rfl (ow_assign (v := .bool false) rfl ?_)
    refine sr_nil ?_
    refine st_seq ?_
    refine st_seq ?_
    refine st_region ?_
    refine sr_op rfl rfl (ow_call en33 rfl (lexSane_c H hlib) ?_)
    rintro _ _ ⟨rfl, H⟩
    refine sr_op rfl rfl (ow_not rfl ?_)
    refine sr_nil ?_
    refine st_no rfl ?_
    refine st_skip ?_
    refine st_seq ?_
    refine st_seq ?_
    refine st_region ?_
    refine sr_op rfl rfl (ow_move (v := .string src) rfl ?_)
    refine sr_op rfl rfl (ow_lenT un9 rfl rfl ?_)
    refine sr_op rfl rfl (ow_gtr rfl rfl ?_)
    refine sr_nil ?_
    refine st_yes (congrArg Value.bool (decide_eq_true hbig)) ?_
    refine st_seq ?_
    refine st_region ?_
    refine sr_op rfl rfl (ow_assign (v := .bool true) rfl ?_)
    refine sr_nil ?_
    refine st_ret hb (hR _ _ (.bool true) (res_run (vs := [.bool true]) Tryd.results9 ⟨_, _, rfl, rfl, rfl⟩) ?_)
    exact ⟨_, rfl, rfl, H⟩
  · refine calls_st (n := 39) Tryd.func9 rfl rfl rfl ?_
    intro G bF cs hb hfn hR hP
    simp only [ini]
    refine st_seq ?_
    refine st_region ?_
    refine sr_op rfl rfl (ow_assign (v := .bool false) rfl ?_)
    refine sr_nil ?_
    refine st_seq ?_
    refine st_seq ?_
    refine st_region ?_
    refine sr_op rfl rfl (ow_call en33 rfl (lexSane_c H hlib) ?_)
    rintro _ _ ⟨rfl, H⟩
    refine sr_op rfl rfl (ow_not rfl ?_)
    refine sr_nil ?_
    refine st_no rfl ?_
    refine st_skip ?_
    refine st_seq ?_
    refine st_seq ?_
    refine st_region ?_
    refine sr_op rfl rfl (ow_move (v := .string src) rfl ?_)
    refine sr_op rfl rfl (ow_lenT un9 rfl rfl ?_)
    refine sr_op rfl rfl (ow_gtr rfl rfl ?_)
    refine sr_nil ?_
    refine st_no (congrArg Value.bool (decide_eq_false hbig)) ?_
    refine st_skip ?_
    refine st_seq ?_
    refine st_region ?_
    refine sr_op rfl rfl (ow_move (v := .string src) rfl ?_)
    refine sr_op rfl rfl (ow_call en34 rfl (Lex_c H src (s63_le hS) hlib) ?_)
    rintro _ _ ⟨I1, v1, hI1, H, rfl, hl1⟩
    obtain ⟨s1A, s1c, rfl, s1m, s1M, s1⟩ := RepS.open_ hl1
    refine sr_op rfl rfl (ow_move (v := .tuple #[.slice s1A (((lexE src).1).length) s1c, .int .i64 ((lexE src).2.1), .int .i64 ((lexE src).2.2)]) rfl ?_)
    refine sr_op rfl rfl (ow_extract (v := .slice s1A (((lexE src).1).length) s1c) rfl rfl ?_)
    refine sr_op rfl rfl (ow_extract (v := .int .i64 ((lexE src).2.1)) rfl rfl ?_)
    refine sr_op rfl rfl (ow_extract (v := .int .i64 ((lexE src).2.2)) rfl rfl ?_)
    refine sr_op rfl rfl (ow_assign (v := .slice s1A (((lexE src).1).length) s1c) rfl ?_)
    refine sr_op rfl rfl (ow_assign (v := .int .i64 ((lexE src).2.1)) rfl ?_)
    refine sr_op rfl rfl (ow_assign (v := .int .i64 ((lexE src).2.2)) rfl ?_)
    refine sr_nil ?_
    refine st_seq ?_
    refine st_region ?_
    refine sr_op rfl rfl (ow_move (v := .string src) rfl ?_)
    refine sr_op rfl rfl (ow_call en35 rfl (refLex_c H src hS) ?_)
    rintro _ _ ⟨I2, v2, hI2, H, rfl, hl2⟩
    obtain ⟨s2A, s2c, rfl, s2m, s2M, s2⟩ := RepS.open_ hl2
    refine sr_op rfl rfl (ow_move (v := .tuple #[.slice s2A (((lexE src).1).length) s2c, .int .i64 ((lexE src).2.1), .int .i64 ((lexE src).2.2)]) rfl ?_)
    refine sr_op rfl rfl (ow_extract (v := .slice s2A (((lexE src).1).length) s2c) rfl rfl ?_)
    refine sr_op rfl rfl (ow_extract (v := .int .i64 ((lexE src).2.1)) rfl rfl ?_)
    refine sr_op rfl rfl (ow_extract (v := .int .i64 ((lexE src).2.2)) rfl rfl ?_)
    refine sr_op rfl rfl (ow_assign (v := .slice s2A (((lexE src).1).length) s2c) rfl ?_)
    refine sr_op rfl rfl (ow_assign (v := .int .i64 ((lexE src).2.1)) rfl ?_)
    refine sr_op rfl rfl (ow_assign (v := .int .i64 ((lexE src).2.2)) rfl ?_)
    refine sr_nil ?_
    refine st_seq ?_
    refine st_region ?_
    refine sr_op rfl rfl (ow_move (v := .slice s1A (((lexE src).1).length) s1c) rfl ?_)
    refine sr_op rfl rfl (ow_move (v := .slice s2A (((lexE src).1).length) s2c) rfl ?_)
    have s1 := (s1.mono hI2)
    refine sr_op rfl rfl (ow_call en36 rfl (Equal_as H s1 s2 (eqTs_same _)) ?_)
    rintro _ _ ⟨rfl, H⟩
    refine sr_op rfl rfl (ow_move (v := .bool true) rfl ?_)
    refine sr_want rfl (j := 3) (d := 29) rfl rfl rfl (v := true) rfl rfl (ow_move (v := .int .i64 ((lexE src).2.1)) rfl ?_)
    refine sr_want rfl (j := 3) (d := 29) rfl rfl rfl (v := true) rfl rfl (ow_move (v := .int .i64 ((lexE src).2.1)) rfl ?_)
    refine sr_want rfl (j := 3) (d := 29) rfl rfl rfl (v := true) rfl rfl (ow_eql rfl rfl ?_)
    refine sr_op rfl rfl (ow_pick (v := .bool (decide (((lexE src).2.1) = ((lexE src).2.1)))) rfl rfl ?_)
    refine sr_op rfl rfl (ow_move (v := .bool (decide (((lexE src).2.1) = ((lexE src).2.1)))) rfl ?_)
    refine sr_want rfl (j := 8) (d := 34) rfl rfl rfl (v := true) (congrArg Value.bool (decide_eq_true rfl)) rfl (ow_move (v := .int .i64 ((lexE src).2.2)) rfl ?_)
    refine sr_want rfl (j := 8) (d := 34) rfl rfl rfl (v := true) (congrArg Value.bool (decide_eq_true rfl)) rfl (ow_move (v := .int .i64 ((lexE src).2.2)) rfl ?_)
    refine sr_want rfl (j := 8) (d := 34) rfl rfl rfl (v := true) (congrArg Value.bool (decide_eq_true rfl)) rfl (ow_eql rfl rfl ?_)
    refine sr_op rfl rfl (ow_pick (a := true) (v := .bool (decide (((lexE src).2.2) = ((lexE src).2.2)))) (congrArg Value.bool (decide_eq_true rfl)) rfl ?_)
    refine sr_op rfl rfl (ow_assign (v := .bool (decide (((lexE src).2.2) = ((lexE src).2.2)))) rfl ?_)
    refine sr_nil ?_
    refine st_ret hb (hR _ _ (.bool (decide (((lexE src).2.2) = ((lexE src).2.2)))) (res_run (vs := [.bool (decide (((lexE src).2.2) = ((lexE src).2.2)))]) Tryd.results9 ⟨_, _, rfl, rfl, rfl⟩) ?_)
    exact ⟨_, rfl, congrArg Value.bool (decide_eq_true rfl), (Hp.back H (hI1.trans hI2))⟩
end Go.Proofs.YtbbflenaeihmeaaDoor
