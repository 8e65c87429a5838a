/-
  Walks: Decimal and Text of the reference.
-/
import Derived.Test.YtbbflenaeihmeaaDoorQC
set_option linter.unusedVariables false
set_option linter.unusedSimpArgs false
set_option maxRecDepth 10000
set_option maxHeartbeats 4000000
namespace Go.Proofs.YtbbflenaeihmeaaDoor
open Go Go.RowKit

def preD (k : Nat) : List UInt8 := if k < 10 then [] else Lib.decDigits (k / 10)
theorem pre_all (k : Nat) (s : ByteArray) : preD k ++ ((⟨#[UInt8.ofNat (48 + ((k % 10 : Nat) : Int)).toNat]⟩ : ByteArray) ++ s).data.toList = Lib.decDigits k ++ s.data.toList := by
  unfold preD
  rw [app_list]
  by_cases h : k < 10
  · rw [if_pos h, Lib.decDigits_one h, Nat.mod_eq_of_lt h]
    rfl
  · rw [if_neg h]
    conv => rhs; rw [Lib.decDigits, dif_neg h]
    rw [List.append_assoc]
    rfl
theorem dec_start (k : Nat) : preD k ++ (⟨#[UInt8.ofNat (48 + ((k % 10 : Nat) : Int)).toNat]⟩ : ByteArray).data.toList = Lib.decDigits k := by
  have := pre_all k ⟨#[]⟩
  rw [app_list] at this
  simpa using this
theorem dec_next {k : Nat} {s : ByteArray} {D : List UInt8} (h : preD k ++ s.data.toList = D) (hk : ¬ k < 10) : preD (k / 10) ++ ((⟨#[UInt8.ofNat (48 + (((k / 10) % 10 : Nat) : Int)).toNat]⟩ : ByteArray) ++ s).data.toList = D := by
  rw [pre_all, ← h, preD, if_neg hk]
theorem dec_end {k : Nat} {s : ByteArray} {D : List UInt8} (h : preD k ++ s.data.toList = D) (hk : k < 10) : s.data.toList = D := by
  rw [← h, preD, if_pos hk]
  rfl
theorem join_snoc : ∀ (ws : List (List UInt8)) (w : List UInt8), joinL (ws ++ [w]) = if ws = [] then w else joinL ws ++ 32 :: w
  | [], w => rfl
  | [x], w => rfl
  | x :: y :: r, w => by
    have ih := join_snoc (y :: r) w
    rw [if_neg (by simp)] at ih ⊢
    show x ++ 32 :: joinL (y :: r ++ [w]) = (x ++ 32 :: joinL (y :: r)) ++ 32 :: w
    rw [ih]
    simp
theorem words_snoc (l : List Tk) (t : Tk) : wordsL (l ++ [t]) = wordsL l ++ [(spellS t).data.toList] := by simp [wordsL]
theorem text_first {l : List Tk} {s w : ByteArray} {t : Tk} (ht : l[0]? = some t) (hw : spellS t = w) (hs : s.data.toList = joinL (wordsL (l.take 0))) : (s ++ w).data.toList = joinL (wordsL (l.take (0 + 1))) := by
  rw [take_some ht, app_list, hs, words_snoc, ← hw]
  rfl
theorem text_more {l : List Tk} {i : Nat} {s w : ByteArray} {t : Tk} (ht : l[i]? = some t) (hi : 0 < i) (hw : spellS t = w) (hs : s.data.toList = joinL (wordsL (l.take i))) : ((s ++ ⟨#[32]⟩) ++ w).data.toList = joinL (wordsL (l.take (i + 1))) := by
  have hn : wordsL (l.take i) ≠ [] := by
    intro e
    have := congrArg List.length e
    simp only [wordsL, List.length_map, List.length_take, List.length_nil] at this
    have := (List.getElem?_eq_some_iff.1 ht).1
    omega
  rw [take_some ht, app_list, app_list, hs, words_snoc, join_snoc, if_neg hn, ← hw]
  simp
theorem cost_take (l : List Tk) (i : Nat) : costT (l.take i) ≤ costT l := by
  have := cost_app (l.take i) (l.drop i)
  rw [List.take_append_drop] at this
  omega
theorem Decimal_c {B I L w} (H : Hp B I w L) {N : Nat} (hN : N ≤ 1099511627776) : Calls Tryd.prog 88 #[.int .i64 (N : Int)] w (Rt fun r w' => r = .string (itoaS (N : Int)) ∧ Hp B I w' L) := by
  refine calls_st (n := 23) Tryd.func88 rfl rfl rfl ?_
  intro G bF cs hb hfn hR hP
  simp only [ini]
  refine st_seq ?_
  refine st_region ?_
  refine sr_op rfl rfl (ow_assign (v := .string ⟨#[]⟩) rfl ?_)
  refine sr_nil ?_
  refine st_seq ?_
  refine st_region ?_
  refine sr_op rfl rfl (ow_move (v := .int .i64 (N : Int)) rfl ?_)
  refine sr_op rfl rfl (ow_rem rfl rfl (by decide) (r := ((N % 10 : Nat) : Int)) rfl ?_)
  refine sr_op rfl rfl (ow_add (r := 48 + ((N % 10 : Nat) : Int)) rfl rfl (wrap_i64 (by omega) (by omega)) ?_)
  refine sr_op rfl rfl (ow_conv (cm := true) Tryd.underlying3 Tryd.underlying5 rfl (r := (48 + ((N % 10 : Nat) : Int))) (wrap_u8 (by omega) (by omega)) ?_)
  refine sr_op rfl rfl (ow_buildSlice H (e := 5) (ps := [(0, .int .u8 (48 + ((N % 10 : Nat) : Int)))]) rfl [.int .u8 (48 + ((N % 10 : Nat) : Int))] (fun _ => by kernel_rfl) (fun g1 _ H => ?_))
  refine sr_op rfl rfl (ow_bstr1 Tryd.underlying68 Tryd.underlying5 Tryd.underlying9 H rfl ?_)
  refine sr_op rfl rfl (ow_assign (v := .string ⟨#[UInt8.ofNat (48 + ((N % 10 : Nat) : Int)).toNat]⟩) rfl ?_)
  refine sr_nil ?_
  refine st_seq ?_
  refine st_block ?_
  refine st_loop ?_
  refine st_live [0, 2, 3] ?_
  refine st_ind (fun d_ m_ w_ => ∃ (k : Nat) (s : ByteArray) (r_ : Sl), d_ = k + 1 ∧ m_ = (0, .int .i64 (k : Int)) :: (2, .string ⟨#[]⟩) :: (3, .string s) :: r_ ∧ Hp B I w_ ((g1, Ob [.int .u8 (48 + ((N % 10 : Nat) : Int))] 5) :: L) ∧ k ≤ 1099511627776 ∧ s.size + k ≤ 1099511627777 ∧ preD k ++ s.data.toList = Lib.decDigits N) _ ⟨N, ⟨#[UInt8.ofNat (48 + ((N % 10 : Nat) : Int)).toNat]⟩, _, rfl, rfl, H, hN, by show 1 + N ≤ _; omega, dec_start N⟩ ?_
  rintro _ _ _ ⟨k, s, r3, rfl, rfl, H, hkb, hsb, hdd⟩ ih4
  refine st_seq ?_
  refine st_seq ?_
  refine st_region ?_
  refine sr_op rfl rfl (ow_move (v := .int .i64 (k : Int)) rfl ?_)
  refine sr_op rfl rfl (ow_geq rfl rfl ?_)
  refine sr_nil ?_
  refine st_cond (decide (10 ≤ (k : Int))) rfl (fun hc5 => ?_) (fun hc5 => ?_)
  · have hk := of_decide_eq_true hc5
    refine st_skip ?_
    refine st_block ?_
    refine st_seq ?_
    refine st_region ?_
    refine sr_op rfl rfl (ow_move (v := .int .i64 (k : Int)) rfl ?_)
    refine sr_op rfl rfl (ow_quo rfl rfl (by decide) (r := ((k / 10 : Nat) : Int)) (show IntKind.i64.wrap ((k / 10 : Nat) : Int) = _ from wrap_i64 (by omega) (by omega)) ?_)
    refine sr_op rfl rfl (ow_assign (v := .int .i64 ((k / 10 : Nat) : Int)) rfl ?_)
    refine sr_nil ?_
    refine st_region ?_
    refine sr_op rfl rfl (ow_move (v := .int .i64 ((k / 10 : Nat) : Int)) rfl ?_)
    refine sr_op rfl rfl (ow_rem rfl rfl (by decide) (r := (((k / 10) % 10 : Nat) : Int)) rfl ?_)
    refine sr_op rfl rfl (ow_add (r := 48 + (((k / 10) % 10 : Nat) : Int)) rfl rfl (wrap_i64 (by omega) (by omega)) ?_)
    refine sr_op rfl rfl (ow_conv (cm := true) Tryd.underlying3 Tryd.underlying5 rfl (r := (48 + (((k / 10) % 10 : Nat) : Int))) (wrap_u8 (by omega) (by omega)) ?_)
    refine sr_op rfl rfl (ow_buildSlice H (e := 5) (ps := [(0, .int .u8 (48 + (((k / 10) % 10 : Nat) : Int)))]) rfl [.int .u8 (48 + (((k / 10) % 10 : Nat) : Int))] (fun _ => by kernel_rfl) (fun g6 _ H => ?_))
    refine sr_op rfl rfl (ow_bstr1 Tryd.underlying68 Tryd.underlying5 Tryd.underlying9 H rfl ?_)
    refine sr_op rfl rfl (ow_move (v := .string s) rfl ?_)
    refine sr_op rfl rfl (ow_cat rfl rfl (by show 1 + s.size ≤ _; omega) ?_)
    refine sr_op rfl rfl (ow_assign (v := .string ((⟨#[UInt8.ofNat (48 + (((k / 10) % 10 : Nat) : Int)).toNat]⟩ : ByteArray) ++ s)) rfl ?_)
    refine sr_nil ?_
    refine st_inBlock ?_
    exact st_inLoop (st_live [0, 2, 3] (ih4 _ _ _ (by omega) ⟨k / 10, (⟨#[UInt8.ofNat (48 + (((k / 10) % 10 : Nat) : Int)).toNat]⟩ : ByteArray) ++ s, _, rfl, rfl, H.drop 1, by omega, by rw [app_size]; show 1 + s.size + k / 10 ≤ _; omega, dec_next hdd (by omega)⟩))
  · have hk := of_decide_eq_false hc5
    refine st_exit rfl ?_
    refine st_seq ?_
    refine st_region ?_
    refine sr_op rfl rfl (ow_move (v := .string s) rfl ?_)
    refine sr_op rfl rfl (ow_assign (v := .string s) rfl ?_)
    refine sr_nil ?_
    refine st_ret hb (hR _ _ (.string s) (res_run (vs := [.string s]) Tryd.results88 ⟨_, _, rfl, rfl, rfl⟩) ?_)
    exact ⟨_, rfl, congrArg Value.string (bytes_ext ((dec_end hdd (by omega)).trans (itoa_list (n := (N : Int)) (by omega)).symm)), (H.drop 1)⟩
theorem Decimal_of {B I L w} (H : Hp B I w L) {n : Int} (h0 : 0 ≤ n) (h1 : n ≤ 1099511627776) : Calls Tryd.prog 88 #[.int .i64 n] w (Rt fun r w' => r = .string (itoaS n) ∧ Hp B I w' L) := by
  obtain ⟨N, rfl⟩ : ∃ N : Nat, n = (N : Int) := ⟨n.toNat, by omega⟩
  exact Decimal_c H (by omega)
theorem valid_num2 {t : Tk} (h : validB t = true) (hk : t.kind = 2) : 0 ≤ t.n ∧ t.n ≤ 1099511627776 := by
  rw [valid2 hk] at h
  simp only [Bool.and_eq_true, decide_eq_true_eq] at h
  omega
end Go.Proofs.YtbbflenaeihmeaaDoor
