/-
  Walks: spelled, the text of a token.
-/
import Derived.Test.YtbbflenaeihmeaaDoorQ6
import Derived.Test.YtbbflenaeihmeaaDoorL7
import Derived.Test.YtbbflenaeihmeaaDoorBC
set_option linter.unusedVariables false
set_option linter.unusedSimpArgs false
set_option maxRecDepth 10000
set_option maxHeartbeats 4000000
namespace Go.Proofs.YtbbflenaeihmeaaDoor
open Go Go.RowKit

theorem wrap_u8 {a : Int} (h1 : 0 ≤ a) (h2 : a ≤ 255) : IntKind.u8.wrap a = a := by
  simp only [IntKind.wrap, IntKind.bits, IntKind.signed]
  first | omega | (simp; omega) | (split <;> omega)
theorem digit_step {k : Nat} {s : ByteArray} {D : List UInt8} (h : Lib.decDigits k ++ s.data.toList = D) (hk : ¬ k < 10) : Lib.decDigits (k / 10) ++ ((⟨#[UInt8.ofNat (48 + ((k % 10 : Nat) : Int)).toNat]⟩ : ByteArray) ++ s).data.toList = D := by
  rw [← h, app_list]
  conv => rhs; rw [Lib.decDigits, dif_neg hk]
  rw [List.append_assoc]
  rfl
theorem digit_last {k : Nat} {s : ByteArray} {D : List UInt8} (h : Lib.decDigits k ++ s.data.toList = D) (hk : k < 10) : ((⟨#[UInt8.ofNat (48 + ((k % 10 : Nat) : Int)).toNat]⟩ : ByteArray) ++ s).data.toList = D := by
  rw [← h, app_list, Lib.decDigits_one hk, Nat.mod_eq_of_lt hk]
  rfl
theorem spelledN_c {B I L w} (H : Hp B I w L) {tx : ByteArray} {N : Nat} {p : Int} {us : List Value} (ht : RepL I (encTk (mkTk 2 tx (N : Int) p)) us) (hN : N ≤ 1099511627776) : Calls Tryd.prog 45 #[.agg us.toArray] w (Rt fun r w' => r = .string (itoaS (N : Int)) ∧ Hp B I w' L) := by
  have d0 := ht
  obtain ⟨rfl, d0_0, d0_1, d0_2, d0_3⟩ := tk_iff.1 ht
  refine calls_st (n := 25) Tryd.func45 rfl rfl rfl ?_
  intro G bF cs hb hfn hR hP
  simp only [ini]
  refine st_seq ?_
  refine st_region ?_
  refine sr_op rfl rfl (ow_box H (v := .agg #[.int .i64 2, .string tx, .int .i64 (N : Int), .int .i64 p]) rfl [.int .i64 2, .string tx, .int .i64 (N : Int), .int .i64 p] rfl (fun g1 _ H => ?_))
  refine sr_op rfl rfl (ow_assign (v := .string ⟨#[]⟩) rfl ?_)
  refine sr_nil ?_
  refine st_seq ?_
  refine st_seq ?_
  refine st_region ?_
  refine sr_op rfl rfl (ow_fieldAddr fd64_0 ty3 rfl rfl (r := 0) rfl ?_)
  refine sr_op rfl rfl (ow_load (v := .int .i64 2) ty3 H rfl 0 rfl rfl rfl rfl ?_)
  refine sr_op rfl rfl (ow_neq rfl rfl ?_)
  refine sr_nil ?_
  refine st_no rfl ?_
  refine st_skip ?_
  refine st_seq ?_
  refine st_region ?_
  refine sr_op rfl rfl (ow_assign (v := .string ⟨#[]⟩) rfl ?_)
  refine sr_nil ?_
  refine st_seq ?_
  refine st_region ?_
  refine sr_op rfl rfl (ow_fieldAddr fd64_2 ty3 rfl rfl (r := 2) rfl ?_)
  refine sr_op rfl rfl (ow_load (v := .int .i64 (N : Int)) ty3 H rfl 0 rfl rfl rfl rfl ?_)
  refine sr_op rfl rfl (ow_assign (v := .int .i64 (N : Int)) rfl ?_)
  refine sr_nil ?_
  refine st_block ?_
  refine st_loop ?_
  refine st_live [2, 3, 4] ?_
  refine st_ind (fun d_ m_ w_ => ∃ (k : Nat) (s : ByteArray) (r_ : Sl), d_ = k + 1 ∧ m_ = (2, .string ⟨#[]⟩) :: (3, .string s) :: (4, .int .i64 (k : Int)) :: r_ ∧ Hp B I w_ ((g1, Ob [.int .i64 2, .string tx, .int .i64 (N : Int), .int .i64 p] 64) :: L) ∧ k ≤ 1099511627776 ∧ s.size + k ≤ 1099511627776 ∧ Lib.decDigits k ++ s.data.toList = Lib.decDigits N) _ ⟨N, ⟨#[]⟩, _, rfl, rfl, H, hN, by show 0 + N ≤ _; omega, by rw [List.append_nil]⟩ ?_
  rintro _ _ _ ⟨k, s, r3, rfl, rfl, H, hkb, hsb, hdd⟩ ih4
  refine st_seq ?_
  refine st_block ?_
  refine st_seq ?_
  refine st_region ?_
  refine sr_op rfl rfl (ow_move (v := .int .i64 (k : Int)) rfl ?_)
  refine sr_op rfl rfl (ow_rem rfl rfl (by decide) (r := ((k % 10 : Nat) : Int)) rfl ?_)
  refine sr_op rfl rfl (ow_add (r := 48 + ((k % 10 : Nat) : Int)) rfl rfl (wrap_i64 (by omega) (by omega)) ?_)
  refine sr_op rfl rfl (ow_conv (cm := true) Tryd.underlying3 Tryd.underlying5 rfl (r := (48 + ((k % 10 : Nat) : Int))) (wrap_u8 (by omega) (by omega)) ?_)
  refine sr_op rfl rfl (ow_buildSlice H (e := 5) (ps := [(0, .int .u8 (48 + ((k % 10 : Nat) : Int)))]) rfl [.int .u8 (48 + ((k % 10 : Nat) : Int))] (fun _ => by kernel_rfl) (fun g5 _ H => ?_))
  refine sr_op rfl rfl (ow_bstr1 Tryd.underlying68 Tryd.underlying5 Tryd.underlying9 H rfl ?_)
  refine sr_op rfl rfl (ow_move (v := .string s) rfl ?_)
  refine sr_op rfl rfl (ow_cat rfl rfl (by show 1 + s.size ≤ _; omega) ?_)
  refine sr_op rfl rfl (ow_assign (v := .string ((⟨#[UInt8.ofNat (48 + ((k % 10 : Nat) : Int)).toNat]⟩ : ByteArray) ++ s)) rfl ?_)
  refine sr_nil ?_
  refine st_seq ?_
  refine st_region ?_
  refine sr_op rfl rfl (ow_move (v := .int .i64 (k : Int)) rfl ?_)
  refine sr_op rfl rfl (ow_lss rfl rfl ?_)
  refine sr_nil ?_
  refine st_cond (decide ((k : Int) < 10)) rfl (fun hc6 => ?_) (fun hc6 => ?_)
  · have hk := of_decide_eq_true hc6
    refine st_seq ?_
    refine st_region ?_
    refine sr_op rfl rfl (ow_move (v := .string ((⟨#[UInt8.ofNat (48 + ((k % 10 : Nat) : Int)).toNat]⟩ : ByteArray) ++ s)) rfl ?_)
    refine sr_op rfl rfl (ow_assign (v := .string ((⟨#[UInt8.ofNat (48 + ((k % 10 : Nat) : Int)).toNat]⟩ : ByteArray) ++ s)) rfl ?_)
    refine sr_nil ?_
    refine st_ret hb (hR _ _ (.string ((⟨#[UInt8.ofNat (48 + ((k % 10 : Nat) : Int)).toNat]⟩ : ByteArray) ++ s)) (res_run (vs := [.string ((⟨#[UInt8.ofNat (48 + ((k % 10 : Nat) : Int)).toNat]⟩ : ByteArray) ++ s)]) Tryd.results45 ⟨_, _, rfl, rfl, rfl⟩) ?_)
    exact ⟨_, rfl, congrArg Value.string (bytes_ext ((digit_last hdd (by omega)).trans (itoa_list (n := (N : Int)) (by omega)).symm)), (H.drop 2)⟩
  · have hk := of_decide_eq_false hc6
    refine st_skip ?_
    refine st_inBlock ?_
    refine st_region ?_
    refine sr_op rfl rfl (ow_move (v := .int .i64 (k : Int)) rfl ?_)
    refine sr_op rfl rfl (ow_quo rfl rfl (by decide) (r := ((k / 10 : Nat) : Int)) (show IntKind.i64.wrap ((k / 10 : Nat) : Int) = _ from wrap_i64 (by omega) (by omega)) ?_)
    refine sr_op rfl rfl (ow_assign (v := .int .i64 ((k / 10 : Nat) : Int)) rfl ?_)
    refine sr_nil ?_
    exact st_inLoop (st_live [2, 3, 4] (ih4 _ _ _ (by omega) ⟨k / 10, (⟨#[UInt8.ofNat (48 + ((k % 10 : Nat) : Int)).toNat]⟩ : ByteArray) ++ s, _, rfl, rfl, H.drop 1, by omega, by rw [app_size]; show 1 + s.size + k / 10 ≤ _; omega, digit_step hdd (by omega)⟩))
theorem spelledT_c {B I L w} (H : Hp B I w L) {t : Tk} {us : List Value} (ht : RepL I (encTk t) us) (hk : ¬ t.kind = 2) : Calls Tryd.prog 45 #[.agg us.toArray] w (Rt fun r w' => r = .string t.text ∧ Hp B I w' L) := by
  have d0 := ht
  obtain ⟨rfl, d0_0, d0_1, d0_2, d0_3⟩ := tk_iff.1 ht
  refine calls_st (n := 25) Tryd.func45 rfl rfl rfl ?_
  intro G bF cs hb hfn hR hP
  simp only [ini]
  refine st_seq ?_
  refine st_region ?_
  refine sr_op rfl rfl (ow_box H (v := .agg #[.int .i64 t.kind, .string t.text, .int .i64 t.n, .int .i64 t.at_]) rfl [.int .i64 t.kind, .string t.text, .int .i64 t.n, .int .i64 t.at_] rfl (fun g1 _ H => ?_))
  refine sr_op rfl rfl (ow_assign (v := .string ⟨#[]⟩) rfl ?_)
  refine sr_nil ?_
  refine st_seq ?_
  refine st_seq ?_
  refine st_region ?_
  refine sr_op rfl rfl (ow_fieldAddr fd64_0 ty3 rfl rfl (r := 0) rfl ?_)
  refine sr_op rfl rfl (ow_load (v := .int .i64 t.kind) ty3 H rfl 0 rfl rfl rfl rfl ?_)
  refine sr_op rfl rfl (ow_neq rfl rfl ?_)
  refine sr_nil ?_
  refine st_yes (congrArg Value.bool (congrArg (a₂ := false) not (decide_eq_false hk))) ?_
  refine st_seq ?_
  refine st_region ?_
  refine sr_op rfl rfl (ow_fieldAddr fd64_1 ty9 rfl rfl (r := 1) rfl ?_)
  refine sr_op rfl rfl (ow_load (v := .string t.text) ty9 H rfl 0 rfl rfl rfl rfl ?_)
  refine sr_op rfl rfl (ow_assign (v := .string t.text) rfl ?_)
  refine sr_nil ?_
  refine st_ret hb (hR _ _ (.string t.text) (res_run (vs := [.string t.text]) Tryd.results45 ⟨_, _, rfl, rfl, rfl⟩) ?_)
  exact ⟨_, rfl, rfl, (H.drop 1)⟩
theorem spelled_c {B I L w} (H : Hp B I w L) {t : Tk} {us : List Value} (ht : RepL I (encTk t) us) (hv : validB t = true) : Calls Tryd.prog 45 #[.agg us.toArray] w (Rt fun r w' => r = .string (spellS t) ∧ Hp B I w' L) := by
  by_cases hk : t.kind = 2
  · rw [valid2 hk] at hv
    simp only [Bool.and_eq_true, decide_eq_true_eq] at hv
    obtain ⟨kd, tx, n, p⟩ := t
    simp only at hk hv
    obtain ⟨N, rfl⟩ : ∃ N : Nat, n = (N : Int) := ⟨n.toNat, by omega⟩
    subst hk
    have e : spellS ⟨2, tx, (N : Int), p⟩ = itoaS (N : Int) := if_pos rfl
    rw [e]
    exact spelledN_c H ht (by omega)
  · have e : spellS t = t.text := if_neg hk
    rw [e]
    exact spelledT_c H ht hk
end Go.Proofs.YtbbflenaeihmeaaDoor
