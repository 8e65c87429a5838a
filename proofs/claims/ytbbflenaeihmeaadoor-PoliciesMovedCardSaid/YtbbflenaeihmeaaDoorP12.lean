/-
  Walks: the reference of policies: how large.
-/
import Derived.Test.YtbbflenaeihmeaaDoorP11
set_option linter.unusedVariables false
set_option linter.unusedSimpArgs false
set_option maxRecDepth 10000
set_option maxHeartbeats 4000000
namespace Go.Proofs.YtbbflenaeihmeaaDoor
open Go Go.RowKit

mutual
def partsN : Ex → Int → Int
  | ⟨_, _, _, _, l⟩, lim => partsNs l lim 1
def partsNs : List Ex → Int → Int → Int
  | [], _, n => n
  | x :: l, lim, n => if n ≤ lim then partsNs l lim (n + partsN x (lim - n)) else n
end
theorem partsNs_big {lim n : Int} (h : lim < n) : ∀ l : List Ex, partsNs l lim n = n
  | [] => by simp only [partsNs]
  | x :: l => by simp only [partsNs]; rw [if_neg (by omega)]
theorem partsN_eq (x : Ex) (lim : Int) : partsN x lim = partsNs x.l lim 1 := by
  cases x
  simp only [partsN]
mutual
theorem partsN_spec : ∀ (x : Ex) (lim : Int), ((x.pc : Int) ≤ lim → partsN x lim = x.pc) ∧ (lim < (x.pc : Int) → lim < partsN x lim) ∧ 1 ≤ partsN x lim ∧ (0 ≤ lim → partsN x lim ≤ lim + 1)
  | ⟨k, n, no, nm, l⟩, lim => by
    have h := partsNs_spec l lim 1 (by omega)
    simp only [partsN, Ex.pc, Int.natCast_add] at h ⊢
    refine ⟨fun h1 => ?_, fun h1 => ?_, by omega, fun h1 => ?_⟩
    · rw [h.1 (by omega)]
      rfl
    · exact h.2.1 (by omega)
    · have := h.2.2.2
      omega
theorem partsNs_spec : ∀ (l : List Ex) (lim n : Int), 1 ≤ n → (n + (Ex.pcs l : Int) ≤ lim → partsNs l lim n = n + Ex.pcs l) ∧ (lim < n + (Ex.pcs l : Int) → lim < partsNs l lim n) ∧ n ≤ partsNs l lim n ∧ (partsNs l lim n ≤ n ∨ partsNs l lim n ≤ lim + 1)
  | [], lim, n, h => by simp [partsNs, Ex.pcs]
  | x :: l, lim, n, h => by
    simp only [partsNs, Ex.pcs, Int.natCast_add]
    have hx := partsN_spec x (lim - n)
    have hl := partsNs_spec l lim (n + partsN x (lim - n)) (by omega)
    by_cases h1 : n ≤ lim
    · rw [if_pos h1]
      refine ⟨fun h2 => ?_, fun h2 => ?_, by omega, ?_⟩
      · have e := hx.1 (by omega)
        rw [e] at hl ⊢
        rw [hl.1 (by omega)]
        omega
      · by_cases h3 : (x.pc : Int) ≤ lim - n
        · have e := hx.1 h3
          rw [e] at hl ⊢
          exact hl.2.1 (by omega)
        · have e := hx.2.1 (by omega)
          have := hl.2.2.1
          omega
      · have h4 := hx.2.2.2 (by omega)
        rcases hl.2.2.2 with h5 | h5 <;> omega
    · rw [if_neg h1]
      exact ⟨fun h2 => by omega, fun h2 => by omega, by omega, .inl (by omega)⟩
end
mutual
def depthX : Ex → Int
  | ⟨_, _, _, _, l⟩ => depthXs l 0 + 1
def depthXs : List Ex → Int → Int
  | [], n => n
  | x :: l, n => depthXs l (max n (depthX x))
end
theorem depthX_eq (x : Ex) : depthX x = depthXs x.l 0 + 1 := by
  cases x
  simp only [depthX]
mutual
theorem depthX_le : ∀ x : Ex, 1 ≤ depthX x ∧ depthX x ≤ x.pc
  | ⟨k, n, no, nm, l⟩ => by
    have h := depthXs_le l 0 (by omega)
    simp only [depthX, Ex.pc, Int.natCast_add]
    omega
theorem depthXs_le : ∀ (l : List Ex) (n : Int), 0 ≤ n → n ≤ depthXs l n ∧ depthXs l n ≤ max n (Ex.pcs l)
  | [], n, h => by simp only [depthXs, Ex.pcs]; omega
  | x :: l, n, h => by
    have h1 := depthX_le x
    have h2 := depthXs_le l (max n (depthX x)) (by omega)
    simp only [depthXs, Ex.pcs, Int.natCast_add]
    omega
end
theorem Parts_c {B : World} : ∀ (d : Nat) {x : Ex} {I : Im} {L : List (Nat × Obj)} {w : World} {us : List Value}, x.pc ≤ d → Hp B I w L → RepL I (encEx x) us → ∀ lim : Int, 0 ≤ lim → lim ≤ 1000000 → Calls Tryd.prog 91 #[.agg us.toArray, .int .i64 lim] w (Rt fun r w' => r = .int .i64 (partsN x lim) ∧ Hp B I w' L) := by
  intro d
  induction d with
  | zero =>
    intro x _ _ _ _ h0
    have := x.pc_eq
    omega
  | succ d ih =>
  intro x I L w us hd H hx lim hlim hlim6
  obtain ⟨v, rfl, hxk, hxn, hxo, hxs, hxl⟩ := ex_iff.1 hx
  obtain ⟨A, c, rfl, hlc, hcm, hxl⟩ := RepS.open_ hxl
  refine calls_st (n := 31) Tryd.func91 rfl rfl rfl ?_
  intro G bF cs hb hfn hR hP
  simp only [ini]
  refine st_seq ?_
  refine st_region ?_
  refine sr_op rfl rfl (ow_box H (v := .agg #[.int .i64 x.kind, .int .i64 x.n, .int .i64 x.no, .string x.name, .slice A x.l.length c]) rfl [.int .i64 x.kind, .int .i64 x.n, .int .i64 x.no, .string x.name, .slice A x.l.length c] rfl (fun g1 _ H => ?_))
  refine sr_op rfl rfl (ow_assign (v := .int .i64 0) rfl ?_)
  refine sr_nil ?_
  refine st_seq ?_
  refine st_region ?_
  refine sr_op rfl rfl (ow_assign (v := .int .i64 1) rfl ?_)
  refine sr_nil ?_
  refine st_seq ?_
  refine st_seq ?_
  refine st_region ?_
  refine sr_op rfl rfl (ow_assign (v := .int .i64 0) rfl ?_)
  refine sr_nil ?_
  refine st_block ?_
  refine st_loop ?_
  refine st_live [1, 2, 5, 6] ?_
  refine st_ind (fun d_ m_ w_ => ∃ (i : Nat) (n : Int) (r_ : Sl), d_ = x.l.length - i ∧ m_ = (1, .int .i64 lim) :: (2, .pointer (some ⟨g1, 0, none⟩)) :: (5, .int .i64 n) :: (6, .int .i64 (i : Int)) :: r_ ∧ Hp B I w_ ((g1, Ob [.int .i64 x.kind, .int .i64 x.n, .int .i64 x.no, .string x.name, .slice A x.l.length c] 26) :: L) ∧ i ≤ x.l.length ∧ 1 ≤ n ∧ n ≤ 1000001 ∧ partsN x lim = partsNs (x.l.drop i) lim n) _ ⟨0, 1, _, rfl, rfl, H, Nat.zero_le _, by omega, by omega, partsN_eq x lim⟩ ?_
  rintro _ _ _ ⟨i, n, r2, rfl, rfl, H, hi, hn1, hn6, hn⟩ ih3
  refine st_seq ?_
  refine st_seq ?_
  refine st_region ?_
  refine sr_op rfl rfl (ow_move (v := .int .i64 (i : Int)) rfl ?_)
  refine sr_op rfl rfl (ow_fieldAddr fd26_4 ty24 rfl rfl (r := 4) rfl ?_)
  refine sr_op rfl rfl (ow_load (v := .slice A x.l.length c) ty24 H rfl 0 rfl rfl rfl rfl ?_)
  refine sr_op rfl rfl (ow_lenS sl24 rfl rfl ?_)
  refine sr_op rfl rfl (ow_lss rfl rfl ?_)
  refine sr_op rfl rfl (ow_move (v := .bool (decide ((i : Int) < (x.l.length : Int)))) rfl ?_)
  refine sr_cut 4 (fun m_ w_ => ∃ (r_ : Sl) (v_ : Bool), m_ = (16, .bool v_) :: (1, .int .i64 lim) :: (2, .pointer (some ⟨g1, 0, none⟩)) :: (5, .int .i64 n) :: (6, .int .i64 (i : Int)) :: r_ ∧ Hp B I w_ ((g1, Ob [.int .i64 x.kind, .int .i64 x.n, .int .i64 x.no, .string x.name, .slice A x.l.length c] 26) :: L) ∧ v_ = ((decide ((i : Int) < (x.l.length : Int))) && (decide (n ≤ lim)))) (fun again => ?_) ?_
  · rcases hg : decide ((i : Int) < (x.l.length : Int)) with _ | _
    · refine sr_pass rfl (j := 5) (d := 12) rfl rfl rfl (u := false) (v := true) rfl rfl ?_
      refine sr_pass rfl (j := 5) (d := 12) rfl rfl rfl (u := false) (v := true) rfl rfl ?_
      refine sr_pass rfl (j := 5) (d := 12) rfl rfl rfl (u := false) (v := true) rfl rfl ?_
      refine sr_op rfl rfl (ow_pick (v := .bool false) rfl rfl ?_)
      exact sr_live [16, 1, 2, 5, 6] (again _ _ ⟨_, _, rfl, H, by rw [hg] <;> rfl⟩)
    · refine sr_want rfl (j := 5) (d := 12) rfl rfl rfl (v := true) rfl rfl (ow_move (v := .int .i64 n) rfl ?_)
      refine sr_want rfl (j := 5) (d := 12) rfl rfl rfl (v := true) rfl rfl (ow_move (v := .int .i64 lim) rfl ?_)
      refine sr_want rfl (j := 5) (d := 12) rfl rfl rfl (v := true) rfl rfl (ow_leq rfl rfl ?_)
      refine sr_op rfl rfl (ow_pick (v := .bool (decide (n ≤ lim))) rfl rfl ?_)
      exact sr_live [16, 1, 2, 5, 6] (again _ _ ⟨_, _, rfl, H, by rw [hg] <;> rfl⟩)
  rintro _ _ ⟨r, _, rfl, H, rfl⟩
  refine sr_nil ?_
  refine st_cond ((decide ((i : Int) < (x.l.length : Int))) && (decide (n ≤ lim))) rfl (fun hc4 => ?_) (fun hc4 => ?_)
  · simp only [Bool.and_eq_true, decide_eq_true_eq] at hc4
    obtain ⟨hca, hcb⟩ := hc4
    refine st_skip ?_
    refine st_seq ?_
    refine st_block ?_
    refine st_region ?_
    refine sr_op rfl rfl (ow_move (v := .int .i64 n) rfl ?_)
    refine sr_op rfl rfl (ow_fieldAddr fd26_4 ty24 rfl rfl (r := 4) rfl ?_)
    refine sr_op rfl rfl (ow_load (v := .slice A x.l.length c) ty24 H rfl 0 rfl rfl rfl rfl ?_)
    refine sr_op rfl rfl (ow_move (v := .int .i64 (i : Int)) rfl ?_)
    obtain ⟨y5, he5⟩ : ∃ q_, x.l[i]? = some q_ := ⟨_, List.getElem?_eq_getElem (by omega)⟩
    obtain ⟨b5, o5, us5, hA5, hat5, hul5, hr5⟩ := RepS.get hxl he5
    obtain ⟨v5, rfl, y5k, y5n, y5o, y5s, y5l⟩ := ex_iff.1 hr5
    obtain ⟨A5, c5, rfl, y5c, y5m, y5l⟩ := RepS.open_ y5l
    refine sr_op rfl rfl (ow_indexAddrA sl24 ty26 hA5 rfl rfl (by omega) (by omega) (r := o5 + i * 5) rfl ?_)
    refine sr_op rfl rfl (ow_loadI (v := .agg #[.int .i64 y5.kind, .int .i64 y5.n, .int .i64 y5.no, .string y5.name, .slice A5 y5.l.length c5]) ty26 H rfl hat5 rfl rfl rfl ?_)
    refine sr_op rfl rfl (ow_move (v := .int .i64 lim) rfl ?_)
    refine sr_op rfl rfl (ow_move (v := .int .i64 n) rfl ?_)
    refine sr_op rfl rfl (ow_sub (r := lim - n) rfl rfl (wrap_i64 (by omega) (by omega)) ?_)
    refine sr_op rfl rfl (ow_call en91 rfl (ih (x := y5) (by have := Ex.pc_at he5; omega) H (ex_iff.2 ⟨_, rfl, y5k, y5n, y5o, y5s, y5l⟩) (lim - n) (by omega) (by omega)) ?_)
    rintro _ _ ⟨rfl, H⟩
    have hpn := partsN_spec y5 (lim - n)
    have hpn2 := hpn.2.2.2 (by omega)
    have hpn1 := hpn.2.2.1
    refine sr_op rfl rfl (ow_add (r := n + partsN y5 (lim - n)) rfl rfl (wrap_i64 (by omega) (by omega)) ?_)
    refine sr_op rfl rfl (ow_assign (v := .int .i64 (n + partsN y5 (lim - n))) rfl ?_)
    refine sr_nil ?_
    refine st_inBlock ?_
    refine st_region ?_
    refine sr_op rfl rfl (ow_move (v := .int .i64 (i : Int)) rfl ?_)
    refine sr_op rfl rfl (ow_add (r := ((i + 1 : Nat) : Int)) rfl rfl (inc_i64 (by omega)) ?_)
    refine sr_op rfl rfl (ow_assign (v := .int .i64 ((i + 1 : Nat) : Int)) rfl ?_)
    refine sr_nil ?_
    exact st_inLoop (st_live [1, 2, 5, 6] (ih3 _ _ _ (by omega) ⟨i + 1, n + partsN y5 (lim - n), _, rfl, rfl, H, by omega, by omega, by omega, by rw [hn, drop_some he5, partsNs, if_pos hcb]⟩))
  · simp only [Bool.and_eq_false_iff, decide_eq_false_iff_not] at hc4
    refine st_exit rfl ?_
    refine st_seq ?_
    refine st_region ?_
    refine sr_op rfl rfl (ow_move (v := .int .i64 n) rfl ?_)
    refine sr_op rfl rfl (ow_assign (v := .int .i64 n) rfl ?_)
    refine sr_nil ?_
    refine st_ret hb (hR _ _ (.int .i64 n) (res_run (vs := [.int .i64 n]) Tryd.results91 ⟨_, _, rfl, rfl, rfl⟩) ?_)
    refine ⟨_, rfl, ?_, H.drop 1⟩
    rw [hn]
    by_cases hlt : lim < n
    · rw [partsNs_big hlt]
    · rw [List.drop_of_length_le (by omega), partsNs]
theorem Depth_c {B : World} : ∀ (d : Nat) {x : Ex} {I : Im} {L : List (Nat × Obj)} {w : World} {us : List Value}, x.pc ≤ d → d ≤ 1000000 → Hp B I w L → RepL I (encEx x) us → Calls Tryd.prog 117 #[.agg us.toArray] w (Rt fun r w' => r = .int .i64 (depthX x) ∧ Hp B I w' L) := by
  intro d
  induction d with
  | zero =>
    intro x _ _ _ _ h0
    have := x.pc_eq
    omega
  | succ d ih =>
  intro x I L w us hd hd6 H hx
  obtain ⟨v, rfl, hxk, hxn, hxo, hxs, hxl⟩ := ex_iff.1 hx
  obtain ⟨A, c, rfl, hlc, hcm, hxl⟩ := RepS.open_ hxl
  refine calls_st (n := 22) Tryd.func117 rfl rfl rfl ?_
  intro G bF cs hb hfn hR hP
  simp only [ini]
  refine st_seq ?_
  refine st_region ?_
  refine sr_op rfl rfl (ow_box H (v := .agg #[.int .i64 x.kind, .int .i64 x.n, .int .i64 x.no, .string x.name, .slice A x.l.length c]) rfl [.int .i64 x.kind, .int .i64 x.n, .int .i64 x.no, .string x.name, .slice A x.l.length c] rfl (fun g1 _ H => ?_))
  refine sr_op rfl rfl (ow_assign (v := .int .i64 0) rfl ?_)
  refine sr_nil ?_
  refine st_seq ?_
  refine st_region ?_
  refine sr_op rfl rfl (ow_assign (v := .int .i64 0) rfl ?_)
  refine sr_nil ?_
  refine st_seq ?_
  refine st_seq ?_
  refine st_region ?_
  refine sr_op rfl rfl (ow_assign (v := .int .i64 0) rfl ?_)
  refine sr_nil ?_
  refine st_block ?_
  refine st_loop ?_
  refine st_live [1, 3, 4] ?_
  refine st_ind (fun d_ m_ w_ => ∃ (i : Nat) (n : Int) (r_ : Sl), d_ = x.l.length - i ∧ m_ = (1, .pointer (some ⟨g1, 0, none⟩)) :: (3, .int .i64 n) :: (4, .int .i64 (i : Int)) :: r_ ∧ Hp B I w_ ((g1, Ob [.int .i64 x.kind, .int .i64 x.n, .int .i64 x.no, .string x.name, .slice A x.l.length c] 26) :: L) ∧ i ≤ x.l.length ∧ 0 ≤ n ∧ n ≤ 1000000 ∧ depthX x = depthXs (x.l.drop i) n + 1) _ ⟨0, 0, _, rfl, rfl, H, Nat.zero_le _, by omega, by omega, depthX_eq x⟩ ?_
  rintro _ _ _ ⟨i, n, r2, rfl, rfl, H, hi, hn1, hn6, hn⟩ ih3
  refine st_seq ?_
  refine st_seq ?_
  refine st_region ?_
  refine sr_op rfl rfl (ow_move (v := .int .i64 (i : Int)) rfl ?_)
  refine sr_op rfl rfl (ow_fieldAddr fd26_4 ty24 rfl rfl (r := 4) rfl ?_)
  refine sr_op rfl rfl (ow_load (v := .slice A x.l.length c) ty24 H rfl 0 rfl rfl rfl rfl ?_)
  refine sr_op rfl rfl (ow_lenS sl24 rfl rfl ?_)
  refine sr_op rfl rfl (ow_lss rfl rfl ?_)
  refine sr_nil ?_
  refine st_cond (decide ((i : Int) < (x.l.length : Int))) rfl (fun hc4 => ?_) (fun hc4 => ?_)
  · have hc4 := of_decide_eq_true hc4
    refine st_skip ?_
    refine st_seq ?_
    refine st_block ?_
    refine st_region ?_
    refine sr_op rfl rfl (ow_move (v := .int .i64 n) rfl ?_)
    refine sr_op rfl rfl (ow_fieldAddr fd26_4 ty24 rfl rfl (r := 4) rfl ?_)
    refine sr_op rfl rfl (ow_load (v := .slice A x.l.length c) ty24 H rfl 0 rfl rfl rfl rfl ?_)
    refine sr_op rfl rfl (ow_move (v := .int .i64 (i : Int)) rfl ?_)
    obtain ⟨y5, he5⟩ : ∃ q_, x.l[i]? = some q_ := ⟨_, List.getElem?_eq_getElem (by omega)⟩
    obtain ⟨b5, o5, us5, hA5, hat5, hul5, hr5⟩ := RepS.get hxl he5
    obtain ⟨v5, rfl, y5k, y5n, y5o, y5s, y5l⟩ := ex_iff.1 hr5
    obtain ⟨A5, c5, rfl, y5c, y5m, y5l⟩ := RepS.open_ y5l
    refine sr_op rfl rfl (ow_indexAddrA sl24 ty26 hA5 rfl rfl (by omega) (by omega) (r := o5 + i * 5) rfl ?_)
    refine sr_op rfl rfl (ow_loadI (v := .agg #[.int .i64 y5.kind, .int .i64 y5.n, .int .i64 y5.no, .string y5.name, .slice A5 y5.l.length c5]) ty26 H rfl hat5 rfl rfl rfl ?_)
    refine sr_op rfl rfl (ow_call en117 rfl (ih (x := y5) (by have := Ex.pc_at he5; omega) (by omega) H (ex_iff.2 ⟨_, rfl, y5k, y5n, y5o, y5s, y5l⟩)) ?_)
    rintro _ _ ⟨rfl, H⟩
    have hdy := depthX_le y5
    have hpy := Ex.pc_at he5
    refine sr_op rfl rfl (ow_max rfl rfl ?_)
    refine sr_op rfl rfl (ow_assign (v := .int .i64 (max n (depthX y5))) rfl ?_)
    refine sr_nil ?_
    refine st_inBlock ?_
    refine st_region ?_
    refine sr_op rfl rfl (ow_move (v := .int .i64 (i : Int)) rfl ?_)
    refine sr_op rfl rfl (ow_add (r := ((i + 1 : Nat) : Int)) rfl rfl (inc_i64 (by omega)) ?_)
    refine sr_op rfl rfl (ow_assign (v := .int .i64 ((i + 1 : Nat) : Int)) rfl ?_)
    refine sr_nil ?_
    exact st_inLoop (st_live [1, 3, 4] (ih3 _ _ _ (by omega) ⟨i + 1, max n (depthX y5), _, rfl, rfl, H, by omega, by omega, by omega, by rw [hn, drop_some he5, depthXs]⟩))
  · have hc4 := of_decide_eq_false hc4
    refine st_exit rfl ?_
    refine st_seq ?_
    refine st_region ?_
    refine sr_op rfl rfl (ow_move (v := .int .i64 n) rfl ?_)
    refine sr_op rfl rfl (ow_add (r := n + 1) rfl rfl (wrap_i64 (by omega) (by omega)) ?_)
    refine sr_op rfl rfl (ow_assign (v := .int .i64 (n + 1)) rfl ?_)
    refine sr_nil ?_
    refine st_ret hb (hR _ _ (.int .i64 (n + 1)) (res_run (vs := [.int .i64 (n + 1)]) Tryd.results117 ⟨_, _, rfl, rfl, rfl⟩) ?_)
    exact ⟨_, rfl, by rw [hn, List.drop_of_length_le (by omega), depthXs], H.drop 1⟩
def largeB (x : Ex) : Bool := decide (256 < partsN x 256) || decide (16 < depthX x)
def fewX (x : Ex) : Bool := decide (partsN x 400 ≤ 60) || (decide (256 < partsN x 400) && decide (partsN x 400 ≤ 300))
theorem pc_of_parts {x : Ex} (h : ¬ (256 : Int) < partsN x 256) : x.pc ≤ 256 := by
  have h1 := partsN_spec x 256
  rcases Int.lt_or_le 256 (x.pc : Int) with h2 | h2
  · exact absurd (h1.2.1 h2) h
  · omega
theorem large_c {B I L w} (H : Hp B I w L) {x : Ex} {us : List Value} (hx : RepL I (encEx x) us) : Calls Tryd.prog 101 #[.agg us.toArray] w (Rt fun r w' => r = .bool (largeB x) ∧ Hp B I w' L) := by
  have hx0 := hx
  obtain ⟨v, rfl, hxk, hxn, hxo, hxs, hxl⟩ := ex_iff.1 hx
  obtain ⟨A, c, rfl, hlc, hcm, hxl⟩ := RepS.open_ hxl
  refine calls_st (n := 11) Tryd.func101 rfl rfl rfl ?_
  intro G bF cs hb hfn hR hP
  simp only [ini]
  refine st_seq ?_
  refine st_region ?_
  refine sr_op rfl rfl (ow_box H (v := .agg #[.int .i64 x.kind, .int .i64 x.n, .int .i64 x.no, .string x.name, .slice A x.l.length c]) rfl [.int .i64 x.kind, .int .i64 x.n, .int .i64 x.no, .string x.name, .slice A x.l.length c] rfl (fun g1 _ H => ?_))
  refine sr_op rfl rfl (ow_assign (v := .bool false) rfl ?_)
  refine sr_nil ?_
  refine st_seq ?_
  refine st_region ?_
  refine sr_op rfl rfl (ow_load (v := .agg #[.int .i64 x.kind, .int .i64 x.n, .int .i64 x.no, .string x.name, .slice A x.l.length c]) ty26 H rfl 0 rfl rfl rfl rfl ?_)
  refine sr_op rfl rfl (ow_call en91 rfl (Parts_c x.pc (Nat.le_refl _) H hx0 256 (by omega) (by omega)) ?_)
  rintro _ _ ⟨rfl, H⟩
  refine sr_op rfl rfl (ow_gtr rfl rfl ?_)
  refine sr_op rfl rfl (ow_move (v := .bool (decide (256 < (partsN x 256)))) rfl ?_)
  refine sr_cut 4 (fun m_ w_ => ∃ (r_ : Sl) (v_ : Bool), m_ = (10, .bool v_) :: (2, .bool false) :: r_ ∧ Hp B I w_ ((g1, Ob [.int .i64 x.kind, .int .i64 x.n, .int .i64 x.no, .string x.name, .slice A x.l.length c] 26) :: L) ∧ v_ = ((decide (256 < (partsN x 256))) || (decide (16 < (depthX x))))) (fun again => ?_) ?_
  · rcases hg : decide (256 < (partsN x 256)) with _ | _
    · refine sr_want rfl (j := 3) (d := 6) rfl rfl rfl (v := false) rfl rfl (ow_load (v := .agg #[.int .i64 x.kind, .int .i64 x.n, .int .i64 x.no, .string x.name, .slice A x.l.length c]) ty26 H rfl 0 rfl rfl rfl rfl ?_)
      refine sr_want rfl (j := 3) (d := 6) rfl rfl rfl (v := false) rfl rfl (ow_call en117 rfl (Depth_c 256 (pc_of_parts (of_decide_eq_false hg)) (by omega) H hx0) ?_)
      rintro _ _ ⟨rfl, H⟩
      refine sr_want rfl (j := 3) (d := 6) rfl rfl rfl (v := false) rfl rfl (ow_gtr rfl rfl ?_)
      refine sr_op rfl rfl (ow_pick (v := .bool (decide (16 < (depthX x)))) rfl rfl ?_)
      exact sr_live [10, 2] (again _ _ ⟨_, _, rfl, H, by rw [hg] <;> rfl⟩)
    · refine sr_pass rfl (j := 3) (d := 6) rfl rfl rfl (u := true) (v := false) rfl rfl ?_
      refine sr_pass rfl (j := 3) (d := 6) rfl rfl rfl (u := true) (v := false) rfl rfl ?_
      refine sr_pass rfl (j := 3) (d := 6) rfl rfl rfl (u := true) (v := false) rfl rfl ?_
      refine sr_op rfl rfl (ow_pick (v := .bool true) rfl rfl ?_)
      exact sr_live [10, 2] (again _ _ ⟨_, _, rfl, H, by rw [hg] <;> rfl⟩)
  rintro _ _ ⟨r, _, rfl, H, rfl⟩
  refine sr_op rfl rfl (ow_assign (v := .bool ((decide (256 < (partsN x 256))) || (decide (16 < (depthX x))))) rfl ?_)
  refine sr_nil ?_
  refine st_ret hb (hR _ _ (.bool ((decide (256 < (partsN x 256))) || (decide (16 < (depthX x))))) (res_run (vs := [.bool ((decide (256 < (partsN x 256))) || (decide (16 < (depthX x))))]) Tryd.results101 ⟨_, _, rfl, rfl, rfl⟩) ?_)
  exact ⟨_, rfl, rfl, H.drop 1⟩
theorem FewExpr_c {B I L w} (H : Hp B I w L) {x : Ex} {us : List Value} (hx : RepL I (encEx x) us) : Calls Tryd.prog 55 #[.agg us.toArray] w (Rt fun r w' => r = .bool (fewX x) ∧ Hp B I w' L) := by
  have hx0 := hx
  obtain ⟨v, rfl, hxk, hxn, hxo, hxs, hxl⟩ := ex_iff.1 hx
  obtain ⟨A, c, rfl, hlc, hcm, hxl⟩ := RepS.open_ hxl
  refine calls_st (n := 16) Tryd.func55 rfl rfl rfl ?_
  intro G bF cs hb hfn hR hP
  simp only [ini]
  refine st_seq ?_
  refine st_region ?_
  refine sr_op rfl rfl (ow_box H (v := .agg #[.int .i64 x.kind, .int .i64 x.n, .int .i64 x.no, .string x.name, .slice A x.l.length c]) rfl [.int .i64 x.kind, .int .i64 x.n, .int .i64 x.no, .string x.name, .slice A x.l.length c] rfl (fun g1 _ H => ?_))
  refine sr_op rfl rfl (ow_assign (v := .bool false) rfl ?_)
  refine sr_nil ?_
  refine st_seq ?_
  refine st_region ?_
  refine sr_op rfl rfl (ow_load (v := .agg #[.int .i64 x.kind, .int .i64 x.n, .int .i64 x.no, .string x.name, .slice A x.l.length c]) ty26 H rfl 0 rfl rfl rfl rfl ?_)
  refine sr_op rfl rfl (ow_call en91 rfl (Parts_c x.pc (Nat.le_refl _) H hx0 400 (by omega) (by omega)) ?_)
  rintro _ _ ⟨rfl, H⟩
  refine sr_op rfl rfl (ow_assign (v := .int .i64 (partsN x 400)) rfl ?_)
  refine sr_nil ?_
  refine st_seq ?_
  refine st_region ?_
  refine sr_op rfl rfl (ow_move (v := .int .i64 (partsN x 400)) rfl ?_)
  refine sr_op rfl rfl (ow_leq rfl rfl ?_)
  refine sr_op rfl rfl (ow_move (v := .bool (decide (partsN x 400 ≤ 60))) rfl ?_)
  refine sr_cut 7 (fun m_ w_ => ∃ (r_ : Sl) (v_ : Bool), m_ = (15, .bool v_) :: (2, .bool false) :: r_ ∧ Hp B I w_ ((g1, Ob [.int .i64 x.kind, .int .i64 x.n, .int .i64 x.no, .string x.name, .slice A x.l.length c] 26) :: L) ∧ v_ = ((decide (partsN x 400 ≤ 60)) || ((decide (256 < (partsN x 400))) && (decide (partsN x 400 ≤ 300))))) (fun again => ?_) ?_
  · rcases hg : decide (partsN x 400 ≤ 60) with _ | _
    · refine sr_want rfl (j := 2) (d := 8) rfl rfl rfl (v := false) rfl rfl (ow_move (v := .int .i64 (partsN x 400)) rfl ?_)
      refine sr_want rfl (j := 2) (d := 8) rfl rfl rfl (v := false) rfl rfl (ow_gtr rfl rfl ?_)
      refine sr_want rfl (j := 2) (d := 8) rfl rfl rfl (v := false) rfl rfl (ow_move (v := .bool (decide (256 < (partsN x 400)))) rfl ?_)
      refine sr_cut 3 (fun m_ w_ => ∃ (r_ : Sl) (v_ : Bool), m_ = (14, .bool v_) :: (2, .bool false) :: (8, .bool false) :: r_ ∧ Hp B I w_ ((g1, Ob [.int .i64 x.kind, .int .i64 x.n, .int .i64 x.no, .string x.name, .slice A x.l.length c] 26) :: L) ∧ v_ = ((decide (256 < (partsN x 400))) && (decide (partsN x 400 ≤ 300)))) (fun again => ?_) ?_
      · rcases hg : decide (256 < (partsN x 400)) with _ | _
        · refine sr_pass rfl (j := 5) (d := 11) rfl rfl rfl (u := false) (v := true) rfl rfl ?_
          refine sr_pass rfl (j := 5) (d := 11) rfl rfl rfl (u := false) (v := true) rfl rfl ?_
          refine sr_want rfl (j := 2) (d := 8) rfl rfl rfl (v := false) rfl rfl (ow_pick (v := .bool false) rfl rfl ?_)
          exact sr_live [14, 2, 8] (again _ _ ⟨_, _, rfl, H, by rw [hg] <;> rfl⟩)
        · refine sr_want rfl (j := 5) (d := 11) rfl rfl rfl (v := true) rfl rfl (ow_move (v := .int .i64 (partsN x 400)) rfl ?_)
          refine sr_want rfl (j := 5) (d := 11) rfl rfl rfl (v := true) rfl rfl (ow_leq rfl rfl ?_)
          refine sr_want rfl (j := 2) (d := 8) rfl rfl rfl (v := false) rfl rfl (ow_pick (v := .bool (decide (partsN x 400 ≤ 300))) rfl rfl ?_)
          exact sr_live [14, 2, 8] (again _ _ ⟨_, _, rfl, H, by rw [hg] <;> rfl⟩)
      rintro _ _ ⟨r, _, rfl, H, rfl⟩
      refine sr_op rfl rfl (ow_pick (v := .bool ((decide (256 < (partsN x 400))) && (decide (partsN x 400 ≤ 300)))) rfl rfl ?_)
      exact sr_live [15, 2] (again _ _ ⟨_, _, rfl, H, by rw [hg] <;> rfl⟩)
    · refine sr_pass rfl (j := 2) (d := 8) rfl rfl rfl (u := true) (v := false) rfl rfl ?_
      refine sr_pass rfl (j := 2) (d := 8) rfl rfl rfl (u := true) (v := false) rfl rfl ?_
      refine sr_pass rfl (j := 2) (d := 8) rfl rfl rfl (u := true) (v := false) rfl rfl ?_
      refine sr_pass_undef rfl (j := 5) (d := 11) rfl rfl rfl rfl ?_
      refine sr_pass_undef rfl (j := 5) (d := 11) rfl rfl rfl rfl ?_
      refine sr_pass rfl (j := 2) (d := 8) rfl rfl rfl (u := true) (v := false) rfl rfl ?_
      refine sr_op rfl rfl (ow_pick (v := .bool true) rfl rfl ?_)
      exact sr_live [15, 2] (again _ _ ⟨_, _, rfl, H, by rw [hg] <;> rfl⟩)
  rintro _ _ ⟨r, _, rfl, H, rfl⟩
  refine sr_op rfl rfl (ow_assign (v := .bool ((decide (partsN x 400 ≤ 60)) || ((decide (256 < (partsN x 400))) && (decide (partsN x 400 ≤ 300))))) rfl ?_)
  refine sr_nil ?_
  refine st_ret hb (hR _ _ (.bool ((decide (partsN x 400 ≤ 60)) || ((decide (256 < (partsN x 400))) && (decide (partsN x 400 ≤ 300))))) (res_run (vs := [.bool ((decide (partsN x 400 ≤ 60)) || ((decide (256 < (partsN x 400))) && (decide (partsN x 400 ≤ 300))))]) Tryd.results55 ⟨_, _, rfl, rfl, rfl⟩) ?_)
  exact ⟨_, rfl, rfl, H.drop 1⟩
def tooLargeB (p : Po) : Bool := (((decide (32 < (p.offices.length : Int)) || decide (16 < (p.kinds.length : Int))) || decide (16 < (p.rules.length : Int))) || largeB p.change) || p.rules.any (fun r => largeB r.expr)
def fewB (p : Po) : Bool := !(((!fewN p.offices 32 || !fewN p.kinds 16) || decide (20 < (p.rules.length : Int))) || !fewX p.change) && p.rules.all (fun r => fewX r.expr)
theorem any_take {α : Type} {f : α → Bool} {l : List α} {i : Nat} {x : α} (he : l[i]? = some x) (h : (l.take i).any f = false) (hx : f x = false) : (l.take (i + 1)).any f = false := by
  rw [take_some he, List.any_append, h]
  simp [hx]
theorem any_hit {α : Type} {f : α → Bool} {l : List α} {i : Nat} {x : α} (he : l[i]? = some x) (hx : f x = true) : l.any f = true := List.any_eq_true.2 ⟨x, List.mem_of_getElem? he, hx⟩
theorem tooLarge_c {B I L w} (H : Hp B I w L) {p : Po} {us : List Value} (hp : RepL I (encPo p) us) : Calls Tryd.prog 62 #[.agg us.toArray] w (Rt fun r w' => r = .bool (tooLargeB p) ∧ Hp B I w' L) := by
  obtain ⟨v1, v2, v3, v4, rfl, hpn, hpk, hpo, hpr, hck, hcn, hcno, hcs, hcl, hpm⟩ := po_iff.1 hp
  obtain ⟨Ak, ck, rfl, hckl, hckm, hpk⟩ := RepS.open_ hpk
  obtain ⟨Ao, co, rfl, hcol, hcom, hpo⟩ := RepS.open_ hpo
  obtain ⟨Ar, cr, rfl, hcrl, hcrm, hpr⟩ := RepS.open_ hpr
  obtain ⟨Ac, cc, rfl, hccl, hccm, hcl⟩ := RepS.open_ hcl
  refine calls_st (n := 39) Tryd.func62 rfl rfl rfl ?_
  intro G bF cs hb hfn hR hP
  simp only [ini]
  refine st_seq ?_
  refine st_region ?_
  refine sr_op rfl rfl (ow_box H (v := .agg #[.string p.name, .slice Ak p.kinds.length ck, .slice Ao p.offices.length co, .slice Ar p.rules.length cr, .int .i64 p.change.kind, .int .i64 p.change.n, .int .i64 p.change.no, .string p.change.name, .slice Ac p.change.l.length cc, .int .i64 p.mode]) rfl [.string p.name, .slice Ak p.kinds.length ck, .slice Ao p.offices.length co, .slice Ar p.rules.length cr, .int .i64 p.change.kind, .int .i64 p.change.n, .int .i64 p.change.no, .string p.change.name, .slice Ac p.change.l.length cc, .int .i64 p.mode] rfl (fun g1 _ H => ?_))
  refine sr_op rfl rfl (ow_assign (v := .bool false) rfl ?_)
  refine sr_nil ?_
  refine st_seq ?_
  refine st_seq ?_
  refine st_region ?_
  refine sr_op rfl rfl (ow_fieldAddr fd28_2 ty22 rfl rfl (r := 2) rfl ?_)
  refine sr_op rfl rfl (ow_load (v := .slice Ao p.offices.length co) ty22 H rfl 0 rfl rfl rfl rfl ?_)
  refine sr_op rfl rfl (ow_lenS sl22 rfl rfl ?_)
  refine sr_op rfl rfl (ow_gtr rfl rfl ?_)
  refine sr_op rfl rfl (ow_move (v := .bool (decide (32 < (p.offices.length : Int)))) rfl ?_)
  refine sr_cut 5 (fun m_ w_ => ∃ (r_ : Sl) (v_ : Bool), m_ = (13, .bool v_) :: (1, .pointer (some ⟨g1, 0, none⟩)) :: (2, .bool false) :: r_ ∧ Hp B I w_ ((g1, Ob [.string p.name, .slice Ak p.kinds.length ck, .slice Ao p.offices.length co, .slice Ar p.rules.length cr, .int .i64 p.change.kind, .int .i64 p.change.n, .int .i64 p.change.no, .string p.change.name, .slice Ac p.change.l.length cc, .int .i64 p.mode] 28) :: L) ∧ v_ = ((decide (32 < (p.offices.length : Int))) || (decide (16 < (p.kinds.length : Int))))) (fun again => ?_) ?_
  · rcases hg : decide (32 < (p.offices.length : Int)) with _ | _
    · refine sr_want rfl (j := 4) (d := 8) rfl rfl rfl (v := false) rfl rfl (ow_fieldAddr fd28_1 ty22 rfl rfl (r := 1) rfl ?_)
      refine sr_want rfl (j := 4) (d := 8) rfl rfl rfl (v := false) rfl rfl (ow_load (v := .slice Ak p.kinds.length ck) ty22 H rfl 0 rfl rfl rfl rfl ?_)
      refine sr_want rfl (j := 4) (d := 8) rfl rfl rfl (v := false) rfl rfl (ow_lenS sl22 rfl rfl ?_)
      refine sr_want rfl (j := 4) (d := 8) rfl rfl rfl (v := false) rfl rfl (ow_gtr rfl rfl ?_)
      refine sr_op rfl rfl (ow_pick (v := .bool (decide (16 < (p.kinds.length : Int)))) rfl rfl ?_)
      exact sr_live [13, 1, 2] (again _ _ ⟨_, _, rfl, H, by rw [hg] <;> rfl⟩)
    · refine sr_pass rfl (j := 4) (d := 8) rfl rfl rfl (u := true) (v := false) rfl rfl ?_
      refine sr_pass rfl (j := 4) (d := 8) rfl rfl rfl (u := true) (v := false) rfl rfl ?_
      refine sr_pass rfl (j := 4) (d := 8) rfl rfl rfl (u := true) (v := false) rfl rfl ?_
      refine sr_pass rfl (j := 4) (d := 8) rfl rfl rfl (u := true) (v := false) rfl rfl ?_
      refine sr_op rfl rfl (ow_pick (v := .bool true) rfl rfl ?_)
      exact sr_live [13, 1, 2] (again _ _ ⟨_, _, rfl, H, by rw [hg] <;> rfl⟩)
  rintro _ _ ⟨r, _, rfl, H, rfl⟩
  refine sr_op rfl rfl (ow_move (v := .bool ((decide (32 < (p.offices.length : Int))) || (decide (16 < (p.kinds.length : Int))))) rfl ?_)
  refine sr_cut 5 (fun m_ w_ => ∃ (r_ : Sl) (v_ : Bool), m_ = (19, .bool v_) :: (1, .pointer (some ⟨g1, 0, none⟩)) :: (2, .bool false) :: r_ ∧ Hp B I w_ ((g1, Ob [.string p.name, .slice Ak p.kinds.length ck, .slice Ao p.offices.length co, .slice Ar p.rules.length cr, .int .i64 p.change.kind, .int .i64 p.change.n, .int .i64 p.change.no, .string p.change.name, .slice Ac p.change.l.length cc, .int .i64 p.mode] 28) :: L) ∧ v_ = (((decide (32 < (p.offices.length : Int))) || (decide (16 < (p.kinds.length : Int)))) || (decide (16 < (p.rules.length : Int))))) (fun again => ?_) ?_
  · rcases hg : (decide (32 < (p.offices.length : Int))) || (decide (16 < (p.kinds.length : Int))) with _ | _
    · refine sr_want rfl (j := 10) (d := 14) rfl rfl rfl (v := false) rfl rfl (ow_fieldAddr fd28_3 ty23 rfl rfl (r := 3) rfl ?_)
      refine sr_want rfl (j := 10) (d := 14) rfl rfl rfl (v := false) rfl rfl (ow_load (v := .slice Ar p.rules.length cr) ty23 H rfl 0 rfl rfl rfl rfl ?_)
      refine sr_want rfl (j := 10) (d := 14) rfl rfl rfl (v := false) rfl rfl (ow_lenS sl23 rfl rfl ?_)
      refine sr_want rfl (j := 10) (d := 14) rfl rfl rfl (v := false) rfl rfl (ow_gtr rfl rfl ?_)
      refine sr_op rfl rfl (ow_pick (v := .bool (decide (16 < (p.rules.length : Int)))) rfl rfl ?_)
      exact sr_live [19, 1, 2] (again _ _ ⟨_, _, rfl, H, by rw [hg] <;> rfl⟩)
    · refine sr_pass rfl (j := 10) (d := 14) rfl rfl rfl (u := true) (v := false) rfl rfl ?_
      refine sr_pass rfl (j := 10) (d := 14) rfl rfl rfl (u := true) (v := false) rfl rfl ?_
      refine sr_pass rfl (j := 10) (d := 14) rfl rfl rfl (u := true) (v := false) rfl rfl ?_
      refine sr_pass rfl (j := 10) (d := 14) rfl rfl rfl (u := true) (v := false) rfl rfl ?_
      refine sr_op rfl rfl (ow_pick (v := .bool true) rfl rfl ?_)
      exact sr_live [19, 1, 2] (again _ _ ⟨_, _, rfl, H, by rw [hg] <;> rfl⟩)
  rintro _ _ ⟨r, _, rfl, H, rfl⟩
  refine sr_op rfl rfl (ow_move (v := .bool (((decide (32 < (p.offices.length : Int))) || (decide (16 < (p.kinds.length : Int)))) || (decide (16 < (p.rules.length : Int))))) rfl ?_)
  refine sr_cut 4 (fun m_ w_ => ∃ (r_ : Sl) (v_ : Bool), m_ = (24, .bool v_) :: (1, .pointer (some ⟨g1, 0, none⟩)) :: (2, .bool false) :: r_ ∧ Hp B I w_ ((g1, Ob [.string p.name, .slice Ak p.kinds.length ck, .slice Ao p.offices.length co, .slice Ar p.rules.length cr, .int .i64 p.change.kind, .int .i64 p.change.n, .int .i64 p.change.no, .string p.change.name, .slice Ac p.change.l.length cc, .int .i64 p.mode] 28) :: L) ∧ v_ = ((((decide (32 < (p.offices.length : Int))) || (decide (16 < (p.kinds.length : Int)))) || (decide (16 < (p.rules.length : Int)))) || (largeB p.change))) (fun again => ?_) ?_
  · rcases hg : ((decide (32 < (p.offices.length : Int))) || (decide (16 < (p.kinds.length : Int)))) || (decide (16 < (p.rules.length : Int))) with _ | _
    · refine sr_want rfl (j := 16) (d := 20) rfl rfl rfl (v := false) rfl rfl (ow_fieldAddr fd28_4 ty26 rfl rfl (r := 4) rfl ?_)
      refine sr_want rfl (j := 16) (d := 20) rfl rfl rfl (v := false) rfl rfl (ow_load (v := .agg #[.int .i64 p.change.kind, .int .i64 p.change.n, .int .i64 p.change.no, .string p.change.name, .slice Ac p.change.l.length cc]) ty26 H rfl 0 rfl rfl rfl rfl ?_)
      refine sr_want rfl (j := 16) (d := 20) rfl rfl rfl (v := false) rfl rfl (ow_call en101 rfl (large_c H (x := p.change) (ex_iff.2 ⟨_, rfl, hck, hcn, hcno, hcs, hcl⟩)) ?_)
      rintro _ _ ⟨rfl, H⟩
      refine sr_op rfl rfl (ow_pick (v := .bool (largeB p.change)) rfl rfl ?_)
      exact sr_live [24, 1, 2] (again _ _ ⟨_, _, rfl, H, by rw [hg] <;> rfl⟩)
    · refine sr_pass rfl (j := 16) (d := 20) rfl rfl rfl (u := true) (v := false) rfl rfl ?_
      refine sr_pass rfl (j := 16) (d := 20) rfl rfl rfl (u := true) (v := false) rfl rfl ?_
      refine sr_pass rfl (j := 16) (d := 20) rfl rfl rfl (u := true) (v := false) rfl rfl ?_
      refine sr_op rfl rfl (ow_pick (v := .bool true) rfl rfl ?_)
      exact sr_live [24, 1, 2] (again _ _ ⟨_, _, rfl, H, by rw [hg] <;> rfl⟩)
  rintro _ _ ⟨r, _, rfl, H, rfl⟩
  refine sr_nil ?_
  refine st_cond ((((decide (32 < (p.offices.length : Int))) || (decide (16 < (p.kinds.length : Int)))) || (decide (16 < (p.rules.length : Int)))) || (largeB p.change)) rfl (fun hc2 => ?_) (fun hc2 => ?_)
  · refine st_seq ?_
    refine st_region ?_
    refine sr_op rfl rfl (ow_assign (v := .bool true) rfl ?_)
    refine sr_nil ?_
    refine st_ret hb (hR _ _ (.bool true) (res_run (vs := [.bool true]) Tryd.results62 ⟨_, _, rfl, rfl, rfl⟩) ?_)
    exact ⟨_, rfl, by rw [tooLargeB, hc2]; rfl, H.drop 1⟩
  · refine st_skip ?_
    refine st_seq ?_
    refine st_seq ?_
    refine st_region ?_
    refine sr_op rfl rfl (ow_assign (v := .int .i64 0) rfl ?_)
    refine sr_nil ?_
    refine st_block ?_
    refine st_loop ?_
    refine st_live [1, 3] ?_
    refine st_ind (fun d_ m_ w_ => ∃ (i : Nat) (r_ : Sl), d_ = p.rules.length - i ∧ m_ = (1, .pointer (some ⟨g1, 0, none⟩)) :: (3, .int .i64 (i : Int)) :: r_ ∧ Hp B I w_ ((g1, Ob [.string p.name, .slice Ak p.kinds.length ck, .slice Ao p.offices.length co, .slice Ar p.rules.length cr, .int .i64 p.change.kind, .int .i64 p.change.n, .int .i64 p.change.no, .string p.change.name, .slice Ac p.change.l.length cc, .int .i64 p.mode] 28) :: L) ∧ i ≤ p.rules.length ∧ (p.rules.take i).any (fun r => largeB r.expr) = false) _ ⟨0, _, rfl, rfl, H, Nat.zero_le _, rfl⟩ ?_
    rintro _ _ _ ⟨i, r3, rfl, rfl, H, hi, ha⟩ ih4
    refine st_seq ?_
    refine st_seq ?_
    refine st_region ?_
    refine sr_op rfl rfl (ow_move (v := .int .i64 (i : Int)) rfl ?_)
    refine sr_op rfl rfl (ow_fieldAddr fd28_3 ty23 rfl rfl (r := 3) rfl ?_)
    refine sr_op rfl rfl (ow_load (v := .slice Ar p.rules.length cr) ty23 H rfl 0 rfl rfl rfl rfl ?_)
    refine sr_op rfl rfl (ow_lenS sl23 rfl rfl ?_)
    refine sr_op rfl rfl (ow_lss rfl rfl ?_)
    refine sr_nil ?_
    refine st_cond (decide ((i : Int) < (p.rules.length : Int))) rfl (fun hc5 => ?_) (fun hc5 => ?_)
    · have hc5 := of_decide_eq_true hc5
      refine st_skip ?_
      refine st_seq ?_
      refine st_block ?_
      refine st_seq ?_
      refine st_region ?_
      refine sr_op rfl rfl (ow_fieldAddr fd28_3 ty23 rfl rfl (r := 3) rfl ?_)
      refine sr_op rfl rfl (ow_load (v := .slice Ar p.rules.length cr) ty23 H rfl 0 rfl rfl rfl rfl ?_)
      refine sr_op rfl rfl (ow_move (v := .int .i64 (i : Int)) rfl ?_)
      obtain ⟨r6, he6⟩ : ∃ q_, p.rules[i]? = some q_ := ⟨_, List.getElem?_eq_getElem (by omega)⟩
      obtain ⟨b6, o6, us6, hA6, hat6, hul6, hr6⟩ := RepS.get hpr he6
      obtain ⟨v6, rfl, r6K, r6Kn, r6Th, r6k, r6n, r6o, r6s, r6l⟩ := ru_iff.1 hr6
      obtain ⟨A6, c6, rfl, r6c, r6m, r6l⟩ := RepS.open_ r6l
      refine sr_op rfl rfl (ow_indexAddrA sl23 ty43 hA6 rfl rfl (by omega) (by omega) (r := o6 + i * 8) rfl ?_)
      refine sr_op rfl rfl (ow_fieldAddr fd43_3 ty26 rfl rfl (r := o6 + i * 8 + 3) rfl ?_)
      refine sr_op rfl rfl (ow_loadI (v := .agg #[.int .i64 r6.expr.kind, .int .i64 r6.expr.n, .int .i64 r6.expr.no, .string r6.expr.name, .slice A6 r6.expr.l.length c6]) ty26 H rfl (At.sub (vs := [.int .i64 r6.expr.kind, .int .i64 r6.expr.n, .int .i64 r6.expr.no, .string r6.expr.name, .slice A6 r6.expr.l.length c6]) hat6 3 rfl) rfl rfl rfl ?_)
      refine sr_op rfl rfl (ow_call en101 rfl (large_c H (x := r6.expr) (ex_iff.2 ⟨_, rfl, r6k, r6n, r6o, r6s, r6l⟩)) ?_)
      rintro _ _ ⟨rfl, H⟩
      refine sr_nil ?_
      refine st_cond (largeB r6.expr) rfl (fun hc7 => ?_) (fun hc7 => ?_)
      · refine st_seq ?_
        refine st_region ?_
        refine sr_op rfl rfl (ow_assign (v := .bool true) rfl ?_)
        refine sr_nil ?_
        refine st_ret hb (hR _ _ (.bool true) (res_run (vs := [.bool true]) Tryd.results62 ⟨_, _, rfl, rfl, rfl⟩) ?_)
        exact ⟨_, rfl, by rw [tooLargeB, any_hit he6 (f := fun r => largeB r.expr) hc7, Bool.or_true], H.drop 1⟩
      · refine st_skip ?_
        refine st_inBlock ?_
        refine st_region ?_
        refine sr_op rfl rfl (ow_move (v := .int .i64 (i : Int)) rfl ?_)
        refine sr_op rfl rfl (ow_add (r := ((i + 1 : Nat) : Int)) rfl rfl (inc_i64 (by omega)) ?_)
        refine sr_op rfl rfl (ow_assign (v := .int .i64 ((i + 1 : Nat) : Int)) rfl ?_)
        refine sr_nil ?_
        exact st_inLoop (st_live [1, 3] (ih4 _ _ _ (by omega) ⟨i + 1, _, rfl, rfl, H, by omega, any_take he6 ha hc7⟩))
    · have hc5 := of_decide_eq_false hc5
      refine st_exit rfl ?_
      refine st_seq ?_
      refine st_region ?_
      refine sr_op rfl rfl (ow_assign (v := .bool false) rfl ?_)
      refine sr_nil ?_
      refine st_ret hb (hR _ _ (.bool false) (res_run (vs := [.bool false]) Tryd.results62 ⟨_, _, rfl, rfl, rfl⟩) ?_)
      have ht : p.rules.take i = p.rules := List.take_of_length_le (by omega)
      rw [ht] at ha
      exact ⟨_, rfl, by rw [tooLargeB, hc2, ha]; rfl, H.drop 1⟩
theorem Few_c {B I L w} (H : Hp B I w L) {p : Po} {us : List Value} (hp : RepL I (encPo p) us) : Calls Tryd.prog 18 #[.agg us.toArray] w (Rt fun r w' => r = .bool (fewB p) ∧ Hp B I w' L) := by
  obtain ⟨v1, v2, v3, v4, rfl, hpn, hpk, hpo, hpr, hck, hcn, hcno, hcs, hcl, hpm⟩ := po_iff.1 hp
  obtain ⟨Ak, ck, rfl, hckl, hckm, hpk⟩ := RepS.open_ hpk
  obtain ⟨Ao, co, rfl, hcol, hcom, hpo⟩ := RepS.open_ hpo
  obtain ⟨Ar, cr, rfl, hcrl, hcrm, hpr⟩ := RepS.open_ hpr
  obtain ⟨Ac, cc, rfl, hccl, hccm, hcl⟩ := RepS.open_ hcl
  refine calls_st (n := 41) Tryd.func18 rfl rfl rfl ?_
  intro G bF cs hb hfn hR hP
  simp only [ini]
  refine st_seq ?_
  refine st_region ?_
  refine sr_op rfl rfl (ow_box H (v := .agg #[.string p.name, .slice Ak p.kinds.length ck, .slice Ao p.offices.length co, .slice Ar p.rules.length cr, .int .i64 p.change.kind, .int .i64 p.change.n, .int .i64 p.change.no, .string p.change.name, .slice Ac p.change.l.length cc, .int .i64 p.mode]) rfl [.string p.name, .slice Ak p.kinds.length ck, .slice Ao p.offices.length co, .slice Ar p.rules.length cr, .int .i64 p.change.kind, .int .i64 p.change.n, .int .i64 p.change.no, .string p.change.name, .slice Ac p.change.l.length cc, .int .i64 p.mode] rfl (fun g1 _ H => ?_))
  refine sr_op rfl rfl (ow_assign (v := .bool false) rfl ?_)
  refine sr_nil ?_
  refine st_seq ?_
  refine st_seq ?_
  refine st_region ?_
  refine sr_op rfl rfl (ow_fieldAddr fd28_2 ty22 rfl rfl (r := 2) rfl ?_)
  refine sr_op rfl rfl (ow_load (v := .slice Ao p.offices.length co) ty22 H rfl 0 rfl rfl rfl rfl ?_)
  refine sr_op rfl rfl (ow_call en54 rfl (fewNames_c H hpo 32) ?_)
  rintro _ _ ⟨rfl, H⟩
  refine sr_op rfl rfl (ow_not rfl ?_)
  refine sr_op rfl rfl (ow_move (v := .bool (!(fewN p.offices 32))) rfl ?_)
  refine sr_cut 5 (fun m_ w_ => ∃ (r_ : Sl) (v_ : Bool), m_ = (13, .bool v_) :: (1, .pointer (some ⟨g1, 0, none⟩)) :: (2, .bool false) :: r_ ∧ Hp B I w_ ((g1, Ob [.string p.name, .slice Ak p.kinds.length ck, .slice Ao p.offices.length co, .slice Ar p.rules.length cr, .int .i64 p.change.kind, .int .i64 p.change.n, .int .i64 p.change.no, .string p.change.name, .slice Ac p.change.l.length cc, .int .i64 p.mode] 28) :: L) ∧ v_ = ((!(fewN p.offices 32)) || (!(fewN p.kinds 16)))) (fun again => ?_) ?_
  · rcases hg : !(fewN p.offices 32) with _ | _
    · refine sr_want rfl (j := 4) (d := 8) rfl rfl rfl (v := false) rfl rfl (ow_fieldAddr fd28_1 ty22 rfl rfl (r := 1) rfl ?_)
      refine sr_want rfl (j := 4) (d := 8) rfl rfl rfl (v := false) rfl rfl (ow_load (v := .slice Ak p.kinds.length ck) ty22 H rfl 0 rfl rfl rfl rfl ?_)
      refine sr_want rfl (j := 4) (d := 8) rfl rfl rfl (v := false) rfl rfl (ow_call en54 rfl (fewNames_c H hpk 16) ?_)
      rintro _ _ ⟨rfl, H⟩
      refine sr_want rfl (j := 4) (d := 8) rfl rfl rfl (v := false) rfl rfl (ow_not rfl ?_)
      refine sr_op rfl rfl (ow_pick (v := .bool (!(fewN p.kinds 16))) rfl rfl ?_)
      exact sr_live [13, 1, 2] (again _ _ ⟨_, _, rfl, H, by rw [hg] <;> rfl⟩)
    · refine sr_pass rfl (j := 4) (d := 8) rfl rfl rfl (u := true) (v := false) rfl rfl ?_
      refine sr_pass rfl (j := 4) (d := 8) rfl rfl rfl (u := true) (v := false) rfl rfl ?_
      refine sr_pass rfl (j := 4) (d := 8) rfl rfl rfl (u := true) (v := false) rfl rfl ?_
      refine sr_pass rfl (j := 4) (d := 8) rfl rfl rfl (u := true) (v := false) rfl rfl ?_
      refine sr_op rfl rfl (ow_pick (v := .bool true) rfl rfl ?_)
      exact sr_live [13, 1, 2] (again _ _ ⟨_, _, rfl, H, by rw [hg] <;> rfl⟩)
  rintro _ _ ⟨r, _, rfl, H, rfl⟩
  refine sr_op rfl rfl (ow_move (v := .bool ((!(fewN p.offices 32)) || (!(fewN p.kinds 16)))) rfl ?_)
  refine sr_cut 5 (fun m_ w_ => ∃ (r_ : Sl) (v_ : Bool), m_ = (19, .bool v_) :: (1, .pointer (some ⟨g1, 0, none⟩)) :: (2, .bool false) :: r_ ∧ Hp B I w_ ((g1, Ob [.string p.name, .slice Ak p.kinds.length ck, .slice Ao p.offices.length co, .slice Ar p.rules.length cr, .int .i64 p.change.kind, .int .i64 p.change.n, .int .i64 p.change.no, .string p.change.name, .slice Ac p.change.l.length cc, .int .i64 p.mode] 28) :: L) ∧ v_ = (((!(fewN p.offices 32)) || (!(fewN p.kinds 16))) || (decide (20 < (p.rules.length : Int))))) (fun again => ?_) ?_
  · rcases hg : (!(fewN p.offices 32)) || (!(fewN p.kinds 16)) with _ | _
    · refine sr_want rfl (j := 10) (d := 14) rfl rfl rfl (v := false) rfl rfl (ow_fieldAddr fd28_3 ty23 rfl rfl (r := 3) rfl ?_)
      refine sr_want rfl (j := 10) (d := 14) rfl rfl rfl (v := false) rfl rfl (ow_load (v := .slice Ar p.rules.length cr) ty23 H rfl 0 rfl rfl rfl rfl ?_)
      refine sr_want rfl (j := 10) (d := 14) rfl rfl rfl (v := false) rfl rfl (ow_lenS sl23 rfl rfl ?_)
      refine sr_want rfl (j := 10) (d := 14) rfl rfl rfl (v := false) rfl rfl (ow_gtr rfl rfl ?_)
      refine sr_op rfl rfl (ow_pick (v := .bool (decide (20 < (p.rules.length : Int)))) rfl rfl ?_)
      exact sr_live [19, 1, 2] (again _ _ ⟨_, _, rfl, H, by rw [hg] <;> rfl⟩)
    · refine sr_pass rfl (j := 10) (d := 14) rfl rfl rfl (u := true) (v := false) rfl rfl ?_
      refine sr_pass rfl (j := 10) (d := 14) rfl rfl rfl (u := true) (v := false) rfl rfl ?_
      refine sr_pass rfl (j := 10) (d := 14) rfl rfl rfl (u := true) (v := false) rfl rfl ?_
      refine sr_pass rfl (j := 10) (d := 14) rfl rfl rfl (u := true) (v := false) rfl rfl ?_
      refine sr_op rfl rfl (ow_pick (v := .bool true) rfl rfl ?_)
      exact sr_live [19, 1, 2] (again _ _ ⟨_, _, rfl, H, by rw [hg] <;> rfl⟩)
  rintro _ _ ⟨r, _, rfl, H, rfl⟩
  refine sr_op rfl rfl (ow_move (v := .bool (((!(fewN p.offices 32)) || (!(fewN p.kinds 16))) || (decide (20 < (p.rules.length : Int))))) rfl ?_)
  refine sr_cut 5 (fun m_ w_ => ∃ (r_ : Sl) (v_ : Bool), m_ = (25, .bool v_) :: (1, .pointer (some ⟨g1, 0, none⟩)) :: (2, .bool false) :: r_ ∧ Hp B I w_ ((g1, Ob [.string p.name, .slice Ak p.kinds.length ck, .slice Ao p.offices.length co, .slice Ar p.rules.length cr, .int .i64 p.change.kind, .int .i64 p.change.n, .int .i64 p.change.no, .string p.change.name, .slice Ac p.change.l.length cc, .int .i64 p.mode] 28) :: L) ∧ v_ = ((((!(fewN p.offices 32)) || (!(fewN p.kinds 16))) || (decide (20 < (p.rules.length : Int)))) || (!(fewX p.change)))) (fun again => ?_) ?_
  · rcases hg : ((!(fewN p.offices 32)) || (!(fewN p.kinds 16))) || (decide (20 < (p.rules.length : Int))) with _ | _
    · refine sr_want rfl (j := 16) (d := 20) rfl rfl rfl (v := false) rfl rfl (ow_fieldAddr fd28_4 ty26 rfl rfl (r := 4) rfl ?_)
      refine sr_want rfl (j := 16) (d := 20) rfl rfl rfl (v := false) rfl rfl (ow_load (v := .agg #[.int .i64 p.change.kind, .int .i64 p.change.n, .int .i64 p.change.no, .string p.change.name, .slice Ac p.change.l.length cc]) ty26 H rfl 0 rfl rfl rfl rfl ?_)
      refine sr_want rfl (j := 16) (d := 20) rfl rfl rfl (v := false) rfl rfl (ow_call en55 rfl (FewExpr_c H (x := p.change) (ex_iff.2 ⟨_, rfl, hck, hcn, hcno, hcs, hcl⟩)) ?_)
      rintro _ _ ⟨rfl, H⟩
      refine sr_want rfl (j := 16) (d := 20) rfl rfl rfl (v := false) rfl rfl (ow_not rfl ?_)
      refine sr_op rfl rfl (ow_pick (v := .bool (!(fewX p.change))) rfl rfl ?_)
      exact sr_live [25, 1, 2] (again _ _ ⟨_, _, rfl, H, by rw [hg] <;> rfl⟩)
    · refine sr_pass rfl (j := 16) (d := 20) rfl rfl rfl (u := true) (v := false) rfl rfl ?_
      refine sr_pass rfl (j := 16) (d := 20) rfl rfl rfl (u := true) (v := false) rfl rfl ?_
      refine sr_pass rfl (j := 16) (d := 20) rfl rfl rfl (u := true) (v := false) rfl rfl ?_
      refine sr_pass rfl (j := 16) (d := 20) rfl rfl rfl (u := true) (v := false) rfl rfl ?_
      refine sr_op rfl rfl (ow_pick (v := .bool true) rfl rfl ?_)
      exact sr_live [25, 1, 2] (again _ _ ⟨_, _, rfl, H, by rw [hg] <;> rfl⟩)
  rintro _ _ ⟨r, _, rfl, H, rfl⟩
  refine sr_nil ?_
  refine st_cond ((((!(fewN p.offices 32)) || (!(fewN p.kinds 16))) || (decide (20 < (p.rules.length : Int)))) || (!(fewX p.change))) rfl (fun hc2 => ?_) (fun hc2 => ?_)
  · refine st_seq ?_
    refine st_region ?_
    refine sr_op rfl rfl (ow_assign (v := .bool false) rfl ?_)
    refine sr_nil ?_
    refine st_ret hb (hR _ _ (.bool false) (res_run (vs := [.bool false]) Tryd.results18 ⟨_, _, rfl, rfl, rfl⟩) ?_)
    exact ⟨_, rfl, by rw [fewB, hc2]; rfl, H.drop 1⟩
  · refine st_skip ?_
    refine st_seq ?_
    refine st_seq ?_
    refine st_region ?_
    refine sr_op rfl rfl (ow_assign (v := .int .i64 0) rfl ?_)
    refine sr_nil ?_
    refine st_block ?_
    refine st_loop ?_
    refine st_live [1, 3] ?_
    refine st_ind (fun d_ m_ w_ => ∃ (i : Nat) (r_ : Sl), d_ = p.rules.length - i ∧ m_ = (1, .pointer (some ⟨g1, 0, none⟩)) :: (3, .int .i64 (i : Int)) :: r_ ∧ Hp B I w_ ((g1, Ob [.string p.name, .slice Ak p.kinds.length ck, .slice Ao p.offices.length co, .slice Ar p.rules.length cr, .int .i64 p.change.kind, .int .i64 p.change.n, .int .i64 p.change.no, .string p.change.name, .slice Ac p.change.l.length cc, .int .i64 p.mode] 28) :: L) ∧ i ≤ p.rules.length ∧ (p.rules.take i).all (fun r => fewX r.expr) = true) _ ⟨0, _, rfl, rfl, H, Nat.zero_le _, rfl⟩ ?_
    rintro _ _ _ ⟨i, r3, rfl, rfl, H, hi, ha⟩ ih4
    refine st_seq ?_
    refine st_seq ?_
    refine st_region ?_
    refine sr_op rfl rfl (ow_move (v := .int .i64 (i : Int)) rfl ?_)
    refine sr_op rfl rfl (ow_fieldAddr fd28_3 ty23 rfl rfl (r := 3) rfl ?_)
    refine sr_op rfl rfl (ow_load (v := .slice Ar p.rules.length cr) ty23 H rfl 0 rfl rfl rfl rfl ?_)
    refine sr_op rfl rfl (ow_lenS sl23 rfl rfl ?_)
    refine sr_op rfl rfl (ow_lss rfl rfl ?_)
    refine sr_nil ?_
    refine st_cond (decide ((i : Int) < (p.rules.length : Int))) rfl (fun hc5 => ?_) (fun hc5 => ?_)
    · have hc5 := of_decide_eq_true hc5
      refine st_skip ?_
      refine st_seq ?_
      refine st_block ?_
      refine st_seq ?_
      refine st_region ?_
      refine sr_op rfl rfl (ow_fieldAddr fd28_3 ty23 rfl rfl (r := 3) rfl ?_)
      refine sr_op rfl rfl (ow_load (v := .slice Ar p.rules.length cr) ty23 H rfl 0 rfl rfl rfl rfl ?_)
      refine sr_op rfl rfl (ow_move (v := .int .i64 (i : Int)) rfl ?_)
      obtain ⟨r6, he6⟩ : ∃ q_, p.rules[i]? = some q_ := ⟨_, List.getElem?_eq_getElem (by omega)⟩
      obtain ⟨b6, o6, us6, hA6, hat6, hul6, hr6⟩ := RepS.get hpr he6
      obtain ⟨v6, rfl, r6K, r6Kn, r6Th, r6k, r6n, r6o, r6s, r6l⟩ := ru_iff.1 hr6
      obtain ⟨A6, c6, rfl, r6c, r6m, r6l⟩ := RepS.open_ r6l
      refine sr_op rfl rfl (ow_indexAddrA sl23 ty43 hA6 rfl rfl (by omega) (by omega) (r := o6 + i * 8) rfl ?_)
      refine sr_op rfl rfl (ow_fieldAddr fd43_3 ty26 rfl rfl (r := o6 + i * 8 + 3) rfl ?_)
      refine sr_op rfl rfl (ow_loadI (v := .agg #[.int .i64 r6.expr.kind, .int .i64 r6.expr.n, .int .i64 r6.expr.no, .string r6.expr.name, .slice A6 r6.expr.l.length c6]) ty26 H rfl (At.sub (vs := [.int .i64 r6.expr.kind, .int .i64 r6.expr.n, .int .i64 r6.expr.no, .string r6.expr.name, .slice A6 r6.expr.l.length c6]) hat6 3 rfl) rfl rfl rfl ?_)
      refine sr_op rfl rfl (ow_call en55 rfl (FewExpr_c H (x := r6.expr) (ex_iff.2 ⟨_, rfl, r6k, r6n, r6o, r6s, r6l⟩)) ?_)
      rintro _ _ ⟨rfl, H⟩
      refine sr_op rfl rfl (ow_not rfl ?_)
      refine sr_nil ?_
      refine st_cond (!(fewX r6.expr)) rfl (fun hc7 => ?_) (fun hc7 => ?_)
      · refine st_seq ?_
        refine st_region ?_
        refine sr_op rfl rfl (ow_assign (v := .bool false) rfl ?_)
        refine sr_nil ?_
        refine st_ret hb (hR _ _ (.bool false) (res_run (vs := [.bool false]) Tryd.results18 ⟨_, _, rfl, rfl, rfl⟩) ?_)
        exact ⟨_, rfl, by rw [fewB, all_bad he6 (f := fun r => fewX r.expr) (bnt hc7), Bool.and_false], H.drop 1⟩
      · refine st_skip ?_
        refine st_inBlock ?_
        refine st_region ?_
        refine sr_op rfl rfl (ow_move (v := .int .i64 (i : Int)) rfl ?_)
        refine sr_op rfl rfl (ow_add (r := ((i + 1 : Nat) : Int)) rfl rfl (inc_i64 (by omega)) ?_)
        refine sr_op rfl rfl (ow_assign (v := .int .i64 ((i + 1 : Nat) : Int)) rfl ?_)
        refine sr_nil ?_
        exact st_inLoop (st_live [1, 3] (ih4 _ _ _ (by omega) ⟨i + 1, _, rfl, rfl, H, by omega, all_take he6 ha (bnf hc7)⟩))
    · have hc5 := of_decide_eq_false hc5
      refine st_exit rfl ?_
      refine st_seq ?_
      refine st_region ?_
      refine sr_op rfl rfl (ow_assign (v := .bool true) rfl ?_)
      refine sr_nil ?_
      refine st_ret hb (hR _ _ (.bool true) (res_run (vs := [.bool true]) Tryd.results18 ⟨_, _, rfl, rfl, rfl⟩) ?_)
      have ht : p.rules.take i = p.rules := List.take_of_length_le (by omega)
      rw [ht] at ha
      exact ⟨_, rfl, by rw [fewB, hc2, ha]; rfl, H.drop 1⟩
def fewVs (l : List Ve) : Bool := !((decide (6 < (l.length : Int)) && decide ((l.length : Int) ≤ 256)) || decide (270 < (l.length : Int))) && (l.take 10).all (fun x => fewB x.policy)
theorem FewVersions_c {B I L w} (H : Hp B I w L) {l : List Ve} {v : Value} (hl : RepS encVe I 13 l v) : Calls Tryd.prog 24 #[v] w (Rt fun r w' => r = .bool (fewVs l) ∧ Hp B I w' L) := by
  obtain ⟨A, c, rfl, hlc, hcm, hl⟩ := hl.open_
  refine calls_st (n := 34) Tryd.func24 rfl rfl rfl ?_
  intro G bF cs hb hfn hR hP
  simp only [ini]
  refine st_seq ?_
  refine st_region ?_
  refine sr_op rfl rfl (ow_assign (v := .bool false) rfl ?_)
  refine sr_nil ?_
  refine st_seq ?_
  refine st_seq ?_
  refine st_region ?_
  refine sr_op rfl rfl (ow_move (v := .slice A l.length c) rfl ?_)
  refine sr_op rfl rfl (ow_lenS sl36 rfl rfl ?_)
  refine sr_op rfl rfl (ow_gtr rfl rfl ?_)
  refine sr_op rfl rfl (ow_move (v := .bool (decide (6 < (l.length : Int)))) rfl ?_)
  refine sr_cut 4 (fun m_ w_ => ∃ (r_ : Sl) (v_ : Bool), m_ = (11, .bool v_) :: (0, .slice A l.length c) :: (2, .bool false) :: r_ ∧ Hp B I w_ (L) ∧ v_ = ((decide (6 < (l.length : Int))) && (decide ((l.length : Int) ≤ 256)))) (fun again => ?_) ?_
  · rcases hg : decide (6 < (l.length : Int)) with _ | _
    · refine sr_pass rfl (j := 3) (d := 7) rfl rfl rfl (u := false) (v := true) rfl rfl ?_
      refine sr_pass rfl (j := 3) (d := 7) rfl rfl rfl (u := false) (v := true) rfl rfl ?_
      refine sr_pass rfl (j := 3) (d := 7) rfl rfl rfl (u := false) (v := true) rfl rfl ?_
      refine sr_op rfl rfl (ow_pick (v := .bool false) rfl rfl ?_)
      exact sr_live [11, 0, 2] (again _ _ ⟨_, _, rfl, H, by rw [hg] <;> rfl⟩)
    · refine sr_want rfl (j := 3) (d := 7) rfl rfl rfl (v := true) rfl rfl (ow_move (v := .slice A l.length c) rfl ?_)
      refine sr_want rfl (j := 3) (d := 7) rfl rfl rfl (v := true) rfl rfl (ow_lenS sl36 rfl rfl ?_)
      refine sr_want rfl (j := 3) (d := 7) rfl rfl rfl (v := true) rfl rfl (ow_leq rfl rfl ?_)
      refine sr_op rfl rfl (ow_pick (v := .bool (decide ((l.length : Int) ≤ 256))) rfl rfl ?_)
      exact sr_live [11, 0, 2] (again _ _ ⟨_, _, rfl, H, by rw [hg] <;> rfl⟩)
  rintro _ _ ⟨r, _, rfl, H, rfl⟩
  refine sr_op rfl rfl (ow_move (v := .bool ((decide (6 < (l.length : Int))) && (decide ((l.length : Int) ≤ 256)))) rfl ?_)
  refine sr_cut 4 (fun m_ w_ => ∃ (r_ : Sl) (v_ : Bool), m_ = (16, .bool v_) :: (0, .slice A l.length c) :: (2, .bool false) :: r_ ∧ Hp B I w_ (L) ∧ v_ = (((decide (6 < (l.length : Int))) && (decide ((l.length : Int) ≤ 256))) || (decide (270 < (l.length : Int))))) (fun again => ?_) ?_
  · rcases hg : (decide (6 < (l.length : Int))) && (decide ((l.length : Int) ≤ 256)) with _ | _
    · refine sr_want rfl (j := 8) (d := 12) rfl rfl rfl (v := false) rfl rfl (ow_move (v := .slice A l.length c) rfl ?_)
      refine sr_want rfl (j := 8) (d := 12) rfl rfl rfl (v := false) rfl rfl (ow_lenS sl36 rfl rfl ?_)
      refine sr_want rfl (j := 8) (d := 12) rfl rfl rfl (v := false) rfl rfl (ow_gtr rfl rfl ?_)
      refine sr_op rfl rfl (ow_pick (v := .bool (decide (270 < (l.length : Int)))) rfl rfl ?_)
      exact sr_live [16, 0, 2] (again _ _ ⟨_, _, rfl, H, by rw [hg] <;> rfl⟩)
    · refine sr_pass rfl (j := 8) (d := 12) rfl rfl rfl (u := true) (v := false) rfl rfl ?_
      refine sr_pass rfl (j := 8) (d := 12) rfl rfl rfl (u := true) (v := false) rfl rfl ?_
      refine sr_pass rfl (j := 8) (d := 12) rfl rfl rfl (u := true) (v := false) rfl rfl ?_
      refine sr_op rfl rfl (ow_pick (v := .bool true) rfl rfl ?_)
      exact sr_live [16, 0, 2] (again _ _ ⟨_, _, rfl, H, by rw [hg] <;> rfl⟩)
  rintro _ _ ⟨r, _, rfl, H, rfl⟩
  refine sr_nil ?_
  refine st_cond (((decide (6 < (l.length : Int))) && (decide ((l.length : Int) ≤ 256))) || (decide (270 < (l.length : Int)))) rfl (fun hc1 => ?_) (fun hc1 => ?_)
  · refine st_seq ?_
    refine st_region ?_
    refine sr_op rfl rfl (ow_assign (v := .bool false) rfl ?_)
    refine sr_nil ?_
    refine st_ret hb (hR _ _ (.bool false) (res_run (vs := [.bool false]) Tryd.results24 ⟨_, _, rfl, rfl, rfl⟩) ?_)
    exact ⟨_, rfl, by rw [fewVs, hc1]; rfl, H.drop 0⟩
  · refine st_skip ?_
    refine st_seq ?_
    refine st_seq ?_
    refine st_region ?_
    refine sr_op rfl rfl (ow_assign (v := .int .i64 0) rfl ?_)
    refine sr_nil ?_
    refine st_block ?_
    refine st_loop ?_
    refine st_live [0, 3] ?_
    refine st_ind (fun d_ m_ w_ => ∃ (i : Nat) (r_ : Sl), d_ = l.length - i ∧ m_ = (0, .slice A l.length c) :: (3, .int .i64 (i : Int)) :: r_ ∧ Hp B I w_ (L) ∧ i ≤ l.length ∧ i ≤ 10 ∧ (l.take i).all (fun x => fewB x.policy) = true) _ ⟨0, _, rfl, rfl, H, Nat.zero_le _, Nat.zero_le _, rfl⟩ ?_
    rintro _ _ _ ⟨i, r2, rfl, rfl, H, hi, hi2, ha⟩ ih3
    refine st_seq ?_
    refine st_seq ?_
    refine st_region ?_
    refine sr_op rfl rfl (ow_move (v := .int .i64 (i : Int)) rfl ?_)
    refine sr_op rfl rfl (ow_move (v := .slice A l.length c) rfl ?_)
    refine sr_op rfl rfl (ow_lenS sl36 rfl rfl ?_)
    refine sr_op rfl rfl (ow_lss rfl rfl ?_)
    refine sr_op rfl rfl (ow_move (v := .bool (decide ((i : Int) < (l.length : Int)))) rfl ?_)
    refine sr_cut 3 (fun m_ w_ => ∃ (r_ : Sl) (v_ : Bool), m_ = (24, .bool v_) :: (0, .slice A l.length c) :: (3, .int .i64 (i : Int)) :: r_ ∧ Hp B I w_ (L) ∧ v_ = ((decide ((i : Int) < (l.length : Int))) && (decide ((i : Int) < 10)))) (fun again => ?_) ?_
    · rcases hg : decide ((i : Int) < (l.length : Int)) with _ | _
      · refine sr_pass rfl (j := 4) (d := 21) rfl rfl rfl (u := false) (v := true) rfl rfl ?_
        refine sr_pass rfl (j := 4) (d := 21) rfl rfl rfl (u := false) (v := true) rfl rfl ?_
        refine sr_op rfl rfl (ow_pick (v := .bool false) rfl rfl ?_)
        exact sr_live [24, 0, 3] (again _ _ ⟨_, _, rfl, H, by rw [hg] <;> rfl⟩)
      · refine sr_want rfl (j := 4) (d := 21) rfl rfl rfl (v := true) rfl rfl (ow_move (v := .int .i64 (i : Int)) rfl ?_)
        refine sr_want rfl (j := 4) (d := 21) rfl rfl rfl (v := true) rfl rfl (ow_lss rfl rfl ?_)
        refine sr_op rfl rfl (ow_pick (v := .bool (decide ((i : Int) < 10))) rfl rfl ?_)
        exact sr_live [24, 0, 3] (again _ _ ⟨_, _, rfl, H, by rw [hg] <;> rfl⟩)
    rintro _ _ ⟨r, _, rfl, H, rfl⟩
    refine sr_nil ?_
    refine st_cond ((decide ((i : Int) < (l.length : Int))) && (decide ((i : Int) < 10))) rfl (fun hc4 => ?_) (fun hc4 => ?_)
    · simp only [Bool.and_eq_true, decide_eq_true_eq] at hc4
      refine st_skip ?_
      refine st_seq ?_
      refine st_block ?_
      refine st_seq ?_
      refine st_region ?_
      refine sr_op rfl rfl (ow_move (v := .slice A l.length c) rfl ?_)
      refine sr_op rfl rfl (ow_move (v := .int .i64 (i : Int)) rfl ?_)
      obtain ⟨x5, he5⟩ : ∃ q_, l[i]? = some q_ := ⟨_, List.getElem?_eq_getElem (by omega)⟩
      obtain ⟨b5, o5, us5, hA5, hat5, hul5, hr5⟩ := RepS.get hl he5
      obtain ⟨vs5, rfl, x5no, x5at, x5kn, x5p⟩ := ve_iff.1 hr5
      have x5p0 := x5p
      obtain ⟨v15, v25, v35, v45, rfl, x5pn, x5k, x5o, x5r, x5ck, x5cn, x5cno, x5cs, x5cl, x5pm⟩ := po_iff.1 x5p
      obtain ⟨Ak5, ck5, rfl, x5kA, x5kB, x5k⟩ := RepS.open_ x5k
      obtain ⟨Ao5, co5, rfl, x5oA, x5oB, x5o⟩ := RepS.open_ x5o
      obtain ⟨Ar5, cr5, rfl, x5rA, x5rB, x5r⟩ := RepS.open_ x5r
      obtain ⟨Acl5, ccl5, rfl, x5clA, x5clB, x5cl⟩ := RepS.open_ x5cl
      refine sr_op rfl rfl (ow_indexAddrA sl36 ty52 hA5 rfl rfl (by omega) (by omega) (r := o5 + i * 13) rfl ?_)
      refine sr_op rfl rfl (ow_fieldAddr fd52_3 ty28 rfl rfl (r := o5 + i * 13 + 3) rfl ?_)
      refine sr_op rfl rfl (ow_loadI (v := .agg #[.string x5.policy.name, .slice Ak5 x5.policy.kinds.length ck5, .slice Ao5 x5.policy.offices.length co5, .slice Ar5 x5.policy.rules.length cr5, .int .i64 x5.policy.change.kind, .int .i64 x5.policy.change.n, .int .i64 x5.policy.change.no, .string x5.policy.change.name, .slice Acl5 x5.policy.change.l.length ccl5, .int .i64 x5.policy.mode]) ty28 H rfl (At.sub (vs := [.string x5.policy.name, .slice Ak5 x5.policy.kinds.length ck5, .slice Ao5 x5.policy.offices.length co5, .slice Ar5 x5.policy.rules.length cr5, .int .i64 x5.policy.change.kind, .int .i64 x5.policy.change.n, .int .i64 x5.policy.change.no, .string x5.policy.change.name, .slice Acl5 x5.policy.change.l.length ccl5, .int .i64 x5.policy.mode]) hat5 3 rfl) rfl rfl rfl ?_)
      refine sr_op rfl rfl (ow_call en18 rfl (Few_c H x5p0) ?_)
      rintro _ _ ⟨rfl, H⟩
      refine sr_op rfl rfl (ow_not rfl ?_)
      refine sr_nil ?_
      refine st_cond (!(fewB x5.policy)) rfl (fun hc6 => ?_) (fun hc6 => ?_)
      · refine st_seq ?_
        refine st_region ?_
        refine sr_op rfl rfl (ow_assign (v := .bool false) rfl ?_)
        refine sr_nil ?_
        refine st_ret hb (hR _ _ (.bool false) (res_run (vs := [.bool false]) Tryd.results24 ⟨_, _, rfl, rfl, rfl⟩) ?_)
        exact ⟨_, rfl, by rw [fewVs, all_bad (i := i) (x := x5) (f := fun x : Ve => fewB x.policy) (by rw [List.getElem?_take, if_pos (by omega)]; exact he5) (bnt hc6), Bool.and_false], H.drop 0⟩
      · refine st_skip ?_
        refine st_inBlock ?_
        refine st_region ?_
        refine sr_op rfl rfl (ow_move (v := .int .i64 (i : Int)) rfl ?_)
        refine sr_op rfl rfl (ow_add (r := ((i + 1 : Nat) : Int)) rfl rfl (inc_i64 (by omega)) ?_)
        refine sr_op rfl rfl (ow_assign (v := .int .i64 ((i + 1 : Nat) : Int)) rfl ?_)
        refine sr_nil ?_
        exact st_inLoop (st_live [0, 3] (ih3 _ _ _ (by omega) ⟨i + 1, _, rfl, rfl, H, by omega, by omega, all_take he5 ha (bnf hc6)⟩))
    · simp only [Bool.and_eq_false_iff, decide_eq_false_iff_not] at hc4
      refine st_exit rfl ?_
      refine st_seq ?_
      refine st_region ?_
      refine sr_op rfl rfl (ow_assign (v := .bool true) rfl ?_)
      refine sr_nil ?_
      refine st_ret hb (hR _ _ (.bool true) (res_run (vs := [.bool true]) Tryd.results24 ⟨_, _, rfl, rfl, rfl⟩) ?_)
      have ht : l.take 10 = l.take i := by
        by_cases h : i = 10
        · rw [h]
        · rw [List.take_of_length_le (by omega), List.take_of_length_le (by omega)]
      exact ⟨_, rfl, by rw [fewVs, hc1, ht, ha]; rfl, H.drop 0⟩
end Go.Proofs.YtbbflenaeihmeaaDoor
