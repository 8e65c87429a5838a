/-
  Walks: the statement PoliciesMoved.
-/
import Derived.Test.YtbbflenaeihmeaaDoorP24A
import Derived.Test.YtbbflenaeihmeaaDoorB9
set_option linter.unusedVariables false
set_option linter.unusedSimpArgs false
set_option maxRecDepth 10000
set_option maxHeartbeats 4000000
namespace Go.Proofs.YtbbflenaeihmeaaDoor
open Go Go.RowKit

theorem small_rem {a k n : Int} (h1 : -1 ≤ a) (h2 : a ≤ 1000) (h3 : 0 ≤ k) (h4 : k ≤ 1000) (h5 : 0 < n) (h6 : n ≤ 1000) : IntKind.i64.wrap (a - k) = a - k ∧ IntKind.i64.wrap (a - k + n) = a - k + n :=
  ⟨wrap_i64 (by omega) (by omega), wrap_i64 (by omega) (by omega)⟩
theorem low_at {x : Ex} (h : allX lowG x = true) : -1 ≤ x.no ∧ x.no ≤ 1000 ∧ ∀ (i : Nat) y, x.l[i]? = some y → allX lowG y = true := by
  rw [allX_eq, Bool.and_eq_true, allXs_all] at h
  simp only [lowG, Bool.and_eq_true, decide_eq_true_eq] at h
  exact ⟨h.1.1, h.1.2, fun i y hy => List.all_eq_true.1 h.2 y (List.mem_of_getElem? hy)⟩
theorem movedXs_all {k n : Int} : ∀ {l m : List Ex}, l.length = m.length → (∀ (i : Nat) x y, l[i]? = some x → m[i]? = some y → movedX k n x y = true) → movedXs k n l m = true
  | [], [], _, _ => rfl
  | x :: l, y :: m, h, hq => by
    simp only [movedXs, Bool.and_eq_true]
    exact ⟨hq 0 x y rfl rfl, movedXs_all (by simpa using h) fun i a b ha hb => hq (i + 1) a b (by simpa using ha) (by simpa using hb)⟩
  | [], y :: m, h, _ => by simp at h
  | x :: l, [], h, _ => by simp at h
theorem movedXs_no {k n : Int} : ∀ {l m : List Ex} {i : Nat} {x y : Ex}, l[i]? = some x → m[i]? = some y → movedX k n x y = false → movedXs k n l m = false
  | [], _, i, x, y, hx, _, _ => by simp at hx
  | _ :: _, [], i, x, y, _, hy, _ => by simp at hy
  | a :: l, b :: m, i, x, y, hx, hy, h => by
    simp only [movedXs]
    cases i with
    | zero =>
      simp only [List.getElem?_cons_zero, Option.some.injEq] at hx hy
      rw [hx, hy, h, Bool.false_and]
    | succ i => rw [movedXs_no (l := l) (m := m) (by simpa using hx) (by simpa using hy) h, Bool.and_false]
theorem moved1_c {B : World} {k n : Int} (hk0 : 0 ≤ k) (hk1 : k ≤ 1000) (hn0 : 0 < n) (hn1 : n ≤ 1000) {gk gn gm : Nat} : ∀ (d : Nat) {x y : Ex} {I : Im} {L : List (Nat × Obj)} {w : World} {us ws : List Value}, x.pc ≤ d → d ≤ 1000000 → allX lowG x = true → Hp B I w L → RepL I (encEx x) us → RepL I (encEx y) ws → At I gk 0 [.int .i64 k] → At I gn 0 [.int .i64 n] → At I gm 0 [.func (.func 31) #[] #[.pointer (some ⟨gk, 0, none⟩), .pointer (some ⟨gn, 0, none⟩), .pointer (some ⟨gm, 0, none⟩)]] →
    Calls Tryd.prog 31 #[.agg us.toArray, .agg ws.toArray, .pointer (some ⟨gk, 0, none⟩), .pointer (some ⟨gn, 0, none⟩), .pointer (some ⟨gm, 0, none⟩)] w (Rt fun r w' => r = .bool (movedX k n x y) ∧ Hp B I w' L) := by
  intro d
  induction d with
  | zero =>
    intro x y _ _ _ _ _ h0
    have := x.pc_eq
    omega
  | succ d ih =>
  intro x y I L w us ws hd hd6 hlow H hx hy hgk hgn hgm
  obtain ⟨hl0, hl1, hlc⟩ := low_at hlow
  obtain ⟨hw1, hw2⟩ := small_rem hl0 hl1 hk0 hk1 hn0 hn1
  have d0 := hx
  obtain ⟨d0v4, rfl, d0_0, d0_1, d0_2, d0_3, d0_4⟩ := ex_iff.1 hx
  obtain ⟨d0A4, d0c4, rfl, d0m4, d0M4, d0_4⟩ := RepS.open_ d0_4
  have d1 := hy
  obtain ⟨d1v4, rfl, d1_0, d1_1, d1_2, d1_3, d1_4⟩ := ex_iff.1 hy
  obtain ⟨d1A4, d1c4, rfl, d1m4, d1M4, d1_4⟩ := RepS.open_ d1_4
  refine calls_st (n := 61) Tryd.func31 rfl rfl rfl ?_
  intro G bF cs hb hfn hR hP
  simp only [ini]
  refine st_seq ?_
  refine st_region ?_
  refine sr_op rfl rfl (ow_box H (v := .agg #[.int .i64 x.kind, .int .i64 x.n, .int .i64 x.no, .string x.name, .slice d0A4 x.l.length d0c4]) rfl [.int .i64 x.kind, .int .i64 x.n, .int .i64 x.no, .string x.name, .slice d0A4 x.l.length d0c4] rfl (fun g1 _ H => ?_))
  refine sr_op rfl rfl (ow_box H (v := .agg #[.int .i64 y.kind, .int .i64 y.n, .int .i64 y.no, .string y.name, .slice d1A4 y.l.length d1c4]) rfl [.int .i64 y.kind, .int .i64 y.n, .int .i64 y.no, .string y.name, .slice d1A4 y.l.length d1c4] rfl (fun g2 _ H => ?_))
  refine sr_op rfl rfl (ow_assign (v := .bool false) rfl ?_)
  refine sr_nil ?_
  refine st_seq ?_
  refine st_region ?_
  refine sr_op rfl rfl (ow_fieldAddr fd26_2 ty3 rfl rfl (r := 2) rfl ?_)
  refine sr_op rfl rfl (ow_load (v := .int .i64 x.no) ty3 H rfl 1 rfl rfl rfl rfl ?_)
  refine sr_op rfl rfl (ow_assign (v := .int .i64 x.no) rfl ?_)
  refine sr_nil ?_
  refine st_seq ?_
  refine st_seq ?_
  refine st_region ?_
  refine sr_op rfl rfl (ow_fieldAddr fd26_0 ty3 rfl rfl (r := 0) rfl ?_)
  refine sr_op rfl rfl (ow_load (v := .int .i64 x.kind) ty3 H rfl 1 rfl rfl rfl rfl ?_)
  refine sr_op rfl rfl (ow_eql rfl rfl ?_)
  refine sr_op rfl rfl (ow_move (v := .bool (decide (x.kind = 1))) rfl ?_)
  refine sr_cut 4 (fun m_ w_ => ∃ (r_ : Sl) (v_ : Bool), m_ = (19, .bool v_) :: (2, .pointer (some ⟨gk, 0, none⟩)) :: (3, .pointer (some ⟨gn, 0, none⟩)) :: (4, .pointer (some ⟨gm, 0, none⟩)) :: (5, .pointer (some ⟨g1, 0, none⟩)) :: (6, .pointer (some ⟨g2, 0, none⟩)) :: (7, .bool false) :: (8, .int .i64 x.no) :: r_ ∧ Hp B I w_ ((g2, Ob [.int .i64 y.kind, .int .i64 y.n, .int .i64 y.no, .string y.name, .slice d1A4 y.l.length d1c4] 26) :: (g1, Ob [.int .i64 x.kind, .int .i64 x.n, .int .i64 x.no, .string x.name, .slice d0A4 x.l.length d0c4] 26) :: L) ∧ v_ = ((decide (x.kind = 1)) || (decide (x.kind = 2)))) (fun again => ?_) ?_
  · rcases hg : decide (x.kind = 1) with _ | _
    · refine sr_want rfl (j := 3) (d := 15) rfl rfl rfl (v := false) rfl rfl (ow_fieldAddr fd26_0 ty3 rfl rfl (r := 0) rfl ?_)
      refine sr_want rfl (j := 3) (d := 15) rfl rfl rfl (v := false) rfl rfl (ow_load (v := .int .i64 x.kind) ty3 H rfl 1 rfl rfl rfl rfl ?_)
      refine sr_want rfl (j := 3) (d := 15) rfl rfl rfl (v := false) rfl rfl (ow_eql rfl rfl ?_)
      refine sr_op rfl rfl (ow_pick (v := .bool (decide (x.kind = 2))) rfl rfl ?_)
      exact sr_live [19, 2, 3, 4, 5, 6, 7, 8] (again _ _ ⟨_, _, rfl, H, by rw [hg] <;> rfl⟩)
    · refine sr_pass rfl (j := 3) (d := 15) rfl rfl rfl (u := true) (v := false) rfl rfl ?_
      refine sr_pass rfl (j := 3) (d := 15) rfl rfl rfl (u := true) (v := false) rfl rfl ?_
      refine sr_pass rfl (j := 3) (d := 15) rfl rfl rfl (u := true) (v := false) rfl rfl ?_
      refine sr_op rfl rfl (ow_pick (v := .bool true) rfl rfl ?_)
      exact sr_live [19, 2, 3, 4, 5, 6, 7, 8] (again _ _ ⟨_, _, rfl, H, by rw [hg] <;> rfl⟩)
  rintro _ _ ⟨r, _, rfl, H, rfl⟩
  refine sr_nil ?_
  refine st_cut (fun m_ w_ => ∃ (r_ : Sl), m_ = (4, .pointer (some ⟨gm, 0, none⟩)) :: (5, .pointer (some ⟨g1, 0, none⟩)) :: (6, .pointer (some ⟨g2, 0, none⟩)) :: (7, .bool false) :: (8, .int .i64 (if isNamed x.kind = true then Int.tmod (x.no - k + n) n else x.no)) :: r_ ∧ Hp B I w_ ((g2, Ob [.int .i64 y.kind, .int .i64 y.n, .int .i64 y.no, .string y.name, .slice d1A4 y.l.length d1c4] 26) :: (g1, Ob [.int .i64 x.kind, .int .i64 x.n, .int .i64 x.no, .string x.name, .slice d0A4 x.l.length d0c4] 26) :: L)) (fun again => ?_) ?_
  · refine st_cond ((decide (x.kind = 1)) || (decide (x.kind = 2))) rfl (fun hc3 => ?_) (fun hc3 => ?_)
    · rw [if_pos (show isNamed x.kind = true from hc3)] at again
      refine st_region ?_
      refine sr_op rfl rfl (ow_fieldAddr fd26_2 ty3 rfl rfl (r := 2) rfl ?_)
      refine sr_op rfl rfl (ow_load (v := .int .i64 x.no) ty3 H rfl 1 rfl rfl rfl rfl ?_)
      refine sr_op rfl rfl (ow_loadI (v := .int .i64 k) ty3 H rfl hgk rfl rfl rfl ?_)
      refine sr_op rfl rfl (ow_sub (r := x.no - k) rfl rfl hw1 ?_)
      refine sr_op rfl rfl (ow_loadI (v := .int .i64 n) ty3 H rfl hgn rfl rfl rfl ?_)
      refine sr_op rfl rfl (ow_add (r := x.no - k + n) rfl rfl hw2 ?_)
      refine sr_op rfl rfl (ow_loadI (v := .int .i64 n) ty3 H rfl hgn rfl rfl rfl ?_)
      refine sr_op rfl rfl (ow_rem rfl rfl (by omega) (r := (Int.tmod (x.no - k + n) n)) rfl ?_)
      refine sr_op rfl rfl (ow_assign (v := .int .i64 (Int.tmod (x.no - k + n) n)) rfl ?_)
      refine sr_nil ?_
      exact st_live [4, 5, 6, 7, 8] (again _ _ ⟨_, rfl, H⟩)
    · rw [if_neg (show ¬ isNamed x.kind = true from by unfold isNamed; rw [hc3]; decide)] at again
      refine st_skip ?_
      exact st_live [4, 5, 6, 7, 8] (again _ _ ⟨_, rfl, H⟩)
  rintro _ _ ⟨r4, rfl, H⟩
  refine st_seq ?_
  refine st_seq ?_
  refine st_region ?_
  refine sr_op rfl rfl (ow_fieldAddr fd26_2 ty3 rfl rfl (r := 2) rfl ?_)
  refine sr_op rfl rfl (ow_load (v := .int .i64 y.no) ty3 H rfl 0 rfl rfl rfl rfl ?_)
  refine sr_op rfl rfl (ow_move (v := .int .i64 (if isNamed x.kind = true then Int.tmod (x.no - k + n) n else x.no)) rfl ?_)
  refine sr_op rfl rfl (ow_neq rfl rfl ?_)
  refine sr_op rfl rfl (ow_move (v := .bool (!decide (y.no = (if isNamed x.kind = true then Int.tmod (x.no - k + n) n else x.no)))) rfl ?_)
  refine sr_cut 8 (fun m_ w_ => ∃ (r_ : Sl) (v_ : Bool), m_ = (40, .bool v_) :: (4, .pointer (some ⟨gm, 0, none⟩)) :: (5, .pointer (some ⟨g1, 0, none⟩)) :: (6, .pointer (some ⟨g2, 0, none⟩)) :: (7, .bool false) :: r_ ∧ Hp B I w_ ((g2, Ob [.int .i64 y.kind, .int .i64 y.n, .int .i64 y.no, .string y.name, .slice d1A4 y.l.length d1c4] 26) :: (g1, Ob [.int .i64 x.kind, .int .i64 x.n, .int .i64 x.no, .string x.name, .slice d0A4 x.l.length d0c4] 26) :: L) ∧ v_ = ((!decide (y.no = (if isNamed x.kind = true then Int.tmod (x.no - k + n) n else x.no))) || (!decide ((x.l.length : Int) = (y.l.length : Int))))) (fun again => ?_) ?_
  · rcases hg : !decide (y.no = (if isNamed x.kind = true then Int.tmod (x.no - k + n) n else x.no)) with _ | _
    · refine sr_want rfl (j := 4) (d := 32) rfl rfl rfl (v := false) rfl rfl (ow_fieldAddr fd26_4 ty24 rfl rfl (r := 4) rfl ?_)
      refine sr_want rfl (j := 4) (d := 32) rfl rfl rfl (v := false) rfl rfl (ow_load (v := .slice d0A4 x.l.length d0c4) ty24 H rfl 1 rfl rfl rfl rfl ?_)
      refine sr_want rfl (j := 4) (d := 32) rfl rfl rfl (v := false) rfl rfl (ow_lenS sl24 rfl rfl ?_)
      refine sr_want rfl (j := 4) (d := 32) rfl rfl rfl (v := false) rfl rfl (ow_fieldAddr fd26_4 ty24 rfl rfl (r := 4) rfl ?_)
      refine sr_want rfl (j := 4) (d := 32) rfl rfl rfl (v := false) rfl rfl (ow_load (v := .slice d1A4 y.l.length d1c4) ty24 H rfl 0 rfl rfl rfl rfl ?_)
      refine sr_want rfl (j := 4) (d := 32) rfl rfl rfl (v := false) rfl rfl (ow_lenS sl24 rfl rfl ?_)
      refine sr_want rfl (j := 4) (d := 32) rfl rfl rfl (v := false) rfl rfl (ow_neq rfl rfl ?_)
      refine sr_op rfl rfl (ow_pick (v := .bool (!decide ((x.l.length : Int) = (y.l.length : Int)))) rfl rfl ?_)
      exact sr_live [40, 4, 5, 6, 7] (again _ _ ⟨_, _, rfl, H, by rw [hg] <;> rfl⟩)
    · refine sr_pass rfl (j := 4) (d := 32) rfl rfl rfl (u := true) (v := false) rfl rfl ?_
      refine sr_pass rfl (j := 4) (d := 32) rfl rfl rfl (u := true) (v := false) rfl rfl ?_
      refine sr_pass rfl (j := 4) (d := 32) rfl rfl rfl (u := true) (v := false) rfl rfl ?_
      refine sr_pass rfl (j := 4) (d := 32) rfl rfl rfl (u := true) (v := false) rfl rfl ?_
      refine sr_pass rfl (j := 4) (d := 32) rfl rfl rfl (u := true) (v := false) rfl rfl ?_
      refine sr_pass rfl (j := 4) (d := 32) rfl rfl rfl (u := true) (v := false) rfl rfl ?_
      refine sr_pass rfl (j := 4) (d := 32) rfl rfl rfl (u := true) (v := false) rfl rfl ?_
      refine sr_op rfl rfl (ow_pick (v := .bool true) rfl rfl ?_)
      exact sr_live [40, 4, 5, 6, 7] (again _ _ ⟨_, _, rfl, H, by rw [hg] <;> rfl⟩)
  rintro _ _ ⟨r, _, rfl, H, rfl⟩
  refine sr_nil ?_
  refine st_cond ((!decide (y.no = (if isNamed x.kind = true then Int.tmod (x.no - k + n) n else x.no))) || (!decide ((x.l.length : Int) = (y.l.length : Int)))) rfl (fun hc5 => ?_) (fun hc5 => ?_)
  · have hbad := hc5
    refine st_seq ?_
    refine st_region ?_
    refine sr_op rfl rfl (ow_assign (v := .bool false) rfl ?_)
    refine sr_nil ?_
    refine st_ret hb (hR _ _ (.bool false) (res_run (vs := [.bool false]) Tryd.results31 ⟨_, _, rfl, rfl, rfl⟩) ?_)
    exact ⟨_, rfl, congrArg Value.bool (by
      rw [movedX_eq]
      by_cases h1_ : y.no = (if isNamed x.kind = true then Int.tmod (x.no - k + n) n else x.no)
      · rw [movedXs_len (by
          intro h2_
          simp only [h1_, h2_, decide_true, Bool.not_true, Bool.or_self] at hbad
          exact absurd hbad (by decide)), Bool.and_false]
      · rw [decide_eq_false h1_, Bool.false_and]), (H.drop 2)⟩
  · have hgood := hc5
    obtain ⟨hg1, hg2⟩ : y.no = (if isNamed x.kind = true then Int.tmod (x.no - k + n) n else x.no) ∧ x.l.length = y.l.length := by
      simp only [Bool.or_eq_false_iff, Bool.not_eq_false', decide_eq_true_eq] at hgood
      omega
    refine st_skip ?_
    refine st_seq ?_
    refine st_seq ?_
    refine st_region ?_
    refine sr_op rfl rfl (ow_fieldAddr fd26_4 ty24 rfl rfl (r := 4) rfl ?_)
    refine sr_op rfl rfl (ow_load (v := .slice d0A4 x.l.length d0c4) ty24 H rfl 1 rfl rfl rfl rfl ?_)
    refine sr_op rfl rfl (ow_lenS sl24 rfl rfl ?_)
    refine sr_op rfl rfl (ow_move (v := .int .i64 0) rfl ?_)
    refine sr_nil ?_
    refine st_block ?_
    refine st_loop ?_
    refine st_live [4, 5, 6, 7, 43, 44] ?_
    refine st_ind (fun d_ m_ w_ => ∃ (i : Nat) (r_ : Sl), d_ = x.l.length - i ∧ m_ = (4, .pointer (some ⟨gm, 0, none⟩)) :: (5, .pointer (some ⟨g1, 0, none⟩)) :: (6, .pointer (some ⟨g2, 0, none⟩)) :: (7, .bool false) :: (43, .int .i64 (x.l.length : Int)) :: (44, .int .i64 (i : Int)) :: r_ ∧ Hp B I w_ ((g2, Ob [.int .i64 y.kind, .int .i64 y.n, .int .i64 y.no, .string y.name, .slice d1A4 y.l.length d1c4] 26) :: (g1, Ob [.int .i64 x.kind, .int .i64 x.n, .int .i64 x.no, .string x.name, .slice d0A4 x.l.length d0c4] 26) :: L) ∧ i ≤ x.l.length ∧ ∀ (i_ : Nat) a_ b_, i_ < i → x.l[i_]? = some a_ → y.l[i_]? = some b_ → movedX k n a_ b_ = true) _ ⟨0, _, rfl, rfl, H, Nat.zero_le _, by intro i_ a_ b_ h_; omega⟩ ?_
    rintro _ _ _ ⟨i, r7, rfl, rfl, H, hi, hdone⟩ ih8
    refine st_seq ?_
    refine st_region ?_
    refine sr_op rfl rfl (ow_lss rfl rfl ?_)
    refine sr_nil ?_
    refine st_seq ?_
    refine st_cond (decide ((i : Int) < (x.l.length : Int))) rfl (fun hc9 => ?_) (fun hc9 => ?_)
    · have hc9 := of_decide_eq_true hc9
      refine st_skip ?_
      refine st_seq ?_
      refine st_block ?_
      refine st_seq ?_
      refine st_region ?_
      refine sr_op rfl rfl (ow_move (v := .int .i64 (i : Int)) rfl ?_)
      refine sr_op rfl rfl (ow_assign (v := .int .i64 (i : Int)) rfl ?_)
      refine sr_nil ?_
      refine st_seq ?_
      obtain ⟨e10, he10⟩ : ∃ q_, x.l[i]? = some q_ := ⟨_, List.getElem?_eq_getElem (by omega)⟩
      obtain ⟨b10, o10, us10, hA10, hat10, hul10, hr10⟩ := RepS.get d0_4 he10
      have d10 := hr10
      obtain ⟨d10v4, rfl, d10_0, d10_1, d10_2, d10_3, d10_4⟩ := ex_iff.1 hr10
      obtain ⟨d10A4, d10c4, rfl, d10m4, d10M4, d10_4⟩ := RepS.open_ d10_4
      obtain ⟨e11, he11⟩ : ∃ q_, y.l[i]? = some q_ := ⟨_, List.getElem?_eq_getElem (by omega)⟩
      obtain ⟨b11, o11, us11, hA11, hat11, hul11, hr11⟩ := RepS.get d1_4 he11
      have d11 := hr11
      obtain ⟨d11v4, rfl, d11_0, d11_1, d11_2, d11_3, d11_4⟩ := ex_iff.1 hr11
      obtain ⟨d11A4, d11c4, rfl, d11m4, d11M4, d11_4⟩ := RepS.open_ d11_4
      refine st_draw (F := (fun w_ => ∃ I2, Le I I2 ∧ Hp B I2 w_ [(g2, Ob [.int .i64 y.kind, .int .i64 y.n, .int .i64 y.no, .string y.name, .slice d1A4 y.l.length d1c4] 26), (g1, Ob [.int .i64 x.kind, .int .i64 x.n, .int .i64 x.no, .string x.name, .slice d0A4 x.l.length d0c4] 26)])) (p0 := [0, 1, 2, 3, 4, 5, 6, 7, 8, 9, 10]) (plan := [(11, [12], [])]) [] [] [(57, .agg #[.int .i64 e11.kind, .int .i64 e11.n, .int .i64 e11.no, .string e11.name, .slice d11A4 e11.l.length d11c4]), (56, .pointer (some ⟨b11, o11 + i * 5, none⟩)), (55, .int .i64 (i : Int)), (54, .slice d1A4 y.l.length d1c4), (53, .pointer (some ⟨g2, 4, none⟩)), (52, .agg #[.int .i64 e10.kind, .int .i64 e10.n, .int .i64 e10.no, .string e10.name, .slice d10A4 e10.l.length d10c4]), (51, .pointer (some ⟨b10, o10 + i * 5, none⟩)), (50, .int .i64 (i : Int)), (49, .slice d0A4 x.l.length d0c4), (48, .pointer (some ⟨g1, 4, none⟩)), (47, .func (.func 31) #[] #[.pointer (some ⟨gk, 0, none⟩), .pointer (some ⟨gn, 0, none⟩), .pointer (some ⟨gm, 0, none⟩)])] (by kernel_rfl) rfl ?_ ⟨_, Le.refl _, H.drew.pick [0, 1] (by decide)⟩ ?_
      · refine ⟨kn_op rfl rfl (wantB_none rfl) fun _ hF2 => ?_, ?_⟩
        · obtain ⟨_, hle2, H2⟩ := hF2
          refine  (ow_loadI (v := .func (.func 31) #[] #[.pointer (some ⟨gk, 0, none⟩), .pointer (some ⟨gn, 0, none⟩), .pointer (some ⟨gm, 0, none⟩)]) ty48 H2 rfl (At.mono hle2 hgm) rfl rfl rfl ?_)
          exact ⟨rfl, rfl⟩
        refine ⟨kn_op rfl rfl (wantB_none rfl) fun _ hF2 => ?_, ?_⟩
        · obtain ⟨_, hle2, H2⟩ := hF2
          refine  (ow_fieldAddr fd26_4 ty24 rfl rfl (r := 4) rfl ?_)
          exact ⟨rfl, rfl⟩
        refine ⟨kn_op rfl rfl (wantB_none rfl) fun _ hF2 => ?_, ?_⟩
        · obtain ⟨_, hle2, H2⟩ := hF2
          refine  (ow_load (v := .slice d0A4 x.l.length d0c4) ty24 H2 rfl 1 rfl rfl rfl rfl ?_)
          exact ⟨rfl, rfl⟩
        refine ⟨kn_op rfl rfl (wantB_none rfl) fun _ hF2 => ?_, ?_⟩
        · obtain ⟨_, hle2, H2⟩ := hF2
          refine  (ow_move (v := .int .i64 (i : Int)) rfl ?_)
          exact ⟨rfl, rfl⟩
        refine ⟨kn_op rfl rfl (wantB_none rfl) fun _ hF2 => ?_, ?_⟩
        · obtain ⟨_, hle2, H2⟩ := hF2
          refine  (ow_indexAddrA sl24 ty26 hA10 rfl rfl (by omega) (by omega) (r := o10 + i * 5) rfl ?_)
          exact ⟨rfl, rfl⟩
        refine ⟨kn_op rfl rfl (wantB_none rfl) fun _ hF2 => ?_, ?_⟩
        · obtain ⟨_, hle2, H2⟩ := hF2
          refine  (ow_loadI (v := .agg #[.int .i64 e10.kind, .int .i64 e10.n, .int .i64 e10.no, .string e10.name, .slice d10A4 e10.l.length d10c4]) ty26 H2 rfl (At.mono hle2 hat10) rfl rfl rfl ?_)
          exact ⟨rfl, rfl⟩
        refine ⟨kn_op rfl rfl (wantB_none rfl) fun _ hF2 => ?_, ?_⟩
        · obtain ⟨_, hle2, H2⟩ := hF2
          refine  (ow_fieldAddr fd26_4 ty24 rfl rfl (r := 4) rfl ?_)
          exact ⟨rfl, rfl⟩
        refine ⟨kn_op rfl rfl (wantB_none rfl) fun _ hF2 => ?_, ?_⟩
        · obtain ⟨_, hle2, H2⟩ := hF2
          refine  (ow_load (v := .slice d1A4 y.l.length d1c4) ty24 H2 rfl 0 rfl rfl rfl rfl ?_)
          exact ⟨rfl, rfl⟩
        refine ⟨kn_op rfl rfl (wantB_none rfl) fun _ hF2 => ?_, ?_⟩
        · obtain ⟨_, hle2, H2⟩ := hF2
          refine  (ow_move (v := .int .i64 (i : Int)) rfl ?_)
          exact ⟨rfl, rfl⟩
        refine ⟨kn_op rfl rfl (wantB_none rfl) fun _ hF2 => ?_, ?_⟩
        · obtain ⟨_, hle2, H2⟩ := hF2
          refine  (ow_indexAddrA sl24 ty26 hA11 rfl rfl (by omega) (by omega) (r := o11 + i * 5) rfl ?_)
          exact ⟨rfl, rfl⟩
        refine ⟨kn_op rfl rfl (wantB_none rfl) fun _ hF2 => ?_, ?_⟩
        · obtain ⟨_, hle2, H2⟩ := hF2
          refine  (ow_loadI (v := .agg #[.int .i64 e11.kind, .int .i64 e11.n, .int .i64 e11.no, .string e11.name, .slice d11A4 e11.l.length d11c4]) ty26 H2 rfl (At.mono hle2 hat11) rfl rfl rfl ?_)
          exact ⟨rfl, rfl⟩
        exact trivial
      have H := H.drew
      refine cw_op rfl (wantB_none rfl) (ow_callV en31 (first := []) (cap := [.pointer (some ⟨gk, 0, none⟩), .pointer (some ⟨gn, 0, none⟩), .pointer (some ⟨gm, 0, none⟩)]) rfl rfl (ih (x := e10) (y := e11) (by have := Ex.pc_at he10; omega) (by omega) (hlc _ _ he10) H d10 d11 hgk hgn hgm) ?_)
      rintro _ _ ⟨rfl, H⟩
      refine af_some [(59, .bool (!(movedX k n e10 e11)))] (fun w_ => ∃ I2, Le I I2 ∧ Hp B I2 w_ [(g2, Ob [.int .i64 y.kind, .int .i64 y.n, .int .i64 y.no, .string y.name, .slice d1A4 y.l.length d1c4] 26), (g1, Ob [.int .i64 x.kind, .int .i64 x.n, .int .i64 x.no, .string x.name, .slice d0A4 x.l.length d0c4] 26)]) rfl ⟨_, Le.refl _, H.pick [0, 1] (by decide)⟩ ?_ ?_
      · refine ⟨kn_op rfl rfl (wantB_none rfl) fun _ hF2 => ?_, ?_⟩
        · obtain ⟨_, hle2, H2⟩ := hF2
          refine  (ow_not rfl ?_)
          exact ⟨rfl, rfl⟩
        exact trivial
      refine cw_nil ?_
      refine st_cond (!(movedX k n e10 e11)) rfl (fun hc12 => ?_) (fun hc12 => ?_)
      · have hmv := bnt hc12
        refine st_seq ?_
        refine st_region ?_
        refine sr_op rfl rfl (ow_assign (v := .bool false) rfl ?_)
        refine sr_nil ?_
        refine st_ret hb (hR _ _ (.bool false) (res_run (vs := [.bool false]) Tryd.results31 ⟨_, _, rfl, rfl, rfl⟩) ?_)
        exact ⟨_, rfl, congrArg Value.bool (by rw [movedX_eq, movedXs_no he10 he11 hmv, Bool.and_false]), (H.drop 2)⟩
      · have hmv := bnf hc12
        refine st_skip ?_
        refine st_inBlock ?_
        refine st_region ?_
        refine sr_op rfl rfl (ow_add (r := ((i + 1 : Nat) : Int)) rfl rfl (inc_i64 (by omega)) ?_)
        refine sr_op rfl rfl (ow_move (v := .int .i64 ((i + 1 : Nat) : Int)) rfl ?_)
        refine sr_nil ?_
        exact st_inLoop (st_live [4, 5, 6, 7, 43, 44] (ih8 _ _ _ (by omega) ⟨i + 1, _, rfl, rfl, H, by omega, by
            intro i_ a_ b_ h_ ha_ hb_
            by_cases e_ : i_ = i
            · subst e_
              rw [he10] at ha_
              rw [he11] at hb_
              cases ha_
              cases hb_
              exact hmv
            · exact hdone i_ a_ b_ (by omega) ha_ hb_⟩))
    · have hc9 := of_decide_eq_false hc9
      refine st_exit rfl ?_
      refine st_seq ?_
      refine st_region ?_
      refine sr_op rfl rfl (ow_assign (v := .bool true) rfl ?_)
      refine sr_nil ?_
      refine st_ret hb (hR _ _ (.bool true) (res_run (vs := [.bool true]) Tryd.results31 ⟨_, _, rfl, rfl, rfl⟩) ?_)
      exact ⟨_, rfl, congrArg Value.bool (by rw [movedX_eq, decide_eq_true hg1, movedXs_all hg2 (fun i_ a_ b_ ha_ hb_ => hdone i_ a_ b_ (by have := (List.getElem?_eq_some_iff.1 ha_).1; omega) ha_ hb_)]; rfl), (H.drop 2)⟩
end Go.Proofs.YtbbflenaeihmeaaDoor
