/-
  Walks: the statement PoliciesMoved, part 2.
-/
import Derived.Test.YtbbflenaeihmeaaDoorP26
set_option linter.unusedVariables false
set_option linter.unusedSimpArgs false
set_option maxRecDepth 10000
set_option maxHeartbeats 4000000
namespace Go.Proofs.YtbbflenaeihmeaaDoor
open Go Go.RowKit

theorem RepS.len' {α : Type} {enc : α → List Dat} {I : Im} {sz n : Nat} {l : List α} {A : Option Addr} {c : Nat} (hr : RepS enc I sz l (.slice A n c)) : n = l.length := by
  obtain ⟨A', c', h, _⟩ := RepS.open_ hr
  injection h
theorem guard3 {a b c : Bool} (h : ((!a || !b) || c) = false) : a = true ∧ b = true ∧ c = false := by
  cases a <;> cases b <;> cases c <;> simp_all
theorem moved_ok {B I L w} (H : Hp B I w L) {off : List ByteArray} {k : Nat} (hn : off.Nodup) (hk : k < off.length) (hl : off.length ≤ 32) {gk gn gm : Nat} {x y : Ex} {us ws : List Value} (hpc : x.pc ≤ 1000000) (h1 : allX (offG off) x = true) (h2 : allX (resG off) x = true) (hy0 : y = resolveX (rot k off) x)
    (hx : RepL I (encEx x) us) (hy : RepL I (encEx y) ws) (hgk : At I gk 0 [.int .i64 (k : Int)]) (hgn : At I gn 0 [.int .i64 (off.length : Int)]) (hgm : At I gm 0 [.func (.func 31) #[] #[.pointer (some ⟨gk, 0, none⟩), .pointer (some ⟨gn, 0, none⟩), .pointer (some ⟨gm, 0, none⟩)]]) :
    Calls Tryd.prog 31 #[.agg us.toArray, .agg ws.toArray, .pointer (some ⟨gk, 0, none⟩), .pointer (some ⟨gn, 0, none⟩), .pointer (some ⟨gm, 0, none⟩)] w (Rt fun r w' => r = .bool true ∧ Hp B I w' L) := by
  have h := moved1_c (k := (k : Int)) (n := (off.length : Int)) (by omega) (by omega) (by omega) (by omega) 1000000 hpc (Nat.le_refl _) (low_of (by omega) x h2) H hx hy hgk hgn hgm
  rw [hy0, moved_resolve hn hk x h1 h2] at h
  exact h
theorem PoliciesMoved_c {B I L w} (H : Hp B I w L) {p : Po} {us : List Value} (hp : RepL I (encPo p) us) (hkd : At I 0 0 kindsV) (turn : Int) (ht : 0 ≤ turn ∧ turn ≤ 255) : Calls Tryd.prog 7 #[.agg us.toArray, .int .u8 turn] w (Rt fun r w' => r = .bool true ∧ Hp B I w' L) := by
  have d0 := hp
  obtain ⟨d0v1, d0v2, d0v3, d0v8, rfl, d0_0, d0_1, d0_2, d0_3, d0_4, d0_5, d0_6, d0_7, d0_8, d0_9⟩ := po_iff.1 hp
  obtain ⟨d0A1, d0c1, rfl, d0m1, d0M1, d0_1⟩ := RepS.open_ d0_1
  obtain ⟨d0A2, d0c2, rfl, d0m2, d0M2, d0_2⟩ := RepS.open_ d0_2
  obtain ⟨d0A3, d0c3, rfl, d0m3, d0M3, d0_3⟩ := RepS.open_ d0_3
  obtain ⟨d0A8, d0c8, rfl, d0m8, d0M8, d0_8⟩ := RepS.open_ d0_8
  refine calls_st (n := 113) Tryd.func7 rfl rfl rfl ?_
  intro G bF cs hb hfn hR hP
  simp only [ini]
  refine st_seq ?_
  refine st_region ?_
  refine sr_op rfl rfl (ow_box H (v := .agg #[.string p.name, .slice d0A1 p.kinds.length d0c1, .slice d0A2 p.offices.length d0c2, .slice d0A3 p.rules.length d0c3, .int .i64 p.change.kind, .int .i64 p.change.n, .int .i64 p.change.no, .string p.change.name, .slice d0A8 p.change.l.length d0c8, .int .i64 p.mode]) rfl [.string p.name, .slice d0A1 p.kinds.length d0c1, .slice d0A2 p.offices.length d0c2, .slice d0A3 p.rules.length d0c3, .int .i64 p.change.kind, .int .i64 p.change.n, .int .i64 p.change.no, .string p.change.name, .slice d0A8 p.change.l.length d0c8, .int .i64 p.mode] rfl (fun g1 _ H => ?_))
  refine sr_op rfl rfl (ow_assign (v := .bool false) rfl ?_)
  refine sr_nil ?_
  refine st_seq ?_
  refine st_seq ?_
  refine st_region ?_
  refine sr_op rfl rfl (ow_call en17 rfl (sane_c H hkd) ?_)
  rintro _ _ ⟨rfl, H⟩
  refine sr_op rfl rfl (ow_not rfl ?_)
  refine sr_nil ?_
  refine st_no rfl ?_
  refine st_skip ?_
  refine st_seq ?_
  refine st_seq ?_
  refine st_region ?_
  refine sr_op rfl rfl (ow_load (v := .agg #[.string p.name, .slice d0A1 p.kinds.length d0c1, .slice d0A2 p.offices.length d0c2, .slice d0A3 p.rules.length d0c3, .int .i64 p.change.kind, .int .i64 p.change.n, .int .i64 p.change.no, .string p.change.name, .slice d0A8 p.change.l.length d0c8, .int .i64 p.mode]) ty28 H rfl 0 rfl rfl rfl rfl ?_)
  refine sr_op rfl rfl (ow_call en18 rfl (Few_c H d0) ?_)
  rintro _ _ ⟨rfl, H⟩
  refine sr_op rfl rfl (ow_not rfl ?_)
  refine sr_op rfl rfl (ow_move (v := .bool (!(fewB p))) rfl ?_)
  refine sr_cut 4 (fun m_ w_ => ∃ (r_ : Sl) (v_ : Bool), m_ = (22, .bool v_) :: (1, .int .u8 turn) :: (2, .pointer (some ⟨g1, 0, none⟩)) :: (4, .bool false) :: r_ ∧ Hp B I w_ ((g1, Ob [.string p.name, .slice d0A1 p.kinds.length d0c1, .slice d0A2 p.offices.length d0c2, .slice d0A3 p.rules.length d0c3, .int .i64 p.change.kind, .int .i64 p.change.n, .int .i64 p.change.no, .string p.change.name, .slice d0A8 p.change.l.length d0c8, .int .i64 p.mode] 28) :: L) ∧ v_ = ((!(fewB p)) || (!decide (checkE p = 0)))) (fun again => ?_) ?_
  · rcases hg : !(fewB p) with _ | _
    · refine sr_want rfl (j := 3) (d := 18) rfl rfl rfl (v := false) rfl rfl (ow_load (v := .agg #[.string p.name, .slice d0A1 p.kinds.length d0c1, .slice d0A2 p.offices.length d0c2, .slice d0A3 p.rules.length d0c3, .int .i64 p.change.kind, .int .i64 p.change.n, .int .i64 p.change.no, .string p.change.name, .slice d0A8 p.change.l.length d0c8, .int .i64 p.mode]) ty28 H rfl 0 rfl rfl rfl rfl ?_)
      refine sr_want rfl (j := 3) (d := 18) rfl rfl rfl (v := false) rfl rfl (ow_call en22 rfl (Check_c H d0 hkd) ?_)
      rintro _ _ ⟨rfl, H⟩
      refine sr_want rfl (j := 3) (d := 18) rfl rfl rfl (v := false) rfl rfl (ow_neq rfl rfl ?_)
      refine sr_op rfl rfl (ow_pick (v := .bool (!decide (checkE p = 0))) rfl rfl ?_)
      exact sr_live [22, 1, 2, 4] (again _ _ ⟨_, _, rfl, H, by rw [hg] <;> rfl⟩)
    · refine sr_pass rfl (j := 3) (d := 18) rfl rfl rfl (u := true) (v := false) rfl rfl ?_
      refine sr_pass rfl (j := 3) (d := 18) rfl rfl rfl (u := true) (v := false) rfl rfl ?_
      refine sr_pass rfl (j := 3) (d := 18) rfl rfl rfl (u := true) (v := false) rfl rfl ?_
      refine sr_op rfl rfl (ow_pick (v := .bool true) rfl rfl ?_)
      exact sr_live [22, 1, 2, 4] (again _ _ ⟨_, _, rfl, H, by rw [hg] <;> rfl⟩)
  rintro _ _ ⟨r, _, rfl, H, rfl⟩
  refine sr_op rfl rfl (ow_move (v := .bool ((!(fewB p)) || (!decide (checkE p = 0)))) rfl ?_)
  refine sr_cut 5 (fun m_ w_ => ∃ (r_ : Sl) (v_ : Bool), m_ = (28, .bool v_) :: (1, .int .u8 turn) :: (2, .pointer (some ⟨g1, 0, none⟩)) :: (4, .bool false) :: r_ ∧ Hp B I w_ ((g1, Ob [.string p.name, .slice d0A1 p.kinds.length d0c1, .slice d0A2 p.offices.length d0c2, .slice d0A3 p.rules.length d0c3, .int .i64 p.change.kind, .int .i64 p.change.n, .int .i64 p.change.no, .string p.change.name, .slice d0A8 p.change.l.length d0c8, .int .i64 p.mode] 28) :: L) ∧ v_ = (((!(fewB p)) || (!decide (checkE p = 0))) || (decide ((p.offices.length : Int) = 0)))) (fun again => ?_) ?_
  · rcases hg : (!(fewB p)) || (!decide (checkE p = 0)) with _ | _
    · refine sr_want rfl (j := 8) (d := 23) rfl rfl rfl (v := false) rfl rfl (ow_fieldAddr fd28_2 ty22 rfl rfl (r := 2) rfl ?_)
      refine sr_want rfl (j := 8) (d := 23) rfl rfl rfl (v := false) rfl rfl (ow_load (v := .slice d0A2 p.offices.length d0c2) ty22 H rfl 0 rfl rfl rfl rfl ?_)
      refine sr_want rfl (j := 8) (d := 23) rfl rfl rfl (v := false) rfl rfl (ow_lenS sl22 rfl rfl ?_)
      refine sr_want rfl (j := 8) (d := 23) rfl rfl rfl (v := false) rfl rfl (ow_eql rfl rfl ?_)
      refine sr_op rfl rfl (ow_pick (v := .bool (decide ((p.offices.length : Int) = 0))) rfl rfl ?_)
      exact sr_live [28, 1, 2, 4] (again _ _ ⟨_, _, rfl, H, by rw [hg] <;> rfl⟩)
    · refine sr_pass rfl (j := 8) (d := 23) rfl rfl rfl (u := true) (v := false) rfl rfl ?_
      refine sr_pass rfl (j := 8) (d := 23) rfl rfl rfl (u := true) (v := false) rfl rfl ?_
      refine sr_pass rfl (j := 8) (d := 23) rfl rfl rfl (u := true) (v := false) rfl rfl ?_
      refine sr_pass rfl (j := 8) (d := 23) rfl rfl rfl (u := true) (v := false) rfl rfl ?_
      refine sr_op rfl rfl (ow_pick (v := .bool true) rfl rfl ?_)
      exact sr_live [28, 1, 2, 4] (again _ _ ⟨_, _, rfl, H, by rw [hg] <;> rfl⟩)
  rintro _ _ ⟨r, _, rfl, H, rfl⟩
  refine sr_nil ?_
  refine st_cond (((!(fewB p)) || (!decide (checkE p = 0))) || (decide ((p.offices.length : Int) = 0))) rfl (fun hc2 => ?_) (fun hc2 => ?_)
  · refine st_seq ?_
    refine st_region ?_
    refine sr_op rfl rfl (ow_assign (v := .bool true) rfl ?_)
    refine sr_nil ?_
    refine st_ret hb (hR _ _ (.bool true) (res_run (vs := [.bool true]) Tryd.results7 ⟨_, _, rfl, rfl, rfl⟩) ?_)
    exact ⟨_, rfl, rfl, (H.drop 1)⟩
  · obtain ⟨hfw, hck, hne⟩ := guard3 hc2
    have hck := of_decide_eq_true hck
    have hne := of_decide_eq_false hne
    obtain ⟨hok, _⟩ := check_ok hck
    obtain ⟨hnd, hlo, hlr, hru, hc1, hc2⟩ := check_parts hck
    obtain ⟨k, hkk, hkn⟩ : ∃ k : Nat, Int.tmod turn (p.offices.length : Int) = (k : Int) ∧ k < p.offices.length := by
      rw [Int.tmod_eq_emod_of_nonneg ht.1]
      have h1_ := Int.emod_nonneg turn (show (p.offices.length : Int) ≠ 0 by omega)
      have h2_ := Int.emod_lt_of_pos turn (show (0 : Int) < (p.offices.length : Int) by omega)
      exact ⟨(turn % (p.offices.length : Int)).toNat, by omega, by omega⟩
    refine st_skip ?_
    refine st_seq ?_
    refine st_region ?_
    refine sr_op rfl rfl (ow_fieldAddr fd28_2 ty22 rfl rfl (r := 2) rfl ?_)
    refine sr_op rfl rfl (ow_load (v := .slice d0A2 p.offices.length d0c2) ty22 H rfl 0 rfl rfl rfl rfl ?_)
    refine sr_op rfl rfl (ow_lenS sl22 rfl rfl ?_)
    refine sr_op rfl rfl (ow_alloc ty3 H [.int .i64 0] rfl (fun g3 _ H => ?_))
    refine sr_op rfl rfl (ow_store ty3 H rfl (v := .int .i64 (p.offices.length : Int)) rfl [.int .i64 (p.offices.length : Int)] rfl rfl rfl 0 rfl rfl (fun _ H => ?_))
    refine sr_nil ?_
    refine st_seq ?_
    refine st_region ?_
    refine sr_op rfl rfl (ow_move (v := .int .u8 turn) rfl ?_)
    refine sr_op rfl rfl (ow_conv (cm := true) Tryd.underlying5 Tryd.underlying3 rfl (r := turn) (wrap_i64 (by omega) (by omega)) ?_)
    refine sr_op rfl rfl (ow_load (v := .int .i64 (p.offices.length : Int)) ty3 H rfl 0 rfl rfl rfl rfl ?_)
    refine sr_op rfl rfl (ow_rem rfl rfl (by omega) (r := (k : Int)) hkk ?_)
    refine sr_op rfl rfl (ow_alloc ty3 H [.int .i64 0] rfl (fun g4 _ H => ?_))
    refine sr_op rfl rfl (ow_store ty3 H rfl (v := .int .i64 (k : Int)) rfl [.int .i64 (k : Int)] rfl rfl rfl 0 rfl rfl (fun _ H => ?_))
    refine sr_nil ?_
    refine st_seq ?_
    refine st_region ?_
    refine sr_op rfl rfl (ow_load (v := .agg #[.string p.name, .slice d0A1 p.kinds.length d0c1, .slice d0A2 p.offices.length d0c2, .slice d0A3 p.rules.length d0c3, .int .i64 p.change.kind, .int .i64 p.change.n, .int .i64 p.change.no, .string p.change.name, .slice d0A8 p.change.l.length d0c8, .int .i64 p.mode]) ty28 H rfl 2 rfl rfl rfl rfl ?_)
    refine sr_op rfl rfl (ow_alloc ty28 H [.string ⟨#[]⟩, .slice none 0 0, .slice none 0 0, .slice none 0 0, .int .i64 0, .int .i64 0, .int .i64 0, .string ⟨#[]⟩, .slice none 0 0, .int .i64 0] rfl (fun g5 _ H => ?_))
    refine sr_op rfl rfl (ow_store ty28 H rfl (v := .agg #[.string p.name, .slice d0A1 p.kinds.length d0c1, .slice d0A2 p.offices.length d0c2, .slice d0A3 p.rules.length d0c3, .int .i64 p.change.kind, .int .i64 p.change.n, .int .i64 p.change.no, .string p.change.name, .slice d0A8 p.change.l.length d0c8, .int .i64 p.mode]) rfl [.string p.name, .slice d0A1 p.kinds.length d0c1, .slice d0A2 p.offices.length d0c2, .slice d0A3 p.rules.length d0c3, .int .i64 p.change.kind, .int .i64 p.change.n, .int .i64 p.change.no, .string p.change.name, .slice d0A8 p.change.l.length d0c8, .int .i64 p.mode] rfl rfl rfl 0 rfl rfl (fun _ H => ?_))
    refine sr_nil ?_
    refine st_seq ?_
    refine st_draw (F := (fun w_ => ∃ I2, Le I I2 ∧ Hp B I2 w_ [(g5, Ob [.string p.name, .slice d0A1 p.kinds.length d0c1, .slice d0A2 p.offices.length d0c2, .slice d0A3 p.rules.length d0c3, .int .i64 p.change.kind, .int .i64 p.change.n, .int .i64 p.change.no, .string p.change.name, .slice d0A8 p.change.l.length d0c8, .int .i64 p.mode] 28), (g4, Ob [.int .i64 (k : Int)] 3), (g3, Ob [.int .i64 (p.offices.length : Int)] 3), (g1, Ob [.string p.name, .slice d0A1 p.kinds.length d0c1, .slice d0A2 p.offices.length d0c2, .slice d0A3 p.rules.length d0c3, .int .i64 p.change.kind, .int .i64 p.change.n, .int .i64 p.change.no, .string p.change.name, .slice d0A8 p.change.l.length d0c8, .int .i64 p.mode] 28)])) (p0 := [1, 2, 3, 4, 6, 7, 8, 9]) (plan := [(0, [], [1, 2, 3, 4, 6, 7, 8, 9]), (5, [], [6, 7, 8, 9]), (10, [11], []), (12, [], [])]) [] [] [(46, .slice (if d0c2 = 0 then d0A2 else Option.map (fun z_ => z_.add (0 * 1)) d0A2) (k - 0) (d0c2 - 0)), (45, .int .i64 (k : Int)), (44, .slice d0A2 p.offices.length d0c2), (43, .pointer (some ⟨g1, 2, none⟩)), (41, .slice (if d0c2 = k then d0A2 else Option.map (fun z_ => z_.add (k * 1)) d0A2) (p.offices.length - k) (d0c2 - k)), (40, .int .i64 (k : Int)), (39, .slice d0A2 p.offices.length d0c2), (38, .pointer (some ⟨g1, 2, none⟩))] (by kernel_rfl) rfl ?_ ⟨_, Le.refl _, H.drew.pick [0, 1, 2, 3] (by decide)⟩ ?_
    · refine ⟨kn_op rfl rfl (wantB_none rfl) fun _ hF2 => ?_, ?_⟩
      · obtain ⟨_, hle2, H2⟩ := hF2
        refine  (ow_fieldAddr fd28_2 ty22 rfl rfl (r := 2) rfl ?_)
        exact ⟨rfl, rfl⟩
      refine ⟨kn_op rfl rfl (wantB_none rfl) fun _ hF2 => ?_, ?_⟩
      · obtain ⟨_, hle2, H2⟩ := hF2
        refine  (ow_load (v := .slice d0A2 p.offices.length d0c2) ty22 H2 rfl 3 rfl rfl rfl rfl ?_)
        exact ⟨rfl, rfl⟩
      refine ⟨kn_op rfl rfl (wantB_none rfl) fun _ hF2 => ?_, ?_⟩
      · obtain ⟨_, hle2, H2⟩ := hF2
        refine  (ow_load (v := .int .i64 (k : Int)) ty3 H2 rfl 1 rfl rfl rfl rfl ?_)
        exact ⟨rfl, rfl⟩
      refine ⟨kn_op rfl rfl (wantB_none rfl) fun _ hF2 => ?_, ?_⟩
      · obtain ⟨_, hle2, H2⟩ := hF2
        refine  (ow_cutS (a := k) (c := p.offices.length) sl22 ty9 rfl (.inr ⟨_, rfl⟩) (.inl ⟨rfl, rfl⟩) (by omega) (by omega) (by omega) ?_)
        exact ⟨rfl, rfl⟩
      refine ⟨kn_op rfl rfl (wantB_none rfl) fun _ hF2 => ?_, ?_⟩
      · obtain ⟨_, hle2, H2⟩ := hF2
        refine  (ow_fieldAddr fd28_2 ty22 rfl rfl (r := 2) rfl ?_)
        exact ⟨rfl, rfl⟩
      refine ⟨kn_op rfl rfl (wantB_none rfl) fun _ hF2 => ?_, ?_⟩
      · obtain ⟨_, hle2, H2⟩ := hF2
        refine  (ow_load (v := .slice d0A2 p.offices.length d0c2) ty22 H2 rfl 3 rfl rfl rfl rfl ?_)
        exact ⟨rfl, rfl⟩
      refine ⟨kn_op rfl rfl (wantB_none rfl) fun _ hF2 => ?_, ?_⟩
      · obtain ⟨_, hle2, H2⟩ := hF2
        refine  (ow_load (v := .int .i64 (k : Int)) ty3 H2 rfl 1 rfl rfl rfl rfl ?_)
        exact ⟨rfl, rfl⟩
      refine ⟨kn_op rfl rfl (wantB_none rfl) fun _ hF2 => ?_, ?_⟩
      · obtain ⟨_, hle2, H2⟩ := hF2
        refine  (ow_cutS (a := 0) (c := k) sl22 ty9 rfl (.inl ⟨rfl, rfl⟩) (.inr ⟨_, rfl⟩) (by omega) (by omega) (by omega) ?_)
        exact ⟨rfl, rfl⟩
      exact trivial
    have H := H.drew
    refine cw_op rfl (wantB_none rfl) (ow_buildSlice H (e := 9) (ps := []) rfl [] (fun _ => by kernel_rfl) (fun g6 _ H => ?_))
    have H : Hp B I _ ((g5, Ob [.string p.name, .slice d0A1 p.kinds.length d0c1, .slice d0A2 p.offices.length d0c2, .slice d0A3 p.rules.length d0c3, .int .i64 p.change.kind, .int .i64 p.change.n, .int .i64 p.change.no, .string p.change.name, .slice d0A8 p.change.l.length d0c8, .int .i64 p.mode] 28) :: (g4, Ob [.int .i64 (k : Int)] 3) :: (g3, Ob [.int .i64 (p.offices.length : Int)] 3) :: (g1, Ob [.string p.name, .slice d0A1 p.kinds.length d0c1, .slice d0A2 p.offices.length d0c2, .slice d0A3 p.rules.length d0c3, .int .i64 p.change.kind, .int .i64 p.change.n, .int .i64 p.change.no, .string p.change.name, .slice d0A8 p.change.l.length d0c8, .int .i64 p.mode] 28) :: (rowL (.slice (some ⟨g6, 0, none⟩) 0 0) [] 9 ++ L)) := H.perm (List.perm_middle (l₁ := [(g5, Ob [.string p.name, .slice d0A1 p.kinds.length d0c1, .slice d0A2 p.offices.length d0c2, .slice d0A3 p.rules.length d0c3, .int .i64 p.change.kind, .int .i64 p.change.n, .int .i64 p.change.no, .string p.change.name, .slice d0A8 p.change.l.length d0c8, .int .i64 p.mode] 28), (g4, Ob [.int .i64 (k : Int)] 3), (g3, Ob [.int .i64 (p.offices.length : Int)] 3), (g1, Ob [.string p.name, .slice d0A1 p.kinds.length d0c1, .slice d0A2 p.offices.length d0c2, .slice d0A3 p.rules.length d0c3, .int .i64 p.change.kind, .int .i64 p.change.n, .int .i64 p.change.no, .string p.change.name, .slice d0A8 p.change.l.length d0c8, .int .i64 p.mode] 28)]))
    have ha_ : Acc I 1 (.slice (some ⟨g6, 0, none⟩) 0 0) [] ([] : List (List Dat)) := .inr ⟨_, 0, rfl, Nat.le_refl _, by omega, rfl, fun j x hx => by simp at hx⟩
    refine af_some [] (fun w_ => ∃ I2, Le I I2 ∧ Hp B I2 w_ [(g5, Ob [.string p.name, .slice d0A1 p.kinds.length d0c1, .slice d0A2 p.offices.length d0c2, .slice d0A3 p.rules.length d0c3, .int .i64 p.change.kind, .int .i64 p.change.n, .int .i64 p.change.no, .string p.change.name, .slice d0A8 p.change.l.length d0c8, .int .i64 p.mode] 28), (g4, Ob [.int .i64 (k : Int)] 3), (g3, Ob [.int .i64 (p.offices.length : Int)] 3), (g1, Ob [.string p.name, .slice d0A1 p.kinds.length d0c1, .slice d0A2 p.offices.length d0c2, .slice d0A3 p.rules.length d0c3, .int .i64 p.change.kind, .int .i64 p.change.n, .int .i64 p.change.no, .string p.change.name, .slice d0A8 p.change.l.length d0c8, .int .i64 p.mode] 28)]) rfl ⟨_, Le.refl _, H.pick [0, 1, 2, 3] (by decide)⟩ ?_ ?_
    · refine ⟨kn_op rfl rfl (wantB_none rfl) fun _ hF2 => ?_, ?_⟩
      · obtain ⟨_, hle2, H2⟩ := hF2
        refine  (ow_fieldAddr fd28_2 ty22 rfl rfl (r := 2) rfl ?_)
        exact ⟨rfl, rfl⟩
      refine ⟨kn_op rfl rfl (wantB_none rfl) fun _ hF2 => ?_, ?_⟩
      · obtain ⟨_, hle2, H2⟩ := hF2
        refine  (ow_load (v := .slice d0A2 p.offices.length d0c2) ty22 H2 rfl 3 rfl rfl rfl rfl ?_)
        exact ⟨rfl, rfl⟩
      refine ⟨kn_op rfl rfl (wantB_none rfl) fun _ hF2 => ?_, ?_⟩
      · obtain ⟨_, hle2, H2⟩ := hF2
        refine  (ow_load (v := .int .i64 (k : Int)) ty3 H2 rfl 1 rfl rfl rfl rfl ?_)
        exact ⟨rfl, rfl⟩
      refine ⟨kn_op rfl rfl (wantB_none rfl) fun _ hF2 => ?_, ?_⟩
      · obtain ⟨_, hle2, H2⟩ := hF2
        refine  (ow_cutS (a := k) (c := p.offices.length) sl22 ty9 rfl (.inr ⟨_, rfl⟩) (.inl ⟨rfl, rfl⟩) (by omega) (by omega) (by omega) ?_)
        exact ⟨rfl, rfl⟩
      refine ⟨kn_op rfl rfl (wantB_none rfl) fun _ hF2 => ?_, ?_⟩
      · obtain ⟨_, hle2, H2⟩ := hF2
        refine  (ow_fieldAddr fd28_2 ty22 rfl rfl (r := 2) rfl ?_)
        exact ⟨rfl, rfl⟩
      refine ⟨kn_op rfl rfl (wantB_none rfl) fun _ hF2 => ?_, ?_⟩
      · obtain ⟨_, hle2, H2⟩ := hF2
        refine  (ow_load (v := .slice d0A2 p.offices.length d0c2) ty22 H2 rfl 3 rfl rfl rfl rfl ?_)
        exact ⟨rfl, rfl⟩
      refine ⟨kn_op rfl rfl (wantB_none rfl) fun _ hF2 => ?_, ?_⟩
      · obtain ⟨_, hle2, H2⟩ := hF2
        refine  (ow_load (v := .int .i64 (k : Int)) ty3 H2 rfl 1 rfl rfl rfl rfl ?_)
        exact ⟨rfl, rfl⟩
      refine ⟨kn_op rfl rfl (wantB_none rfl) fun _ hF2 => ?_, ?_⟩
      · obtain ⟨_, hle2, H2⟩ := hF2
        refine  (ow_cutS (a := 0) (c := k) sl22 ty9 rfl (.inl ⟨rfl, rfl⟩) (.inr ⟨_, rfl⟩) (by omega) (by omega) (by omega) ?_)
        exact ⟨rfl, rfl⟩
      exact trivial
    obtain ⟨bo_, oo_, hAo_⟩ := RepS.some_ d0_2 (by omega)
    refine cw_op rfl (wantB_none rfl) (ow_appendS (l := (p.offices.drop k)) (enc := encS) sl22 ty9 rfl rfl [(g5, Ob [.string p.name, .slice d0A1 p.kinds.length d0c1, .slice d0A2 p.offices.length d0c2, .slice d0A3 p.rules.length d0c3, .int .i64 p.change.kind, .int .i64 p.change.n, .int .i64 p.change.no, .string p.change.name, .slice d0A8 p.change.l.length d0c8, .int .i64 p.mode] 28), (g4, Ob [.int .i64 (k : Int)] 3), (g3, Ob [.int .i64 (p.offices.length : Int)] 3), (g1, Ob [.string p.name, .slice d0A1 p.kinds.length d0c1, .slice d0A2 p.offices.length d0c2, .slice d0A3 p.rules.length d0c3, .int .i64 p.change.kind, .int .i64 p.change.n, .int .i64 p.change.no, .string p.change.name, .slice d0A8 p.change.l.length d0c8, .int .i64 p.mode] 28)] (v := .slice (some ⟨g6, 0, none⟩) 0 0) (cs := []) (L := L) H ha_ rfl rfl (b := bo_) (o := oo_ + k * 1) (by rw [if_neg (by omega), hAo_, Option.map_some, add_mk]) (by first | omega | (simp only [List.length_drop, List.length_take]; omega) | (simp only [List.length_drop, List.length_take])) (by have h_ := RepS.cut d0_2 k p.offices.length (by omega) (by omega); rw [List.take_of_length_le (by omega)] at h_; exact h_) (fun _ _ => rfl) (by first | omega | (simp only [List.length_map, List.length_append, List.length_drop, List.length_nil]; omega) | (simp; omega)) (by first | omega | (simp only [List.length_map, List.length_append, List.length_drop, List.length_nil]; omega) | (simp; omega)) (fun va7 cs7 _ H ha_ => ?_))
    obtain ⟨Aa7, na7, ca7, rfl⟩ := Acc.form ha_
    refine af_some [] (fun w_ => ∃ I2, Le I I2 ∧ Hp B I2 w_ [(g5, Ob [.string p.name, .slice d0A1 p.kinds.length d0c1, .slice d0A2 p.offices.length d0c2, .slice d0A3 p.rules.length d0c3, .int .i64 p.change.kind, .int .i64 p.change.n, .int .i64 p.change.no, .string p.change.name, .slice d0A8 p.change.l.length d0c8, .int .i64 p.mode] 28), (g4, Ob [.int .i64 (k : Int)] 3), (g3, Ob [.int .i64 (p.offices.length : Int)] 3), (g1, Ob [.string p.name, .slice d0A1 p.kinds.length d0c1, .slice d0A2 p.offices.length d0c2, .slice d0A3 p.rules.length d0c3, .int .i64 p.change.kind, .int .i64 p.change.n, .int .i64 p.change.no, .string p.change.name, .slice d0A8 p.change.l.length d0c8, .int .i64 p.mode] 28)]) rfl ⟨_, Le.refl _, H.pick [0, 1, 2, 3] (by decide)⟩ ?_ ?_
    · refine ⟨kn_op rfl rfl (wantB_none rfl) fun _ hF2 => ?_, ?_⟩
      · obtain ⟨_, hle2, H2⟩ := hF2
        refine  (ow_fieldAddr fd28_2 ty22 rfl rfl (r := 2) rfl ?_)
        exact ⟨rfl, rfl⟩
      refine ⟨kn_op rfl rfl (wantB_none rfl) fun _ hF2 => ?_, ?_⟩
      · obtain ⟨_, hle2, H2⟩ := hF2
        refine  (ow_load (v := .slice d0A2 p.offices.length d0c2) ty22 H2 rfl 3 rfl rfl rfl rfl ?_)
        exact ⟨rfl, rfl⟩
      refine ⟨kn_op rfl rfl (wantB_none rfl) fun _ hF2 => ?_, ?_⟩
      · obtain ⟨_, hle2, H2⟩ := hF2
        refine  (ow_load (v := .int .i64 (k : Int)) ty3 H2 rfl 1 rfl rfl rfl rfl ?_)
        exact ⟨rfl, rfl⟩
      refine ⟨kn_op rfl rfl (wantB_none rfl) fun _ hF2 => ?_, ?_⟩
      · obtain ⟨_, hle2, H2⟩ := hF2
        refine  (ow_cutS (a := 0) (c := k) sl22 ty9 rfl (.inl ⟨rfl, rfl⟩) (.inr ⟨_, rfl⟩) (by omega) (by omega) (by omega) ?_)
        exact ⟨rfl, rfl⟩
      exact trivial
    refine cw_op rfl (wantB_none rfl) (ow_appendS (l := (p.offices.take k)) (enc := encS) sl22 ty9 rfl rfl [(g5, Ob [.string p.name, .slice d0A1 p.kinds.length d0c1, .slice d0A2 p.offices.length d0c2, .slice d0A3 p.rules.length d0c3, .int .i64 p.change.kind, .int .i64 p.change.n, .int .i64 p.change.no, .string p.change.name, .slice d0A8 p.change.l.length d0c8, .int .i64 p.mode] 28), (g4, Ob [.int .i64 (k : Int)] 3), (g3, Ob [.int .i64 (p.offices.length : Int)] 3), (g1, Ob [.string p.name, .slice d0A1 p.kinds.length d0c1, .slice d0A2 p.offices.length d0c2, .slice d0A3 p.rules.length d0c3, .int .i64 p.change.kind, .int .i64 p.change.n, .int .i64 p.change.no, .string p.change.name, .slice d0A8 p.change.l.length d0c8, .int .i64 p.mode] 28)] (v := .slice Aa7 na7 ca7) (cs := cs7) (L := L) H ha_ rfl rfl (b := bo_) (o := oo_ + 0 * 1) (by rw [if_neg (by omega), hAo_, Option.map_some, add_mk]) (by first | omega | (simp only [List.length_drop, List.length_take]; omega) | (simp only [List.length_drop, List.length_take])) (by have h_ := RepS.cut d0_2 0 k (by omega) (by omega); rw [List.drop_zero] at h_; exact h_) (fun _ _ => rfl) (by first | omega | (simp only [List.length_map, List.length_append, List.length_drop, List.length_nil]; omega) | (simp; omega)) (by first | omega | (simp only [List.length_map, List.length_append, List.length_drop, List.length_nil]; omega) | (simp; omega)) (fun va8 cs8 _ H ha_ => ?_))
    obtain ⟨Aa8, na8, ca8, rfl⟩ := Acc.form ha_
    refine af_some [(48, .pointer (some ⟨g5, 2, none⟩))] (fun w_ => ∃ I2, Le I I2 ∧ Hp B I2 w_ [(g5, Ob [.string p.name, .slice d0A1 p.kinds.length d0c1, .slice d0A2 p.offices.length d0c2, .slice d0A3 p.rules.length d0c3, .int .i64 p.change.kind, .int .i64 p.change.n, .int .i64 p.change.no, .string p.change.name, .slice d0A8 p.change.l.length d0c8, .int .i64 p.mode] 28), (g4, Ob [.int .i64 (k : Int)] 3), (g3, Ob [.int .i64 (p.offices.length : Int)] 3), (g1, Ob [.string p.name, .slice d0A1 p.kinds.length d0c1, .slice d0A2 p.offices.length d0c2, .slice d0A3 p.rules.length d0c3, .int .i64 p.change.kind, .int .i64 p.change.n, .int .i64 p.change.no, .string p.change.name, .slice d0A8 p.change.l.length d0c8, .int .i64 p.mode] 28)]) rfl ⟨_, Le.refl _, H.pick [0, 1, 2, 3] (by decide)⟩ ?_ ?_
    · refine ⟨kn_op rfl rfl (wantB_none rfl) fun _ hF2 => ?_, ?_⟩
      · obtain ⟨_, hle2, H2⟩ := hF2
        refine  (ow_fieldAddr fd28_2 ty22 rfl rfl (r := 2) rfl ?_)
        exact ⟨rfl, rfl⟩
      exact trivial
    refine cw_op rfl (wantB_none rfl) (ow_store ty22 H rfl (v := .slice Aa8 na8 ca8) rfl [.slice Aa8 na8 ca8] rfl rfl rfl 0 rfl rfl (fun _ H => ?_))
    refine af_none ?_
    refine cw_nil ?_
    obtain ⟨Iq9, hIq9, H9, hr_⟩ := Acc.done ha_ (H.perm (rowL_back [(g5, Ob [.string p.name, .slice d0A1 p.kinds.length d0c1, .slice Aa8 na8 ca8, .slice d0A3 p.rules.length d0c3, .int .i64 p.change.kind, .int .i64 p.change.n, .int .i64 p.change.no, .string p.change.name, .slice d0A8 p.change.l.length d0c8, .int .i64 p.mode] 28), (g4, Ob [.int .i64 (k : Int)] 3), (g3, Ob [.int .i64 (p.offices.length : Int)] 3), (g1, Ob [.string p.name, .slice d0A1 p.kinds.length d0c1, .slice d0A2 p.offices.length d0c2, .slice d0A3 p.rules.length d0c3, .int .i64 p.change.kind, .int .i64 p.change.n, .int .i64 p.change.no, .string p.change.name, .slice d0A8 p.change.l.length d0c8, .int .i64 p.mode] 28)] (.slice Aa8 na8 ca8) cs8 9).symm)
    have hr_ : RepS encS Iq9 1 (rot k p.offices) (.slice Aa8 na8 ca8) := by
      unfold RepS rot
      rw [List.map_append]
      exact hr_
    obtain rfl := RepS.len' hr_
    have H : Hp B Iq9 _ ((g5, Ob [.string p.name, .slice d0A1 p.kinds.length d0c1, .slice Aa8 ((rot k p.offices).length) ca8, .slice d0A3 p.rules.length d0c3, .int .i64 p.change.kind, .int .i64 p.change.n, .int .i64 p.change.no, .string p.change.name, .slice d0A8 p.change.l.length d0c8, .int .i64 p.mode] 28) :: (g4, Ob [.int .i64 (k : Int)] 3) :: (g3, Ob [.int .i64 (p.offices.length : Int)] 3) :: (g1, Ob [.string p.name, .slice d0A1 p.kinds.length d0c1, .slice d0A2 p.offices.length d0c2, .slice d0A3 p.rules.length d0c3, .int .i64 p.change.kind, .int .i64 p.change.n, .int .i64 p.change.no, .string p.change.name, .slice d0A8 p.change.l.length d0c8, .int .i64 p.mode] 28) :: L) := H9
    refine st_seq ?_
    refine st_region ?_
    refine sr_op rfl rfl (ow_load (v := .agg #[.string p.name, .slice d0A1 p.kinds.length d0c1, .slice Aa8 ((rot k p.offices).length) ca8, .slice d0A3 p.rules.length d0c3, .int .i64 p.change.kind, .int .i64 p.change.n, .int .i64 p.change.no, .string p.change.name, .slice d0A8 p.change.l.length d0c8, .int .i64 p.mode]) ty28 H rfl 0 rfl rfl rfl rfl ?_)
    have d0_1 := (d0_1.mono hIq9)
    have d0_3 := (d0_3.mono hIq9)
    have d0_8 := (d0_8.mono hIq9)
    have hkd := (hkd.mono hIq9)
    refine sr_op rfl rfl (ow_call en19 rfl (Resolve_as H ((po_iff (p := rotP k p)).2 ⟨_, _, _, _, rfl, d0_0, d0_1, hr_, d0_3, d0_4, d0_5, d0_6, d0_7, d0_8, d0_9⟩) hkd (rot_err hok) rfl) ?_)
    rintro _ _ ⟨I9, us9, hI9, H, rfl, hr9⟩
    have d9 := hr9
    obtain ⟨d9v1, d9v2, d9v3, d9v8, rfl, d9_0, d9_1, d9_2, d9_3, d9_4, d9_5, d9_6, d9_7, d9_8, d9_9⟩ := po_iff.1 hr9
    obtain ⟨d9A1, d9c1, rfl, d9m1, d9M1, d9_1⟩ := RepS.open_ d9_1
    obtain ⟨d9A2, d9c2, rfl, d9m2, d9M2, d9_2⟩ := RepS.open_ d9_2
    obtain ⟨d9A3, d9c3, rfl, d9m3, d9M3, d9_3⟩ := RepS.openn (n := p.rules.length) d9_3 (rulesR_length _ _ _)
    obtain ⟨d9A8, d9c8, rfl, d9m8, d9M8, d9_8⟩ := RepS.open_ d9_8
    refine sr_op rfl rfl (ow_move (v := .tuple #[.agg #[.string ((resolveP (rotP k p)).name), .slice d9A1 ((resolveP (rotP k p)).kinds.length) d9c1, .slice d9A2 ((resolveP (rotP k p)).offices.length) d9c2, .slice d9A3 p.rules.length d9c3, .int .i64 ((resolveP (rotP k p)).change.kind), .int .i64 ((resolveP (rotP k p)).change.n), .int .i64 ((resolveP (rotP k p)).change.no), .string ((resolveP (rotP k p)).change.name), .slice d9A8 ((resolveP (rotP k p)).change.l.length) d9c8, .int .i64 ((resolveP (rotP k p)).mode)], .int .i64 0]) rfl ?_)
    refine sr_op rfl rfl (ow_extract (v := .agg #[.string ((resolveP (rotP k p)).name), .slice d9A1 ((resolveP (rotP k p)).kinds.length) d9c1, .slice d9A2 ((resolveP (rotP k p)).offices.length) d9c2, .slice d9A3 p.rules.length d9c3, .int .i64 ((resolveP (rotP k p)).change.kind), .int .i64 ((resolveP (rotP k p)).change.n), .int .i64 ((resolveP (rotP k p)).change.no), .string ((resolveP (rotP k p)).change.name), .slice d9A8 ((resolveP (rotP k p)).change.l.length) d9c8, .int .i64 ((resolveP (rotP k p)).mode)]) rfl rfl ?_)
    refine sr_op rfl rfl (ow_extract (v := .int .i64 0) rfl rfl ?_)
    refine sr_op rfl rfl (ow_alloc ty28 H [.string ⟨#[]⟩, .slice none 0 0, .slice none 0 0, .slice none 0 0, .int .i64 0, .int .i64 0, .int .i64 0, .string ⟨#[]⟩, .slice none 0 0, .int .i64 0] rfl (fun g10 _ H => ?_))
    refine sr_op rfl rfl (ow_store ty28 H rfl (v := .agg #[.string ((resolveP (rotP k p)).name), .slice d9A1 ((resolveP (rotP k p)).kinds.length) d9c1, .slice d9A2 ((resolveP (rotP k p)).offices.length) d9c2, .slice d9A3 p.rules.length d9c3, .int .i64 ((resolveP (rotP k p)).change.kind), .int .i64 ((resolveP (rotP k p)).change.n), .int .i64 ((resolveP (rotP k p)).change.no), .string ((resolveP (rotP k p)).change.name), .slice d9A8 ((resolveP (rotP k p)).change.l.length) d9c8, .int .i64 ((resolveP (rotP k p)).mode)]) rfl [.string ((resolveP (rotP k p)).name), .slice d9A1 ((resolveP (rotP k p)).kinds.length) d9c1, .slice d9A2 ((resolveP (rotP k p)).offices.length) d9c2, .slice d9A3 p.rules.length d9c3, .int .i64 ((resolveP (rotP k p)).change.kind), .int .i64 ((resolveP (rotP k p)).change.n), .int .i64 ((resolveP (rotP k p)).change.no), .string ((resolveP (rotP k p)).change.name), .slice d9A8 ((resolveP (rotP k p)).change.l.length) d9c8, .int .i64 ((resolveP (rotP k p)).mode)] rfl rfl rfl 0 rfl rfl (fun _ H => ?_))
    refine sr_op rfl rfl (ow_assign (v := .int .i64 0) rfl ?_)
    refine sr_nil ?_
    refine st_seq ?_
    refine st_seq ?_
    refine st_cut (fun m_ w_ => ∃ (r_ : Sl), m_ = (2, .pointer (some ⟨g1, 0, none⟩)) :: (4, .bool false) :: (5, .pointer (some ⟨g3, 0, none⟩)) :: (6, .pointer (some ⟨g4, 0, none⟩)) :: (8, .pointer (some ⟨g10, 0, none⟩)) :: (68, .bool !true) :: r_ ∧ Hp B I9 w_ ((g10, Ob [.string ((resolveP (rotP k p)).name), .slice d9A1 ((resolveP (rotP k p)).kinds.length) d9c1, .slice d9A2 ((resolveP (rotP k p)).offices.length) d9c2, .slice d9A3 p.rules.length d9c3, .int .i64 ((resolveP (rotP k p)).change.kind), .int .i64 ((resolveP (rotP k p)).change.n), .int .i64 ((resolveP (rotP k p)).change.no), .string ((resolveP (rotP k p)).change.name), .slice d9A8 ((resolveP (rotP k p)).change.l.length) d9c8, .int .i64 ((resolveP (rotP k p)).mode)] 28) :: (g5, Ob [.string p.name, .slice d0A1 p.kinds.length d0c1, .slice Aa8 ((rot k p.offices).length) ca8, .slice d0A3 p.rules.length d0c3, .int .i64 p.change.kind, .int .i64 p.change.n, .int .i64 p.change.no, .string p.change.name, .slice d0A8 p.change.l.length d0c8, .int .i64 p.mode] 28) :: (g4, Ob [.int .i64 (k : Int)] 3) :: (g3, Ob [.int .i64 (p.offices.length : Int)] 3) :: (g1, Ob [.string p.name, .slice d0A1 p.kinds.length d0c1, .slice d0A2 p.offices.length d0c2, .slice d0A3 p.rules.length d0c3, .int .i64 p.change.kind, .int .i64 p.change.n, .int .i64 p.change.no, .string p.change.name, .slice d0A8 p.change.l.length d0c8, .int .i64 p.mode] 28) :: L)) (fun again => ?_) ?_
    · refine st_draw (F := (fun w_ => ∃ I2, Le I9 I2 ∧ Hp B I2 w_ [(g10, Ob [.string ((resolveP (rotP k p)).name), .slice d9A1 ((resolveP (rotP k p)).kinds.length) d9c1, .slice d9A2 ((resolveP (rotP k p)).offices.length) d9c2, .slice d9A3 p.rules.length d9c3, .int .i64 ((resolveP (rotP k p)).change.kind), .int .i64 ((resolveP (rotP k p)).change.n), .int .i64 ((resolveP (rotP k p)).change.no), .string ((resolveP (rotP k p)).change.name), .slice d9A8 ((resolveP (rotP k p)).change.l.length) d9c8, .int .i64 ((resolveP (rotP k p)).mode)] 28), (g5, Ob [.string p.name, .slice d0A1 p.kinds.length d0c1, .slice Aa8 ((rot k p.offices).length) ca8, .slice d0A3 p.rules.length d0c3, .int .i64 p.change.kind, .int .i64 p.change.n, .int .i64 p.change.no, .string p.change.name, .slice d0A8 p.change.l.length d0c8, .int .i64 p.mode] 28), (g4, Ob [.int .i64 (k : Int)] 3), (g3, Ob [.int .i64 (p.offices.length : Int)] 3), (g1, Ob [.string p.name, .slice d0A1 p.kinds.length d0c1, .slice d0A2 p.offices.length d0c2, .slice d0A3 p.rules.length d0c3, .int .i64 p.change.kind, .int .i64 p.change.n, .int .i64 p.change.no, .string p.change.name, .slice d0A8 p.change.l.length d0c8, .int .i64 p.mode] 28)])) (p0 := [0, 1, 2, 3]) (plan := [(4, [5, 6, 7, 8, 10], []), (9, [], [10]), (11, [], []), (12, [13, 14], [])]) [] [] [(57, .agg #[.string ((resolveP (rotP k p)).name), .slice d9A1 ((resolveP (rotP k p)).kinds.length) d9c1, .slice d9A2 ((resolveP (rotP k p)).offices.length) d9c2, .slice d9A3 p.rules.length d9c3, .int .i64 ((resolveP (rotP k p)).change.kind), .int .i64 ((resolveP (rotP k p)).change.n), .int .i64 ((resolveP (rotP k p)).change.no), .string ((resolveP (rotP k p)).change.name), .slice d9A8 ((resolveP (rotP k p)).change.l.length) d9c8, .int .i64 ((resolveP (rotP k p)).mode)]), (56, .bool false), (55, .bool false), (54, .int .i64 0)] (by kernel_rfl) rfl ?_ ⟨_, Le.refl _, H.drew.pick [0, 1, 2, 3, 4] (by decide)⟩ ?_
      · refine ⟨kn_op rfl rfl (wantB_none rfl) fun _ hF2 => ?_, ?_⟩
        · obtain ⟨_, hle2, H2⟩ := hF2
          refine  (ow_move (v := .int .i64 0) rfl ?_)
          exact ⟨rfl, rfl⟩
        refine ⟨kn_op rfl rfl (wantB_none rfl) fun _ hF2 => ?_, ?_⟩
        · obtain ⟨_, hle2, H2⟩ := hF2
          refine  (ow_neq rfl rfl ?_)
          exact ⟨rfl, rfl⟩
        refine ⟨kn_op rfl rfl (wantB_none rfl) fun _ hF2 => ?_, ?_⟩
        · obtain ⟨_, hle2, H2⟩ := hF2
          refine  (ow_move (v := .bool false) rfl ?_)
          exact ⟨rfl, rfl⟩
        refine ⟨kn_op rfl rfl ((wantB_some (j := 2) rfl rfl (d := 56) rfl rfl (u := false) rfl).trans rfl) fun _ hF2 => ?_, ?_⟩
        · obtain ⟨_, hle2, H2⟩ := hF2
          refine  (ow_load (v := .agg #[.string ((resolveP (rotP k p)).name), .slice d9A1 ((resolveP (rotP k p)).kinds.length) d9c1, .slice d9A2 ((resolveP (rotP k p)).offices.length) d9c2, .slice d9A3 p.rules.length d9c3, .int .i64 ((resolveP (rotP k p)).change.kind), .int .i64 ((resolveP (rotP k p)).change.n), .int .i64 ((resolveP (rotP k p)).change.no), .string ((resolveP (rotP k p)).change.name), .slice d9A8 ((resolveP (rotP k p)).change.l.length) d9c8, .int .i64 ((resolveP (rotP k p)).mode)]) ty28 H2 rfl 0 rfl rfl rfl rfl ?_)
          exact ⟨rfl, rfl⟩
        exact trivial
      have H := H.drew
      refine cw_op rfl ((wantB_some (j := 2) rfl rfl (d := 56) rfl rfl (u := false) rfl).trans rfl) (ow_call en18 rfl (Few_as H d9 (by rw [few_resolve, rot_few]; exact hfw)) ?_)
      rintro _ _ ⟨rfl, H⟩
      refine af_some [(64, .agg #[.string p.name, .slice d0A1 p.kinds.length d0c1, .slice Aa8 ((rot k p.offices).length) ca8, .slice d0A3 p.rules.length d0c3, .int .i64 p.change.kind, .int .i64 p.change.n, .int .i64 p.change.no, .string p.change.name, .slice d0A8 p.change.l.length d0c8, .int .i64 p.mode]), (62, .agg #[.string ((resolveP (rotP k p)).name), .slice d9A1 ((resolveP (rotP k p)).kinds.length) d9c1, .slice d9A2 ((resolveP (rotP k p)).offices.length) d9c2, .slice d9A3 p.rules.length d9c3, .int .i64 ((resolveP (rotP k p)).change.kind), .int .i64 ((resolveP (rotP k p)).change.n), .int .i64 ((resolveP (rotP k p)).change.no), .string ((resolveP (rotP k p)).change.name), .slice d9A8 ((resolveP (rotP k p)).change.l.length) d9c8, .int .i64 ((resolveP (rotP k p)).mode)]), (61, .bool !true), (60, .bool !true), (59, .bool !true)] (fun w_ => ∃ I2, Le I9 I2 ∧ Hp B I2 w_ [(g10, Ob [.string ((resolveP (rotP k p)).name), .slice d9A1 ((resolveP (rotP k p)).kinds.length) d9c1, .slice d9A2 ((resolveP (rotP k p)).offices.length) d9c2, .slice d9A3 p.rules.length d9c3, .int .i64 ((resolveP (rotP k p)).change.kind), .int .i64 ((resolveP (rotP k p)).change.n), .int .i64 ((resolveP (rotP k p)).change.no), .string ((resolveP (rotP k p)).change.name), .slice d9A8 ((resolveP (rotP k p)).change.l.length) d9c8, .int .i64 ((resolveP (rotP k p)).mode)] 28), (g5, Ob [.string p.name, .slice d0A1 p.kinds.length d0c1, .slice Aa8 ((rot k p.offices).length) ca8, .slice d0A3 p.rules.length d0c3, .int .i64 p.change.kind, .int .i64 p.change.n, .int .i64 p.change.no, .string p.change.name, .slice d0A8 p.change.l.length d0c8, .int .i64 p.mode] 28), (g4, Ob [.int .i64 (k : Int)] 3), (g3, Ob [.int .i64 (p.offices.length : Int)] 3), (g1, Ob [.string p.name, .slice d0A1 p.kinds.length d0c1, .slice d0A2 p.offices.length d0c2, .slice d0A3 p.rules.length d0c3, .int .i64 p.change.kind, .int .i64 p.change.n, .int .i64 p.change.no, .string p.change.name, .slice d0A8 p.change.l.length d0c8, .int .i64 p.mode] 28)]) rfl ⟨_, Le.refl _, H.pick [0, 1, 2, 3, 4] (by decide)⟩ ?_ ?_
      · refine ⟨kn_op rfl rfl ((wantB_some (j := 2) rfl rfl (d := 56) rfl rfl (u := false) rfl).trans rfl) fun _ hF2 => ?_, ?_⟩
        · obtain ⟨_, hle2, H2⟩ := hF2
          refine  (ow_not rfl ?_)
          exact ⟨rfl, rfl⟩
        refine ⟨kn_op rfl rfl (wantB_none rfl) fun _ hF2 => ?_, ?_⟩
        · obtain ⟨_, hle2, H2⟩ := hF2
          refine  (ow_pick (v := .bool !true) rfl rfl ?_)
          exact ⟨rfl, rfl⟩
        refine ⟨kn_op rfl rfl (wantB_none rfl) fun _ hF2 => ?_, ?_⟩
        · obtain ⟨_, hle2, H2⟩ := hF2
          refine  (ow_move (v := .bool !true) rfl ?_)
          exact ⟨rfl, rfl⟩
        refine ⟨kn_op rfl rfl ((wantB_some (j := 7) rfl rfl (d := 61) rfl rfl (u := false) rfl).trans rfl) fun _ hF2 => ?_, ?_⟩
        · obtain ⟨_, hle2, H2⟩ := hF2
          refine  (ow_load (v := .agg #[.string ((resolveP (rotP k p)).name), .slice d9A1 ((resolveP (rotP k p)).kinds.length) d9c1, .slice d9A2 ((resolveP (rotP k p)).offices.length) d9c2, .slice d9A3 p.rules.length d9c3, .int .i64 ((resolveP (rotP k p)).change.kind), .int .i64 ((resolveP (rotP k p)).change.n), .int .i64 ((resolveP (rotP k p)).change.no), .string ((resolveP (rotP k p)).change.name), .slice d9A8 ((resolveP (rotP k p)).change.l.length) d9c8, .int .i64 ((resolveP (rotP k p)).mode)]) ty28 H2 rfl 0 rfl rfl rfl rfl ?_)
          exact ⟨rfl, rfl⟩
        refine ⟨kn_op rfl rfl ((wantB_some (j := 7) rfl rfl (d := 61) rfl rfl (u := false) rfl).trans rfl) fun _ hF2 => ?_, ?_⟩
        · obtain ⟨_, hle2, H2⟩ := hF2
          refine  (ow_load (v := .agg #[.string p.name, .slice d0A1 p.kinds.length d0c1, .slice Aa8 ((rot k p.offices).length) ca8, .slice d0A3 p.rules.length d0c3, .int .i64 p.change.kind, .int .i64 p.change.n, .int .i64 p.change.no, .string p.change.name, .slice d0A8 p.change.l.length d0c8, .int .i64 p.mode]) ty28 H2 rfl 1 rfl rfl rfl rfl ?_)
          exact ⟨rfl, rfl⟩
        exact trivial
      refine cw_op rfl ((wantB_some (j := 7) rfl rfl (d := 61) rfl rfl (u := false) rfl).trans rfl) (ow_call en30 rfl (bare_c H d9 (by rw [few_resolve, rot_few]; exact hfw) 0 (by constructor <;> decide)) ?_)
      rintro _ _ ⟨I11, us11, hI11, H, rfl, hr11⟩
      have d11 := hr11
      obtain ⟨d11v1, d11v2, d11v3, d11v8, rfl, d11_0, d11_1, d11_2, d11_3, d11_4, d11_5, d11_6, d11_7, d11_8, d11_9⟩ := po_iff.1 hr11
      obtain ⟨d11A1, d11c1, rfl, d11m1, d11M1, d11_1⟩ := RepS.open_ d11_1
      obtain ⟨d11A2, d11c2, rfl, d11m2, d11M2, d11_2⟩ := RepS.open_ d11_2
      obtain ⟨d11A3, d11c3, rfl, d11m3, d11M3, d11_3⟩ := RepS.open_ d11_3
      obtain ⟨d11A8, d11c8, rfl, d11m8, d11M8, d11_8⟩ := RepS.open_ d11_8
      refine af_some [] (fun w_ => ∃ I2, Le I11 I2 ∧ Hp B I2 w_ [(g10, Ob [.string ((resolveP (rotP k p)).name), .slice d9A1 ((resolveP (rotP k p)).kinds.length) d9c1, .slice d9A2 ((resolveP (rotP k p)).offices.length) d9c2, .slice d9A3 p.rules.length d9c3, .int .i64 ((resolveP (rotP k p)).change.kind), .int .i64 ((resolveP (rotP k p)).change.n), .int .i64 ((resolveP (rotP k p)).change.no), .string ((resolveP (rotP k p)).change.name), .slice d9A8 ((resolveP (rotP k p)).change.l.length) d9c8, .int .i64 ((resolveP (rotP k p)).mode)] 28), (g5, Ob [.string p.name, .slice d0A1 p.kinds.length d0c1, .slice Aa8 ((rot k p.offices).length) ca8, .slice d0A3 p.rules.length d0c3, .int .i64 p.change.kind, .int .i64 p.change.n, .int .i64 p.change.no, .string p.change.name, .slice d0A8 p.change.l.length d0c8, .int .i64 p.mode] 28), (g4, Ob [.int .i64 (k : Int)] 3), (g3, Ob [.int .i64 (p.offices.length : Int)] 3), (g1, Ob [.string p.name, .slice d0A1 p.kinds.length d0c1, .slice d0A2 p.offices.length d0c2, .slice d0A3 p.rules.length d0c3, .int .i64 p.change.kind, .int .i64 p.change.n, .int .i64 p.change.no, .string p.change.name, .slice d0A8 p.change.l.length d0c8, .int .i64 p.mode] 28)]) rfl ⟨_, Le.refl _, H.pick [0, 1, 2, 3, 4] (by decide)⟩ ?_ ?_
      · refine ⟨kn_op rfl rfl ((wantB_some (j := 7) rfl rfl (d := 61) rfl rfl (u := false) rfl).trans rfl) fun _ hF2 => ?_, ?_⟩
        · obtain ⟨_, hle2, H2⟩ := hF2
          refine  (ow_load (v := .agg #[.string p.name, .slice d0A1 p.kinds.length d0c1, .slice Aa8 ((rot k p.offices).length) ca8, .slice d0A3 p.rules.length d0c3, .int .i64 p.change.kind, .int .i64 p.change.n, .int .i64 p.change.no, .string p.change.name, .slice d0A8 p.change.l.length d0c8, .int .i64 p.mode]) ty28 H2 rfl 1 rfl rfl rfl rfl ?_)
          exact ⟨rfl, rfl⟩
        exact trivial
      have d0_1 := ((d0_1.mono hI9).mono hI11)
      have hr_ := ((hr_.mono hI9).mono hI11)
      have d0_3 := ((d0_3.mono hI9).mono hI11)
      have d0_8 := ((d0_8.mono hI9).mono hI11)
      refine cw_op rfl ((wantB_some (j := 7) rfl rfl (d := 61) rfl rfl (u := false) rfl).trans rfl) (ow_call en30 rfl (bare_c H ((po_iff (p := rotP k p)).2 ⟨_, _, _, _, rfl, d0_0, d0_1, hr_, d0_3, d0_4, d0_5, d0_6, d0_7, d0_8, d0_9⟩) (by rw [rot_few]; exact hfw) 0 (by constructor <;> decide)) ?_)
      rintro _ _ ⟨I12, us12, hI12, H, rfl, hr12⟩
      have d12 := hr12
      obtain ⟨d12v1, d12v2, d12v3, d12v8, rfl, d12_0, d12_1, d12_2, d12_3, d12_4, d12_5, d12_6, d12_7, d12_8, d12_9⟩ := po_iff.1 hr12
      obtain ⟨d12A1, d12c1, rfl, d12m1, d12M1, d12_1⟩ := RepS.open_ d12_1
      obtain ⟨d12A2, d12c2, rfl, d12m2, d12M2, d12_2⟩ := RepS.open_ d12_2
      obtain ⟨d12A3, d12c3, rfl, d12m3, d12M3, d12_3⟩ := RepS.open_ d12_3
      obtain ⟨d12A8, d12c8, rfl, d12m8, d12M8, d12_8⟩ := RepS.open_ d12_8
      refine af_none ?_
      have d11 := (d11.mono hI12)
      refine cw_op rfl ((wantB_some (j := 7) rfl rfl (d := 61) rfl rfl (u := false) rfl).trans rfl) (ow_call en21 rfl (Same_eq H d11 d12 (resolveP_bare 0 _)) ?_)
      rintro _ _ ⟨rfl, H⟩
      refine af_some [(68, .bool !true), (67, .bool !true)] (fun w_ => ∃ I2, Le I12 I2 ∧ Hp B I2 w_ [(g10, Ob [.string ((resolveP (rotP k p)).name), .slice d9A1 ((resolveP (rotP k p)).kinds.length) d9c1, .slice d9A2 ((resolveP (rotP k p)).offices.length) d9c2, .slice d9A3 p.rules.length d9c3, .int .i64 ((resolveP (rotP k p)).change.kind), .int .i64 ((resolveP (rotP k p)).change.n), .int .i64 ((resolveP (rotP k p)).change.no), .string ((resolveP (rotP k p)).change.name), .slice d9A8 ((resolveP (rotP k p)).change.l.length) d9c8, .int .i64 ((resolveP (rotP k p)).mode)] 28), (g5, Ob [.string p.name, .slice d0A1 p.kinds.length d0c1, .slice Aa8 ((rot k p.offices).length) ca8, .slice d0A3 p.rules.length d0c3, .int .i64 p.change.kind, .int .i64 p.change.n, .int .i64 p.change.no, .string p.change.name, .slice d0A8 p.change.l.length d0c8, .int .i64 p.mode] 28), (g4, Ob [.int .i64 (k : Int)] 3), (g3, Ob [.int .i64 (p.offices.length : Int)] 3), (g1, Ob [.string p.name, .slice d0A1 p.kinds.length d0c1, .slice d0A2 p.offices.length d0c2, .slice d0A3 p.rules.length d0c3, .int .i64 p.change.kind, .int .i64 p.change.n, .int .i64 p.change.no, .string p.change.name, .slice d0A8 p.change.l.length d0c8, .int .i64 p.mode] 28)]) rfl ⟨_, Le.refl _, H.pick [0, 1, 2, 3, 4] (by decide)⟩ ?_ ?_
      · refine ⟨kn_op rfl rfl ((wantB_some (j := 7) rfl rfl (d := 61) rfl rfl (u := false) rfl).trans rfl) fun _ hF2 => ?_, ?_⟩
        · obtain ⟨_, hle2, H2⟩ := hF2
          refine  (ow_not rfl ?_)
          exact ⟨rfl, rfl⟩
        refine ⟨kn_op rfl rfl (wantB_none rfl) fun _ hF2 => ?_, ?_⟩
        · obtain ⟨_, hle2, H2⟩ := hF2
          refine  (ow_pick (v := .bool !true) rfl rfl ?_)
          exact ⟨rfl, rfl⟩
        exact trivial
      refine cw_nil ?_
      exact st_live [2, 4, 5, 6, 8, 68] (again _ _ ⟨_, rfl, (Hp.back H (hI11.trans hI12))⟩)
    rintro _ _ ⟨r13, rfl, H⟩
    refine st_no rfl ?_
    refine st_skip ?_
    refine st_seq ?_
    refine st_region ?_
    refine sr_op rfl rfl (ow_alloc ty48 H [.nilFunc] rfl (fun g14 _ H => ?_))
    refine sr_nil ?_
    refine st_seq ?_
    refine st_region ?_
    refine sr_op rfl rfl (ow_makeFunc (fv := []) (cv := [.pointer (some ⟨g4, 0, none⟩), .pointer (some ⟨g3, 0, none⟩), .pointer (some ⟨g14, 0, none⟩)]) rfl rfl ?_)
    refine sr_op rfl rfl (ow_store ty48 H rfl (v := .func (.func 31) #[] #[.pointer (some ⟨g4, 0, none⟩), .pointer (some ⟨g3, 0, none⟩), .pointer (some ⟨g14, 0, none⟩)]) rfl [.func (.func 31) #[] #[.pointer (some ⟨g4, 0, none⟩), .pointer (some ⟨g3, 0, none⟩), .pointer (some ⟨g14, 0, none⟩)]] rfl rfl rfl 0 rfl rfl (fun _ H => ?_))
    obtain ⟨I15, hI15, H, hat15⟩ := freeze_at (L' := (g14, Ob [.func (.func 31) #[] #[.pointer (some ⟨g4, 0, none⟩), .pointer (some ⟨g3, 0, none⟩), .pointer (some ⟨g14, 0, none⟩)]] 48) :: (g10, Ob [.string ((resolveP (rotP k p)).name), .slice d9A1 ((resolveP (rotP k p)).kinds.length) d9c1, .slice d9A2 ((resolveP (rotP k p)).offices.length) d9c2, .slice d9A3 p.rules.length d9c3, .int .i64 ((resolveP (rotP k p)).change.kind), .int .i64 ((resolveP (rotP k p)).change.n), .int .i64 ((resolveP (rotP k p)).change.no), .string ((resolveP (rotP k p)).change.name), .slice d9A8 ((resolveP (rotP k p)).change.l.length) d9c8, .int .i64 ((resolveP (rotP k p)).mode)] 28) :: (g5, Ob [.string p.name, .slice d0A1 p.kinds.length d0c1, .slice Aa8 ((rot k p.offices).length) ca8, .slice d0A3 p.rules.length d0c3, .int .i64 p.change.kind, .int .i64 p.change.n, .int .i64 p.change.no, .string p.change.name, .slice d0A8 p.change.l.length d0c8, .int .i64 p.mode] 28) :: (g3, Ob [.int .i64 (p.offices.length : Int)] 3) :: (g1, Ob [.string p.name, .slice d0A1 p.kinds.length d0c1, .slice d0A2 p.offices.length d0c2, .slice d0A3 p.rules.length d0c3, .int .i64 p.change.kind, .int .i64 p.change.n, .int .i64 p.change.no, .string p.change.name, .slice d0A8 p.change.l.length d0c8, .int .i64 p.mode] 28) :: L) 3 rfl H rfl
    obtain ⟨I16, hI16, H, hat16⟩ := freeze_at (L' := (g14, Ob [.func (.func 31) #[] #[.pointer (some ⟨g4, 0, none⟩), .pointer (some ⟨g3, 0, none⟩), .pointer (some ⟨g14, 0, none⟩)]] 48) :: (g10, Ob [.string ((resolveP (rotP k p)).name), .slice d9A1 ((resolveP (rotP k p)).kinds.length) d9c1, .slice d9A2 ((resolveP (rotP k p)).offices.length) d9c2, .slice d9A3 p.rules.length d9c3, .int .i64 ((resolveP (rotP k p)).change.kind), .int .i64 ((resolveP (rotP k p)).change.n), .int .i64 ((resolveP (rotP k p)).change.no), .string ((resolveP (rotP k p)).change.name), .slice d9A8 ((resolveP (rotP k p)).change.l.length) d9c8, .int .i64 ((resolveP (rotP k p)).mode)] 28) :: (g5, Ob [.string p.name, .slice d0A1 p.kinds.length d0c1, .slice Aa8 ((rot k p.offices).length) ca8, .slice d0A3 p.rules.length d0c3, .int .i64 p.change.kind, .int .i64 p.change.n, .int .i64 p.change.no, .string p.change.name, .slice d0A8 p.change.l.length d0c8, .int .i64 p.mode] 28) :: (g1, Ob [.string p.name, .slice d0A1 p.kinds.length d0c1, .slice d0A2 p.offices.length d0c2, .slice d0A3 p.rules.length d0c3, .int .i64 p.change.kind, .int .i64 p.change.n, .int .i64 p.change.no, .string p.change.name, .slice d0A8 p.change.l.length d0c8, .int .i64 p.mode] 28) :: L) 3 rfl H rfl
    obtain ⟨I17, hI17, H, hat17⟩ := freeze_at (L' := (g10, Ob [.string ((resolveP (rotP k p)).name), .slice d9A1 ((resolveP (rotP k p)).kinds.length) d9c1, .slice d9A2 ((resolveP (rotP k p)).offices.length) d9c2, .slice d9A3 p.rules.length d9c3, .int .i64 ((resolveP (rotP k p)).change.kind), .int .i64 ((resolveP (rotP k p)).change.n), .int .i64 ((resolveP (rotP k p)).change.no), .string ((resolveP (rotP k p)).change.name), .slice d9A8 ((resolveP (rotP k p)).change.l.length) d9c8, .int .i64 ((resolveP (rotP k p)).mode)] 28) :: (g5, Ob [.string p.name, .slice d0A1 p.kinds.length d0c1, .slice Aa8 ((rot k p.offices).length) ca8, .slice d0A3 p.rules.length d0c3, .int .i64 p.change.kind, .int .i64 p.change.n, .int .i64 p.change.no, .string p.change.name, .slice d0A8 p.change.l.length d0c8, .int .i64 p.mode] 28) :: (g1, Ob [.string p.name, .slice d0A1 p.kinds.length d0c1, .slice d0A2 p.offices.length d0c2, .slice d0A3 p.rules.length d0c3, .int .i64 p.change.kind, .int .i64 p.change.n, .int .i64 p.change.no, .string p.change.name, .slice d0A8 p.change.l.length d0c8, .int .i64 p.mode] 28) :: L) 0 rfl H rfl
    refine sr_nil ?_
    refine st_seq ?_
    refine st_seq ?_
    refine st_region ?_
    refine sr_op rfl rfl (ow_fieldAddr fd28_3 ty23 rfl rfl (r := 3) rfl ?_)
    refine sr_op rfl rfl (ow_load (v := .slice d0A3 p.rules.length d0c3) ty23 H rfl 2 rfl rfl rfl rfl ?_)
    refine sr_op rfl rfl (ow_lenS sl23 rfl rfl ?_)
    refine sr_op rfl rfl (ow_move (v := .int .i64 0) rfl ?_)
    refine sr_nil ?_
    refine st_block ?_
    refine st_loop ?_
    refine st_live [2, 4, 8, 10, 71, 72, 73] ?_
    refine st_ind (fun d_ m_ w_ => ∃ (i : Nat) (r_ : Sl), d_ = p.rules.length - i ∧ m_ = (2, .pointer (some ⟨g1, 0, none⟩)) :: (4, .bool false) :: (8, .pointer (some ⟨g10, 0, none⟩)) :: (10, .pointer (some ⟨g14, 0, none⟩)) :: (71, .slice d0A3 p.rules.length d0c3) :: (72, .int .i64 (p.rules.length : Int)) :: (73, .int .i64 (i : Int)) :: r_ ∧ Hp B I17 w_ ((g10, Ob [.string ((resolveP (rotP k p)).name), .slice d9A1 ((resolveP (rotP k p)).kinds.length) d9c1, .slice d9A2 ((resolveP (rotP k p)).offices.length) d9c2, .slice d9A3 p.rules.length d9c3, .int .i64 ((resolveP (rotP k p)).change.kind), .int .i64 ((resolveP (rotP k p)).change.n), .int .i64 ((resolveP (rotP k p)).change.no), .string ((resolveP (rotP k p)).change.name), .slice d9A8 ((resolveP (rotP k p)).change.l.length) d9c8, .int .i64 ((resolveP (rotP k p)).mode)] 28) :: (g5, Ob [.string p.name, .slice d0A1 p.kinds.length d0c1, .slice Aa8 ((rot k p.offices).length) ca8, .slice d0A3 p.rules.length d0c3, .int .i64 p.change.kind, .int .i64 p.change.n, .int .i64 p.change.no, .string p.change.name, .slice d0A8 p.change.l.length d0c8, .int .i64 p.mode] 28) :: (g1, Ob [.string p.name, .slice d0A1 p.kinds.length d0c1, .slice d0A2 p.offices.length d0c2, .slice d0A3 p.rules.length d0c3, .int .i64 p.change.kind, .int .i64 p.change.n, .int .i64 p.change.no, .string p.change.name, .slice d0A8 p.change.l.length d0c8, .int .i64 p.mode] 28) :: L) ∧ i ≤ p.rules.length) _ ⟨0, _, rfl, rfl, H, Nat.zero_le _⟩ ?_
    rintro _ _ _ ⟨i, r19, rfl, rfl, H, hi⟩ ih20
    refine st_seq ?_
    refine st_region ?_
    refine sr_op rfl rfl (ow_lss rfl rfl ?_)
    refine sr_nil ?_
    refine st_seq ?_
    refine st_cond (decide ((i : Int) < (p.rules.length : Int))) rfl (fun hc21 => ?_) (fun hc21 => ?_)
    · have hc21 := of_decide_eq_true hc21
      refine st_skip ?_
      refine st_seq ?_
      refine st_block ?_
      refine st_seq ?_
      refine st_region ?_
      refine sr_op rfl rfl (ow_move (v := .int .i64 (i : Int)) rfl ?_)
      have d0_3 := ((((d0_3.mono hI9).mono hI15).mono hI16).mono hI17)
      obtain ⟨e22, he22⟩ : ∃ q_, p.rules[i]? = some q_ := ⟨_, List.getElem?_eq_getElem (by omega)⟩
      obtain ⟨b22, o22, us22, hA22, hat22, hul22, hr22⟩ := RepS.get d0_3 he22
      have d22 := hr22
      obtain ⟨d22v7, rfl, d22_0, d22_1, d22_2, d22_3, d22_4, d22_5, d22_6, d22_7⟩ := ru_iff.1 hr22
      obtain ⟨d22A7, d22c7, rfl, d22m7, d22M7, d22_7⟩ := RepS.open_ d22_7
      refine sr_op rfl rfl (ow_indexAddrA sl23 ty43 hA22 rfl rfl (by omega) (by omega) (r := o22 + i * 8) rfl ?_)
      refine sr_op rfl rfl (ow_loadI (v := .agg #[.string e22.kind, .int .i64 e22.kindNo, .int .i64 e22.think, .int .i64 e22.expr.kind, .int .i64 e22.expr.n, .int .i64 e22.expr.no, .string e22.expr.name, .slice d22A7 e22.expr.l.length d22c7]) ty43 H rfl hat22 rfl rfl rfl ?_)
      refine sr_op rfl rfl (ow_alloc ty43 H [.string ⟨#[]⟩, .int .i64 0, .int .i64 0, .int .i64 0, .int .i64 0, .int .i64 0, .string ⟨#[]⟩, .slice none 0 0] rfl (fun g23 _ H => ?_))
      refine sr_op rfl rfl (ow_assign (v := .int .i64 (i : Int)) rfl ?_)
      refine sr_op rfl rfl (ow_store ty43 H rfl (v := .agg #[.string e22.kind, .int .i64 e22.kindNo, .int .i64 e22.think, .int .i64 e22.expr.kind, .int .i64 e22.expr.n, .int .i64 e22.expr.no, .string e22.expr.name, .slice d22A7 e22.expr.l.length d22c7]) rfl [.string e22.kind, .int .i64 e22.kindNo, .int .i64 e22.think, .int .i64 e22.expr.kind, .int .i64 e22.expr.n, .int .i64 e22.expr.no, .string e22.expr.name, .slice d22A7 e22.expr.l.length d22c7] rfl rfl rfl 0 rfl rfl (fun _ H => ?_))
      refine sr_nil ?_
      refine st_seq ?_
      refine st_cut (fun m_ w_ => ∃ (r_ : Sl), m_ = (2, .pointer (some ⟨g1, 0, none⟩)) :: (4, .bool false) :: (8, .pointer (some ⟨g10, 0, none⟩)) :: (10, .pointer (some ⟨g14, 0, none⟩)) :: (71, .slice d0A3 p.rules.length d0c3) :: (72, .int .i64 (p.rules.length : Int)) :: (73, .int .i64 (i : Int)) :: (105, .bool !true) :: r_ ∧ Hp B I17 w_ ((g23, Ob [.string e22.kind, .int .i64 e22.kindNo, .int .i64 e22.think, .int .i64 e22.expr.kind, .int .i64 e22.expr.n, .int .i64 e22.expr.no, .string e22.expr.name, .slice d22A7 e22.expr.l.length d22c7] 43) :: (g10, Ob [.string ((resolveP (rotP k p)).name), .slice d9A1 ((resolveP (rotP k p)).kinds.length) d9c1, .slice d9A2 ((resolveP (rotP k p)).offices.length) d9c2, .slice d9A3 p.rules.length d9c3, .int .i64 ((resolveP (rotP k p)).change.kind), .int .i64 ((resolveP (rotP k p)).change.n), .int .i64 ((resolveP (rotP k p)).change.no), .string ((resolveP (rotP k p)).change.name), .slice d9A8 ((resolveP (rotP k p)).change.l.length) d9c8, .int .i64 ((resolveP (rotP k p)).mode)] 28) :: (g5, Ob [.string p.name, .slice d0A1 p.kinds.length d0c1, .slice Aa8 ((rot k p.offices).length) ca8, .slice d0A3 p.rules.length d0c3, .int .i64 p.change.kind, .int .i64 p.change.n, .int .i64 p.change.no, .string p.change.name, .slice d0A8 p.change.l.length d0c8, .int .i64 p.mode] 28) :: (g1, Ob [.string p.name, .slice d0A1 p.kinds.length d0c1, .slice d0A2 p.offices.length d0c2, .slice d0A3 p.rules.length d0c3, .int .i64 p.change.kind, .int .i64 p.change.n, .int .i64 p.change.no, .string p.change.name, .slice d0A8 p.change.l.length d0c8, .int .i64 p.mode] 28) :: L)) (fun again => ?_) ?_
      · have d9_3 := (((d9_3.mono hI15).mono hI16).mono hI17)
        have he24 := (by have h_ := rulesR_at (rot k p.offices) p.rules 0 he22; rw [Nat.zero_add] at h_; exact h_ : (resolveP (rotP k p)).rules[i]? = some (ruR (rot k p.offices) i e22))
        obtain ⟨b24, o24, us24, hA24, hat24, hul24, hr24⟩ := RepS.getn (rulesR_length _ _ _) d9_3 he24
        have d24 := hr24
        obtain ⟨d24v7, rfl, d24_0, d24_1, d24_2, d24_3, d24_4, d24_5, d24_6, d24_7⟩ := ru_iff.1 hr24
        obtain ⟨d24A7, d24c7, rfl, d24m7, d24M7, d24_7⟩ := RepS.open_ d24_7
        refine st_draw (F := (fun w_ => ∃ I2, Le I17 I2 ∧ Hp B I2 w_ [(g23, Ob [.string e22.kind, .int .i64 e22.kindNo, .int .i64 e22.think, .int .i64 e22.expr.kind, .int .i64 e22.expr.n, .int .i64 e22.expr.no, .string e22.expr.name, .slice d22A7 e22.expr.l.length d22c7] 43), (g10, Ob [.string ((resolveP (rotP k p)).name), .slice d9A1 ((resolveP (rotP k p)).kinds.length) d9c1, .slice d9A2 ((resolveP (rotP k p)).offices.length) d9c2, .slice d9A3 p.rules.length d9c3, .int .i64 ((resolveP (rotP k p)).change.kind), .int .i64 ((resolveP (rotP k p)).change.n), .int .i64 ((resolveP (rotP k p)).change.no), .string ((resolveP (rotP k p)).change.name), .slice d9A8 ((resolveP (rotP k p)).change.l.length) d9c8, .int .i64 ((resolveP (rotP k p)).mode)] 28), (g5, Ob [.string p.name, .slice d0A1 p.kinds.length d0c1, .slice Aa8 ((rot k p.offices).length) ca8, .slice d0A3 p.rules.length d0c3, .int .i64 p.change.kind, .int .i64 p.change.n, .int .i64 p.change.no, .string p.change.name, .slice d0A8 p.change.l.length d0c8, .int .i64 p.mode] 28), (g1, Ob [.string p.name, .slice d0A1 p.kinds.length d0c1, .slice d0A2 p.offices.length d0c2, .slice d0A3 p.rules.length d0c3, .int .i64 p.change.kind, .int .i64 p.change.n, .int .i64 p.change.no, .string p.change.name, .slice d0A8 p.change.l.length d0c8, .int .i64 p.mode] 28)])) (p0 := [0, 1, 2, 3, 4, 5, 6, 7, 8, 9, 10, 11, 12, 13, 14, 15, 16, 17, 18, 19, 20, 21, 22, 23, 24]) (plan := [(25, [26, 27], [])]) [] [] [(102, .agg #[.int .i64 ((ruR (rot k p.offices) i e22).expr.kind), .int .i64 ((ruR (rot k p.offices) i e22).expr.n), .int .i64 ((ruR (rot k p.offices) i e22).expr.no), .string ((ruR (rot k p.offices) i e22).expr.name), .slice d24A7 ((ruR (rot k p.offices) i e22).expr.l.length) d24c7]), (101, .pointer (some ⟨b24, o24 + i * 8 + 3, none⟩)), (100, .pointer (some ⟨b24, o24 + i * 8, none⟩)), (99, .int .i64 (i : Int)), (98, .slice d9A3 p.rules.length d9c3), (97, .pointer (some ⟨g10, 3, none⟩)), (96, .agg #[.int .i64 e22.expr.kind, .int .i64 e22.expr.n, .int .i64 e22.expr.no, .string e22.expr.name, .slice d22A7 e22.expr.l.length d22c7]), (95, .pointer (some ⟨g23, 3, none⟩)), (94, .func (.func 31) #[] #[.pointer (some ⟨g4, 0, none⟩), .pointer (some ⟨g3, 0, none⟩), .pointer (some ⟨g14, 0, none⟩)]), (93, .bool (!decide ((i : Int) = (i : Int)))), (92, .bool (!decide ((i : Int) = (i : Int)))), (91, .bool (!decide ((i : Int) = (i : Int)))), (90, .int .i64 (i : Int)), (89, .int .i64 (i : Int)), (88, .pointer (some ⟨b24, o24 + i * 8 + 1, none⟩)), (87, .pointer (some ⟨b24, o24 + i * 8, none⟩)), (86, .int .i64 (i : Int)), (85, .slice d9A3 p.rules.length d9c3), (84, .pointer (some ⟨g10, 3, none⟩)), (83, .bool (decide ((p.rules.length : Int) ≤ (i : Int)))), (82, .bool (decide ((p.rules.length : Int) ≤ (i : Int)))), (81, .int .i64 (p.rules.length : Int)), (80, .slice d9A3 p.rules.length d9c3), (79, .pointer (some ⟨g10, 3, none⟩)), (78, .int .i64 (i : Int))] (by kernel_rfl) rfl ?_ ⟨_, Le.refl _, H.drew.pick [0, 1, 2, 3] (by decide)⟩ ?_
        · refine ⟨kn_op rfl rfl (wantB_none rfl) fun _ hF2 => ?_, ?_⟩
          · obtain ⟨_, hle2, H2⟩ := hF2
            refine  (ow_move (v := .int .i64 (i : Int)) rfl ?_)
            exact ⟨rfl, rfl⟩
          refine ⟨kn_op rfl rfl (wantB_none rfl) fun _ hF2 => ?_, ?_⟩
          · obtain ⟨_, hle2, H2⟩ := hF2
            refine  (ow_fieldAddr fd28_3 ty23 rfl rfl (r := 3) rfl ?_)
            exact ⟨rfl, rfl⟩
          refine ⟨kn_op rfl rfl (wantB_none rfl) fun _ hF2 => ?_, ?_⟩
          · obtain ⟨_, hle2, H2⟩ := hF2
            refine  (ow_load (v := .slice d9A3 p.rules.length d9c3) ty23 H2 rfl 1 rfl rfl rfl rfl ?_)
            exact ⟨rfl, rfl⟩
          refine ⟨kn_op rfl rfl (wantB_none rfl) fun _ hF2 => ?_, ?_⟩
          · obtain ⟨_, hle2, H2⟩ := hF2
            refine  (ow_lenS sl23 rfl rfl ?_)
            exact ⟨rfl, rfl⟩
          refine ⟨kn_op rfl rfl (wantB_none rfl) fun _ hF2 => ?_, ?_⟩
          · obtain ⟨_, hle2, H2⟩ := hF2
            refine  (ow_geq rfl rfl ?_)
            exact ⟨rfl, rfl⟩
          refine ⟨kn_op rfl rfl (wantB_none rfl) fun _ hF2 => ?_, ?_⟩
          · obtain ⟨_, hle2, H2⟩ := hF2
            refine  (ow_move (v := .bool (decide ((p.rules.length : Int) ≤ (i : Int)))) rfl ?_)
            exact ⟨rfl, rfl⟩
          refine ⟨kn_op rfl rfl ((wantB_some (j := 5) rfl rfl (d := 83) rfl rfl (u := false) (by exact congrArg Value.bool (decide_eq_false (by omega)))).trans rfl) fun _ hF2 => ?_, ?_⟩
          · obtain ⟨_, hle2, H2⟩ := hF2
            refine  (ow_fieldAddr fd28_3 ty23 rfl rfl (r := 3) rfl ?_)
            exact ⟨rfl, rfl⟩
          refine ⟨kn_op rfl rfl ((wantB_some (j := 5) rfl rfl (d := 83) rfl rfl (u := false) (by exact congrArg Value.bool (decide_eq_false (by omega)))).trans rfl) fun _ hF2 => ?_, ?_⟩
          · obtain ⟨_, hle2, H2⟩ := hF2
            refine  (ow_load (v := .slice d9A3 p.rules.length d9c3) ty23 H2 rfl 1 rfl rfl rfl rfl ?_)
            exact ⟨rfl, rfl⟩
          refine ⟨kn_op rfl rfl ((wantB_some (j := 5) rfl rfl (d := 83) rfl rfl (u := false) (by exact congrArg Value.bool (decide_eq_false (by omega)))).trans rfl) fun _ hF2 => ?_, ?_⟩
          · obtain ⟨_, hle2, H2⟩ := hF2
            refine  (ow_move (v := .int .i64 (i : Int)) rfl ?_)
            exact ⟨rfl, rfl⟩
          refine ⟨kn_op rfl rfl ((wantB_some (j := 5) rfl rfl (d := 83) rfl rfl (u := false) (by exact congrArg Value.bool (decide_eq_false (by omega)))).trans rfl) fun _ hF2 => ?_, ?_⟩
          · obtain ⟨_, hle2, H2⟩ := hF2
            refine  (ow_indexAddrA sl23 ty43 hA24 rfl rfl (by omega) (by omega) (r := o24 + i * 8) rfl ?_)
            exact ⟨rfl, rfl⟩
          refine ⟨kn_op rfl rfl ((wantB_some (j := 5) rfl rfl (d := 83) rfl rfl (u := false) (by exact congrArg Value.bool (decide_eq_false (by omega)))).trans rfl) fun _ hF2 => ?_, ?_⟩
          · obtain ⟨_, hle2, H2⟩ := hF2
            refine  (ow_fieldAddr fd43_1 ty3 rfl rfl (r := o24 + i * 8 + 1) rfl ?_)
            exact ⟨rfl, rfl⟩
          refine ⟨kn_op rfl rfl ((wantB_some (j := 5) rfl rfl (d := 83) rfl rfl (u := false) (by exact congrArg Value.bool (decide_eq_false (by omega)))).trans rfl) fun _ hF2 => ?_, ?_⟩
          · obtain ⟨_, hle2, H2⟩ := hF2
            refine  (ow_loadI (v := .int .i64 (i : Int)) ty3 H2 rfl (At.mono hle2 (At.sub (vs := [.int .i64 (i : Int)]) hat24 1 rfl)) rfl rfl rfl ?_)
            exact ⟨rfl, rfl⟩
          refine ⟨kn_op rfl rfl ((wantB_some (j := 5) rfl rfl (d := 83) rfl rfl (u := false) (by exact congrArg Value.bool (decide_eq_false (by omega)))).trans rfl) fun _ hF2 => ?_, ?_⟩
          · obtain ⟨_, hle2, H2⟩ := hF2
            refine  (ow_move (v := .int .i64 (i : Int)) rfl ?_)
            exact ⟨rfl, rfl⟩
          refine ⟨kn_op rfl rfl ((wantB_some (j := 5) rfl rfl (d := 83) rfl rfl (u := false) (by exact congrArg Value.bool (decide_eq_false (by omega)))).trans rfl) fun _ hF2 => ?_, ?_⟩
          · obtain ⟨_, hle2, H2⟩ := hF2
            refine  (ow_neq rfl rfl ?_)
            exact ⟨rfl, rfl⟩
          refine ⟨kn_op rfl rfl (wantB_none rfl) fun _ hF2 => ?_, ?_⟩
          · obtain ⟨_, hle2, H2⟩ := hF2
            refine  (ow_pick (a := false) (v := .bool (!decide ((i : Int) = (i : Int)))) (congrArg Value.bool (decide_eq_false (by omega))) rfl ?_)
            exact ⟨rfl, rfl⟩
          refine ⟨kn_op rfl rfl (wantB_none rfl) fun _ hF2 => ?_, ?_⟩
          · obtain ⟨_, hle2, H2⟩ := hF2
            refine  (ow_move (v := .bool (!decide ((i : Int) = (i : Int)))) rfl ?_)
            exact ⟨rfl, rfl⟩
          refine ⟨kn_op rfl rfl ((wantB_some (j := 15) rfl rfl (d := 93) rfl rfl (u := false) (by exact congrArg Value.bool (congrArg (a₂ := true) not (decide_eq_true rfl)))).trans rfl) fun _ hF2 => ?_, ?_⟩
          · obtain ⟨_, hle2, H2⟩ := hF2
            refine  (ow_loadI (v := .func (.func 31) #[] #[.pointer (some ⟨g4, 0, none⟩), .pointer (some ⟨g3, 0, none⟩), .pointer (some ⟨g14, 0, none⟩)]) ty48 H2 rfl (At.mono hle2 hat17) rfl rfl rfl ?_)
            exact ⟨rfl, rfl⟩
          refine ⟨kn_op rfl rfl ((wantB_some (j := 15) rfl rfl (d := 93) rfl rfl (u := false) (by exact congrArg Value.bool (congrArg (a₂ := true) not (decide_eq_true rfl)))).trans rfl) fun _ hF2 => ?_, ?_⟩
          · obtain ⟨_, hle2, H2⟩ := hF2
            refine  (ow_fieldAddr fd43_3 ty26 rfl rfl (r := 3) rfl ?_)
            exact ⟨rfl, rfl⟩
          refine ⟨kn_op rfl rfl ((wantB_some (j := 15) rfl rfl (d := 93) rfl rfl (u := false) (by exact congrArg Value.bool (congrArg (a₂ := true) not (decide_eq_true rfl)))).trans rfl) fun _ hF2 => ?_, ?_⟩
          · obtain ⟨_, hle2, H2⟩ := hF2
            refine  (ow_load (v := .agg #[.int .i64 e22.expr.kind, .int .i64 e22.expr.n, .int .i64 e22.expr.no, .string e22.expr.name, .slice d22A7 e22.expr.l.length d22c7]) ty26 H2 rfl 0 rfl rfl rfl rfl ?_)
            exact ⟨rfl, rfl⟩
          refine ⟨kn_op rfl rfl ((wantB_some (j := 15) rfl rfl (d := 93) rfl rfl (u := false) (by exact congrArg Value.bool (congrArg (a₂ := true) not (decide_eq_true rfl)))).trans rfl) fun _ hF2 => ?_, ?_⟩
          · obtain ⟨_, hle2, H2⟩ := hF2
            refine  (ow_fieldAddr fd28_3 ty23 rfl rfl (r := 3) rfl ?_)
            exact ⟨rfl, rfl⟩
          refine ⟨kn_op rfl rfl ((wantB_some (j := 15) rfl rfl (d := 93) rfl rfl (u := false) (by exact congrArg Value.bool (congrArg (a₂ := true) not (decide_eq_true rfl)))).trans rfl) fun _ hF2 => ?_, ?_⟩
          · obtain ⟨_, hle2, H2⟩ := hF2
            refine  (ow_load (v := .slice d9A3 p.rules.length d9c3) ty23 H2 rfl 1 rfl rfl rfl rfl ?_)
            exact ⟨rfl, rfl⟩
          refine ⟨kn_op rfl rfl ((wantB_some (j := 15) rfl rfl (d := 93) rfl rfl (u := false) (by exact congrArg Value.bool (congrArg (a₂ := true) not (decide_eq_true rfl)))).trans rfl) fun _ hF2 => ?_, ?_⟩
          · obtain ⟨_, hle2, H2⟩ := hF2
            refine  (ow_move (v := .int .i64 (i : Int)) rfl ?_)
            exact ⟨rfl, rfl⟩
          refine ⟨kn_op rfl rfl ((wantB_some (j := 15) rfl rfl (d := 93) rfl rfl (u := false) (by exact congrArg Value.bool (congrArg (a₂ := true) not (decide_eq_true rfl)))).trans rfl) fun _ hF2 => ?_, ?_⟩
          · obtain ⟨_, hle2, H2⟩ := hF2
            refine  (ow_indexAddrA sl23 ty43 hA24 rfl rfl (by omega) (by omega) (r := o24 + i * 8) rfl ?_)
            exact ⟨rfl, rfl⟩
          refine ⟨kn_op rfl rfl ((wantB_some (j := 15) rfl rfl (d := 93) rfl rfl (u := false) (by exact congrArg Value.bool (congrArg (a₂ := true) not (decide_eq_true rfl)))).trans rfl) fun _ hF2 => ?_, ?_⟩
          · obtain ⟨_, hle2, H2⟩ := hF2
            refine  (ow_fieldAddr fd43_3 ty26 rfl rfl (r := o24 + i * 8 + 3) rfl ?_)
            exact ⟨rfl, rfl⟩
          refine ⟨kn_op rfl rfl ((wantB_some (j := 15) rfl rfl (d := 93) rfl rfl (u := false) (by exact congrArg Value.bool (congrArg (a₂ := true) not (decide_eq_true rfl)))).trans rfl) fun _ hF2 => ?_, ?_⟩
          · obtain ⟨_, hle2, H2⟩ := hF2
            refine  (ow_loadI (v := .agg #[.int .i64 ((ruR (rot k p.offices) i e22).expr.kind), .int .i64 ((ruR (rot k p.offices) i e22).expr.n), .int .i64 ((ruR (rot k p.offices) i e22).expr.no), .string ((ruR (rot k p.offices) i e22).expr.name), .slice d24A7 ((ruR (rot k p.offices) i e22).expr.l.length) d24c7]) ty26 H2 rfl (At.mono hle2 (At.sub (vs := [.int .i64 ((ruR (rot k p.offices) i e22).expr.kind), .int .i64 ((ruR (rot k p.offices) i e22).expr.n), .int .i64 ((ruR (rot k p.offices) i e22).expr.no), .string ((ruR (rot k p.offices) i e22).expr.name), .slice d24A7 ((ruR (rot k p.offices) i e22).expr.l.length) d24c7]) hat24 3 rfl)) rfl rfl rfl ?_)
            exact ⟨rfl, rfl⟩
          exact trivial
        have H := H.drew
        have hat15 := ((hat15.mono hI16).mono hI17)
        have hat16 := (hat16.mono hI17)
        refine cw_op rfl ((wantB_some (j := 15) rfl rfl (d := 93) rfl rfl (u := false) (by exact congrArg Value.bool (congrArg (a₂ := true) not (decide_eq_true rfl)))).trans rfl) (ow_callV en31 (first := []) (cap := [.pointer (some ⟨g4, 0, none⟩), .pointer (some ⟨g3, 0, none⟩), .pointer (some ⟨g14, 0, none⟩)]) rfl rfl (moved_ok H hnd hkn hlo (by have h_ := few_rule hfw he22; omega) (hru _ _ he22).1 (hru _ _ he22).2 rfl (ex_iff.2 ⟨_, rfl, d22_3, d22_4, d22_5, d22_6, d22_7⟩) (ex_iff.2 ⟨_, rfl, d24_3, d24_4, d24_5, d24_6, d24_7⟩) hat15 hat16 hat17) ?_)
        rintro _ _ ⟨rfl, H⟩
        refine af_some [(105, .bool !true), (104, .bool !true)] (fun w_ => ∃ I2, Le I17 I2 ∧ Hp B I2 w_ [(g23, Ob [.string e22.kind, .int .i64 e22.kindNo, .int .i64 e22.think, .int .i64 e22.expr.kind, .int .i64 e22.expr.n, .int .i64 e22.expr.no, .string e22.expr.name, .slice d22A7 e22.expr.l.length d22c7] 43), (g10, Ob [.string ((resolveP (rotP k p)).name), .slice d9A1 ((resolveP (rotP k p)).kinds.length) d9c1, .slice d9A2 ((resolveP (rotP k p)).offices.length) d9c2, .slice d9A3 p.rules.length d9c3, .int .i64 ((resolveP (rotP k p)).change.kind), .int .i64 ((resolveP (rotP k p)).change.n), .int .i64 ((resolveP (rotP k p)).change.no), .string ((resolveP (rotP k p)).change.name), .slice d9A8 ((resolveP (rotP k p)).change.l.length) d9c8, .int .i64 ((resolveP (rotP k p)).mode)] 28), (g5, Ob [.string p.name, .slice d0A1 p.kinds.length d0c1, .slice Aa8 ((rot k p.offices).length) ca8, .slice d0A3 p.rules.length d0c3, .int .i64 p.change.kind, .int .i64 p.change.n, .int .i64 p.change.no, .string p.change.name, .slice d0A8 p.change.l.length d0c8, .int .i64 p.mode] 28), (g1, Ob [.string p.name, .slice d0A1 p.kinds.length d0c1, .slice d0A2 p.offices.length d0c2, .slice d0A3 p.rules.length d0c3, .int .i64 p.change.kind, .int .i64 p.change.n, .int .i64 p.change.no, .string p.change.name, .slice d0A8 p.change.l.length d0c8, .int .i64 p.mode] 28)]) rfl ⟨_, Le.refl _, H.pick [0, 1, 2, 3] (by decide)⟩ ?_ ?_
        · refine ⟨kn_op rfl rfl ((wantB_some (j := 15) rfl rfl (d := 93) rfl rfl (u := false) (by exact congrArg Value.bool (congrArg (a₂ := true) not (decide_eq_true rfl)))).trans rfl) fun _ hF2 => ?_, ?_⟩
          · obtain ⟨_, hle2, H2⟩ := hF2
            refine  (ow_not rfl ?_)
            exact ⟨rfl, rfl⟩
          refine ⟨kn_op rfl rfl (wantB_none rfl) fun _ hF2 => ?_, ?_⟩
          · obtain ⟨_, hle2, H2⟩ := hF2
            refine  (ow_pick (a := false) (v := .bool !true) (congrArg Value.bool (congrArg (a₂ := true) not (decide_eq_true rfl))) rfl ?_)
            exact ⟨rfl, rfl⟩
          exact trivial
        refine cw_nil ?_
        exact st_live [2, 4, 8, 10, 71, 72, 73, 105] (again _ _ ⟨_, rfl, H⟩)
      rintro _ _ ⟨r26, rfl, H⟩
      refine st_no rfl ?_
      refine st_skip ?_
      refine st_inBlock ?_
      refine st_region ?_
      refine sr_op rfl rfl (ow_add (r := ((i + 1 : Nat) : Int)) rfl rfl (inc_i64 (by omega)) ?_)
      refine sr_op rfl rfl (ow_move (v := .int .i64 ((i + 1 : Nat) : Int)) rfl ?_)
      refine sr_nil ?_
      exact st_inLoop (st_live [2, 4, 8, 10, 71, 72, 73] (ih20 _ _ _ (by omega) ⟨i + 1, _, rfl, rfl, H.drop 1, by omega⟩))
    · have hc21 := of_decide_eq_false hc21
      refine st_exit rfl ?_
      refine st_seq ?_
      refine st_region ?_
      refine sr_op rfl rfl (ow_loadI (v := .func (.func 31) #[] #[.pointer (some ⟨g4, 0, none⟩), .pointer (some ⟨g3, 0, none⟩), .pointer (some ⟨g14, 0, none⟩)]) ty48 H rfl hat17 rfl rfl rfl ?_)
      refine sr_op rfl rfl (ow_fieldAddr fd28_4 ty26 rfl rfl (r := 4) rfl ?_)
      refine sr_op rfl rfl (ow_load (v := .agg #[.int .i64 p.change.kind, .int .i64 p.change.n, .int .i64 p.change.no, .string p.change.name, .slice d0A8 p.change.l.length d0c8]) ty26 H rfl 2 rfl rfl rfl rfl ?_)
      refine sr_op rfl rfl (ow_fieldAddr fd28_4 ty26 rfl rfl (r := 4) rfl ?_)
      refine sr_op rfl rfl (ow_load (v := .agg #[.int .i64 ((resolveP (rotP k p)).change.kind), .int .i64 ((resolveP (rotP k p)).change.n), .int .i64 ((resolveP (rotP k p)).change.no), .string ((resolveP (rotP k p)).change.name), .slice d9A8 ((resolveP (rotP k p)).change.l.length) d9c8]) ty26 H rfl 0 rfl rfl rfl rfl ?_)
      have d0_8 := ((((d0_8.mono hI9).mono hI15).mono hI16).mono hI17)
      have d9_8 := (((d9_8.mono hI15).mono hI16).mono hI17)
      have hat15 := ((hat15.mono hI16).mono hI17)
      have hat16 := (hat16.mono hI17)
      refine sr_op rfl rfl (ow_callV en31 (first := []) (cap := [.pointer (some ⟨g4, 0, none⟩), .pointer (some ⟨g3, 0, none⟩), .pointer (some ⟨g14, 0, none⟩)]) rfl rfl (moved_ok H hnd hkn hlo (by have h_ := few_change hfw; omega) hc1 hc2 rfl (ex_iff.2 ⟨_, rfl, d0_4, d0_5, d0_6, d0_7, d0_8⟩) (ex_iff.2 ⟨_, rfl, d9_4, d9_5, d9_6, d9_7, d9_8⟩) hat15 hat16 hat17) ?_)
      rintro _ _ ⟨rfl, H⟩
      refine sr_op rfl rfl (ow_assign (v := .bool true) rfl ?_)
      refine sr_nil ?_
      refine st_ret hb (hR _ _ (.bool true) (res_run (vs := [.bool true]) Tryd.results7 ⟨_, _, rfl, rfl, rfl⟩) ?_)
      exact ⟨_, rfl, rfl, (Hp.back (H.drop 3) ((((hIq9.trans hI9).trans hI15).trans hI16).trans hI17))⟩
end Go.Proofs.YtbbflenaeihmeaaDoor
