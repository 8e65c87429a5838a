/-
  Walks: the reference of policies: Force, Standing.
-/
import Derived.Test.YtbbflenaeihmeaaDoorP17
set_option linter.unusedVariables false
set_option linter.unusedSimpArgs false
set_option maxRecDepth 10000
set_option maxHeartbeats 4000000
namespace Go.Proofs.YtbbflenaeihmeaaDoor
open Go Go.RowKit

/-- be is the place of the version that s tells of; -1 where there is none. -/
def ForceAt (l : List Ve) (i : Nat) (be : Int) (s : Int × Int × Bool) : Prop :=
  (be = -1 ∧ s = (0, 0, false)) ∨ (0 ≤ be ∧ be < i ∧ ∃ y, l[be.toNat]? = some y ∧ s = (y.no, y.at_, true))
theorem force_step {at_ kn be : Int} {l : List Ve} {i : Nat} {x : Ve} {s : Int × Int × Bool} {la : Int} {c : Bool} (hb : ForceAt l i be s) (hla : la = s.2.1) (hc : (decide (x.at_ ≤ at_) && (decide (x.known ≤ kn) && (decide (be < 0) || decide (la ≤ x.at_)))) = c) :
    stStep at_ kn s x = if c = true then (x.no, x.at_, true) else s := by
  have : ((decide (x.at_ ≤ at_) && decide (x.known ≤ kn)) && (!s.2.2 || decide (s.2.1 ≤ x.at_))) = c := by
    rw [← hc, hla]
    have h2 : decide (be < 0) = !s.2.2 := by
      rcases hb with ⟨h1, h2⟩ | ⟨h1, _, y, _, h2⟩
      · rw [h1, h2]
        rfl
      · rw [h2]
        simp
        omega
    rw [h2, Bool.and_assoc]
  unfold stStep
  rw [this]
theorem Force_c {B I L w} (H : Hp B I w L) {l : List Ve} {v : Value} (hl : RepS encVe I 13 l v) (at_ kn : Int) : Calls Tryd.prog 70 #[v, .int .i64 at_, .int .i64 kn] w (Rt fun r w' => (∃ be, r = .int .i64 be ∧ ForceAt l l.length be (l.foldl (stStep at_ kn) (0, 0, false))) ∧ Hp B I w' L) := by
  obtain ⟨A, c, rfl, hlc, hcm, hl⟩ := hl.open_
  refine calls_st (n := 50) Tryd.func70 rfl rfl rfl ?_
  intro G bF cs hb hfn hR hP
  simp only [ini]
  refine st_seq ?_
  refine st_region ?_
  refine sr_op rfl rfl (ow_assign (v := .int .i64 0) rfl ?_)
  refine sr_nil ?_
  refine st_seq ?_
  refine st_region ?_
  refine sr_op rfl rfl (ow_assign (v := .int .i64 (-1)) rfl ?_)
  refine sr_nil ?_
  refine st_seq ?_
  refine st_seq ?_
  refine st_region ?_
  refine sr_op rfl rfl (ow_assign (v := .int .i64 0) rfl ?_)
  refine sr_nil ?_
  refine st_block ?_
  refine st_loop ?_
  refine st_live [0, 1, 2, 7, 8] ?_
  refine st_ind (fun d_ m_ w_ => ∃ (i : Nat) (be la : Int) (s : Int × Int × Bool) (r_ : Sl), d_ = l.length - i ∧ m_ = (0, .slice A l.length c) :: (1, .int .i64 at_) :: (2, .int .i64 kn) :: (7, .int .i64 be) :: (8, .int .i64 (i : Int)) :: r_ ∧ Hp B I w_ (L) ∧ i ≤ l.length ∧ s = (l.take i).foldl (stStep at_ kn) (0, 0, false) ∧ ForceAt l i be s ∧ la = s.2.1) _ ⟨0, -1, 0, (0, 0, false), _, rfl, rfl, H, Nat.zero_le _, rfl, .inl ⟨rfl, rfl⟩, rfl⟩ ?_
  rintro _ _ _ ⟨i, be, la, s, r1, rfl, rfl, H, hi, hs, hfo, hla⟩ ih2
  refine st_seq ?_
  refine st_seq ?_
  refine st_region ?_
  refine sr_op rfl rfl (ow_move (v := .int .i64 (i : Int)) rfl ?_)
  refine sr_op rfl rfl (ow_move (v := .slice A l.length c) rfl ?_)
  refine sr_op rfl rfl (ow_lenS sl36 rfl rfl ?_)
  refine sr_op rfl rfl (ow_lss rfl rfl ?_)
  refine sr_nil ?_
  refine st_cond (decide ((i : Int) < (l.length : Int))) rfl (fun hc3 => ?_) (fun hc3 => ?_)
  · have hc3 := of_decide_eq_true hc3
    refine st_skip ?_
    refine st_seq ?_
    refine st_block ?_
    refine st_seq ?_
    obtain ⟨x4, he4⟩ : ∃ q_, l[i]? = some q_ := ⟨_, List.getElem?_eq_getElem (by omega)⟩
    obtain ⟨b4, o4, us4, hA4, hat4, hul4, hr4⟩ := RepS.get hl he4
    obtain ⟨vs4, rfl, x4no, x4at, x4kn, x4p⟩ := ve_iff.1 hr4
    have x4p0 := x4p
    obtain ⟨v14, v24, v34, v44, rfl, x4pn, x4k, x4o, x4r, x4ck, x4cn, x4cno, x4cs, x4cl, x4pm⟩ := po_iff.1 x4p
    obtain ⟨Ak4, ck4, rfl, x4kA, x4kB, x4k⟩ := RepS.open_ x4k
    obtain ⟨Ao4, co4, rfl, x4oA, x4oB, x4o⟩ := RepS.open_ x4o
    obtain ⟨Ar4, cr4, rfl, x4rA, x4rB, x4r⟩ := RepS.open_ x4r
    obtain ⟨Acl4, ccl4, rfl, x4clA, x4clB, x4cl⟩ := RepS.open_ x4cl
    refine st_cut (fun m_ w_ => ∃ (r_ : Sl) (v47_ : Bool), m_ = (0, .slice A l.length c) :: (1, .int .i64 at_) :: (2, .int .i64 kn) :: (7, .int .i64 be) :: (8, .int .i64 (i : Int)) :: (47, .bool v47_) :: r_ ∧ Hp B I w_ (L) ∧ v47_ = ((decide (x4.at_ ≤ at_)) && ((decide (x4.known ≤ kn)) && ((decide (be < 0)) || (decide (la ≤ x4.at_)))))) (fun again => ?_) ?_
    · rcases Bool.eq_false_or_eq_true (decide (x4.at_ ≤ at_)) with hg5 | hg5
      · rcases Bool.eq_false_or_eq_true (decide (x4.known ≤ kn)) with hg6 | hg6
        · rcases Bool.eq_false_or_eq_true (decide (be < 0)) with hg7 | hg7
          · refine st_draw (F := (fun w_ => ∃ I2, Le I I2 ∧ Hp B I2 w_ [])) (p0 := [0, 1, 2, 3, 4, 5, 6, 7, 8, 9, 10, 11, 12, 13, 14, 15, 16, 17, 18, 19, 20, 21, 22, 23, 24, 25, 26, 27, 28, 29, 30, 31, 32]) (plan := []) [] [] [(47, .bool true), (46, .bool true), (45, undef), (44, undef), (43, undef), (42, undef), (41, undef), (40, undef), (39, undef), (38, undef), (37, undef), (36, undef), (35, undef), (34, .bool (decide (be < 0))), (33, .bool (decide (be < 0))), (32, .int .i64 be), (31, .bool (decide (x4.known ≤ kn))), (30, .bool (decide (x4.known ≤ kn))), (29, .bool (decide (x4.known ≤ kn))), (28, .int .i64 kn), (27, .int .i64 x4.known), (26, .pointer (some ⟨b4, o4 + i * 13 + 2, none⟩)), (25, .pointer (some ⟨b4, o4 + i * 13, none⟩)), (24, .int .i64 (i : Int)), (23, .slice A l.length c), (22, .bool (decide (x4.at_ ≤ at_))), (21, .bool (decide (x4.at_ ≤ at_))), (20, .int .i64 at_), (19, .int .i64 x4.at_), (18, .pointer (some ⟨b4, o4 + i * 13 + 1, none⟩)), (17, .pointer (some ⟨b4, o4 + i * 13, none⟩)), (16, .int .i64 (i : Int)), (15, .slice A l.length c)] (by kernel_rfl) rfl ?_ ⟨_, Le.refl _, H.drew.pick [] (by decide)⟩ ?_
            · refine ⟨kn_op rfl rfl (wantB_none rfl) fun _ hF2 => ?_, ?_⟩
              · obtain ⟨_, hle2, H2⟩ := hF2
                refine  (ow_move (v := .slice A l.length c) rfl ?_)
                exact ⟨rfl, rfl⟩
              refine ⟨kn_op rfl rfl (wantB_none rfl) fun _ hF2 => ?_, ?_⟩
              · obtain ⟨_, hle2, H2⟩ := hF2
                refine  (ow_move (v := .int .i64 (i : Int)) rfl ?_)
                exact ⟨rfl, rfl⟩
              refine ⟨kn_op rfl rfl (wantB_none rfl) fun _ hF2 => ?_, ?_⟩
              · obtain ⟨_, hle2, H2⟩ := hF2
                refine  (ow_indexAddrA sl36 ty52 hA4 rfl rfl (by omega) (by omega) (r := o4 + i * 13) rfl ?_)
                exact ⟨rfl, rfl⟩
              refine ⟨kn_op rfl rfl (wantB_none rfl) fun _ hF2 => ?_, ?_⟩
              · obtain ⟨_, hle2, H2⟩ := hF2
                refine  (ow_fieldAddr fd52_1 ty3 rfl rfl (r := o4 + i * 13 + 1) rfl ?_)
                exact ⟨rfl, rfl⟩
              refine ⟨kn_op rfl rfl (wantB_none rfl) fun _ hF2 => ?_, ?_⟩
              · obtain ⟨_, hle2, H2⟩ := hF2
                refine  (ow_loadI (v := .int .i64 x4.at_) ty3 H2 rfl (At.mono hle2 (At.sub (vs := [.int .i64 x4.at_]) hat4 1 rfl)) rfl rfl rfl ?_)
                exact ⟨rfl, rfl⟩
              refine ⟨kn_op rfl rfl (wantB_none rfl) fun _ hF2 => ?_, ?_⟩
              · obtain ⟨_, hle2, H2⟩ := hF2
                refine  (ow_move (v := .int .i64 at_) rfl ?_)
                exact ⟨rfl, rfl⟩
              refine ⟨kn_op rfl rfl (wantB_none rfl) fun _ hF2 => ?_, ?_⟩
              · obtain ⟨_, hle2, H2⟩ := hF2
                refine  (ow_leq rfl rfl ?_)
                exact ⟨rfl, rfl⟩
              refine ⟨kn_op rfl rfl (wantB_none rfl) fun _ hF2 => ?_, ?_⟩
              · obtain ⟨_, hle2, H2⟩ := hF2
                refine  (ow_move (v := .bool (decide (x4.at_ ≤ at_))) rfl ?_)
                exact ⟨rfl, rfl⟩
              refine ⟨kn_op rfl rfl ((wantB_some (j := 7) rfl rfl (d := 22) rfl rfl (u := true) (by exact congrArg Value.bool hg5)).trans rfl) fun _ hF2 => ?_, ?_⟩
              · obtain ⟨_, hle2, H2⟩ := hF2
                refine  (ow_move (v := .slice A l.length c) rfl ?_)
                exact ⟨rfl, rfl⟩
              refine ⟨kn_op rfl rfl ((wantB_some (j := 7) rfl rfl (d := 22) rfl rfl (u := true) (by exact congrArg Value.bool hg5)).trans rfl) fun _ hF2 => ?_, ?_⟩
              · obtain ⟨_, hle2, H2⟩ := hF2
                refine  (ow_move (v := .int .i64 (i : Int)) rfl ?_)
                exact ⟨rfl, rfl⟩
              refine ⟨kn_op rfl rfl ((wantB_some (j := 7) rfl rfl (d := 22) rfl rfl (u := true) (by exact congrArg Value.bool hg5)).trans rfl) fun _ hF2 => ?_, ?_⟩
              · obtain ⟨_, hle2, H2⟩ := hF2
                refine  (ow_indexAddrA sl36 ty52 hA4 rfl rfl (by omega) (by omega) (r := o4 + i * 13) rfl ?_)
                exact ⟨rfl, rfl⟩
              refine ⟨kn_op rfl rfl ((wantB_some (j := 7) rfl rfl (d := 22) rfl rfl (u := true) (by exact congrArg Value.bool hg5)).trans rfl) fun _ hF2 => ?_, ?_⟩
              · obtain ⟨_, hle2, H2⟩ := hF2
                refine  (ow_fieldAddr fd52_2 ty3 rfl rfl (r := o4 + i * 13 + 2) rfl ?_)
                exact ⟨rfl, rfl⟩
              refine ⟨kn_op rfl rfl ((wantB_some (j := 7) rfl rfl (d := 22) rfl rfl (u := true) (by exact congrArg Value.bool hg5)).trans rfl) fun _ hF2 => ?_, ?_⟩
              · obtain ⟨_, hle2, H2⟩ := hF2
                refine  (ow_loadI (v := .int .i64 x4.known) ty3 H2 rfl (At.mono hle2 (At.sub (vs := [.int .i64 x4.known]) hat4 2 rfl)) rfl rfl rfl ?_)
                exact ⟨rfl, rfl⟩
              refine ⟨kn_op rfl rfl ((wantB_some (j := 7) rfl rfl (d := 22) rfl rfl (u := true) (by exact congrArg Value.bool hg5)).trans rfl) fun _ hF2 => ?_, ?_⟩
              · obtain ⟨_, hle2, H2⟩ := hF2
                refine  (ow_move (v := .int .i64 kn) rfl ?_)
                exact ⟨rfl, rfl⟩
              refine ⟨kn_op rfl rfl ((wantB_some (j := 7) rfl rfl (d := 22) rfl rfl (u := true) (by exact congrArg Value.bool hg5)).trans rfl) fun _ hF2 => ?_, ?_⟩
              · obtain ⟨_, hle2, H2⟩ := hF2
                refine  (ow_leq rfl rfl ?_)
                exact ⟨rfl, rfl⟩
              refine ⟨kn_op rfl rfl (wantB_none rfl) fun _ hF2 => ?_, ?_⟩
              · obtain ⟨_, hle2, H2⟩ := hF2
                refine  (ow_pick (a := true) (v := .bool (decide (x4.known ≤ kn))) (congrArg Value.bool hg5) rfl ?_)
                exact ⟨rfl, rfl⟩
              refine ⟨kn_op rfl rfl (wantB_none rfl) fun _ hF2 => ?_, ?_⟩
              · obtain ⟨_, hle2, H2⟩ := hF2
                refine  (ow_move (v := .bool (decide (x4.known ≤ kn))) rfl ?_)
                exact ⟨rfl, rfl⟩
              refine ⟨kn_op rfl rfl ((wantB_some (j := 16) rfl rfl (d := 31) rfl rfl (u := true) (by exact congrArg Value.bool hg6)).trans rfl) fun _ hF2 => ?_, ?_⟩
              · obtain ⟨_, hle2, H2⟩ := hF2
                refine  (ow_move (v := .int .i64 be) rfl ?_)
                exact ⟨rfl, rfl⟩
              refine ⟨kn_op rfl rfl ((wantB_some (j := 16) rfl rfl (d := 31) rfl rfl (u := true) (by exact congrArg Value.bool hg6)).trans rfl) fun _ hF2 => ?_, ?_⟩
              · obtain ⟨_, hle2, H2⟩ := hF2
                refine  (ow_lss rfl rfl ?_)
                exact ⟨rfl, rfl⟩
              refine ⟨kn_op rfl rfl ((wantB_some (j := 16) rfl rfl (d := 31) rfl rfl (u := true) (by exact congrArg Value.bool hg6)).trans rfl) fun _ hF2 => ?_, ?_⟩
              · obtain ⟨_, hle2, H2⟩ := hF2
                refine  (ow_move (v := .bool (decide (be < 0))) rfl ?_)
                exact ⟨rfl, rfl⟩
              refine ⟨kn_pass rfl rfl ((wantB_some (j := 19) rfl rfl (d := 34) rfl rfl (u := true) (by exact congrArg Value.bool hg7)).trans rfl) rfl, ?_⟩
              refine ⟨kn_pass rfl rfl ((wantB_some (j := 19) rfl rfl (d := 34) rfl rfl (u := true) (by exact congrArg Value.bool hg7)).trans rfl) rfl, ?_⟩
              refine ⟨kn_pass rfl rfl ((wantB_some (j := 19) rfl rfl (d := 34) rfl rfl (u := true) (by exact congrArg Value.bool hg7)).trans rfl) rfl, ?_⟩
              refine ⟨kn_pass rfl rfl ((wantB_some (j := 19) rfl rfl (d := 34) rfl rfl (u := true) (by exact congrArg Value.bool hg7)).trans rfl) rfl, ?_⟩
              refine ⟨kn_pass rfl rfl ((wantB_some (j := 19) rfl rfl (d := 34) rfl rfl (u := true) (by exact congrArg Value.bool hg7)).trans rfl) rfl, ?_⟩
              refine ⟨kn_pass rfl rfl ((wantB_some (j := 19) rfl rfl (d := 34) rfl rfl (u := true) (by exact congrArg Value.bool hg7)).trans rfl) rfl, ?_⟩
              refine ⟨kn_pass rfl rfl ((wantB_some (j := 19) rfl rfl (d := 34) rfl rfl (u := true) (by exact congrArg Value.bool hg7)).trans rfl) rfl, ?_⟩
              refine ⟨kn_pass rfl rfl ((wantB_some (j := 19) rfl rfl (d := 34) rfl rfl (u := true) (by exact congrArg Value.bool hg7)).trans rfl) rfl, ?_⟩
              refine ⟨kn_pass rfl rfl ((wantB_some (j := 19) rfl rfl (d := 34) rfl rfl (u := true) (by exact congrArg Value.bool hg7)).trans rfl) rfl, ?_⟩
              refine ⟨kn_pass rfl rfl ((wantB_some (j := 19) rfl rfl (d := 34) rfl rfl (u := true) (by exact congrArg Value.bool hg7)).trans rfl) rfl, ?_⟩
              refine ⟨kn_pass rfl rfl ((wantB_some (j := 19) rfl rfl (d := 34) rfl rfl (u := true) (by exact congrArg Value.bool hg7)).trans rfl) rfl, ?_⟩
              refine ⟨kn_op rfl rfl ((wantB_some (j := 16) rfl rfl (d := 31) rfl rfl (u := true) (by exact congrArg Value.bool hg6)).trans rfl) fun _ hF2 => ?_, ?_⟩
              · obtain ⟨_, hle2, H2⟩ := hF2
                refine  (ow_pick (a := true) (v := .bool true) (congrArg Value.bool hg7) rfl ?_)
                exact ⟨rfl, rfl⟩
              refine ⟨kn_op rfl rfl (wantB_none rfl) fun _ hF2 => ?_, ?_⟩
              · obtain ⟨_, hle2, H2⟩ := hF2
                refine  (ow_pick (a := true) (v := .bool true) (congrArg Value.bool hg6) rfl ?_)
                exact ⟨rfl, rfl⟩
              exact trivial
            have H := H.drew
            refine cw_nil ?_
            exact st_live [0, 1, 2, 7, 8, 47] (again _ _ ⟨_, _, rfl, H, by first | rfl | (rw [hg5, hg6, hg7] <;> rfl) | simp [hg5, hg6, hg7]⟩)
          · have hbn := of_decide_eq_false hg7
            obtain ⟨pi, hpi⟩ : ∃ pi : Nat, be = (pi : Int) := ⟨be.toNat, by omega⟩
            have hbl : be < (i : Int) := by rcases hfo with ⟨h, _⟩ | ⟨_, h, _⟩ <;> omega
            obtain ⟨x8, he8⟩ : ∃ q_, l[pi]? = some q_ := ⟨_, List.getElem?_eq_getElem (by omega)⟩
            obtain ⟨b8, o8, us8, hA8, hat8, hul8, hr8⟩ := RepS.get hl he8
            obtain ⟨vs8, rfl, x8no, x8at, x8kn, x8p⟩ := ve_iff.1 hr8
            have x8p0 := x8p
            obtain ⟨v18, v28, v38, v48, rfl, x8pn, x8k, x8o, x8r, x8ck, x8cn, x8cno, x8cs, x8cl, x8pm⟩ := po_iff.1 x8p
            obtain ⟨Ak8, ck8, rfl, x8kA, x8kB, x8k⟩ := RepS.open_ x8k
            obtain ⟨Ao8, co8, rfl, x8oA, x8oB, x8o⟩ := RepS.open_ x8o
            obtain ⟨Ar8, cr8, rfl, x8rA, x8rB, x8r⟩ := RepS.open_ x8r
            obtain ⟨Acl8, ccl8, rfl, x8clA, x8clB, x8cl⟩ := RepS.open_ x8cl
            have hla_ : x8.at_ = la := by
              rcases hfo with ⟨h, _⟩ | ⟨_, _, y_, hy_, h⟩
              · omega
              · rw [hpi, Int.toNat_natCast, he8] at hy_
                cases hy_
                rw [hla, h]
            rw [hla_] at hat8
            refine st_draw (F := (fun w_ => ∃ I2, Le I I2 ∧ Hp B I2 w_ [])) (p0 := [0, 1, 2, 3, 4, 5, 6, 7, 8, 9, 10, 11, 12, 13, 14, 15, 16, 17, 18, 19, 20, 21, 22, 23, 24, 25, 26, 27, 28, 29, 30, 31, 32]) (plan := []) [] [] [(47, .bool (decide (la ≤ x4.at_))), (46, .bool (decide (la ≤ x4.at_))), (45, .bool (decide (la ≤ x4.at_))), (44, .int .i64 la), (43, .pointer (some ⟨b8, o8 + pi * 13 + 1, none⟩)), (42, .pointer (some ⟨b8, o8 + pi * 13, none⟩)), (41, .int .i64 be), (40, .slice A l.length c), (39, .int .i64 x4.at_), (38, .pointer (some ⟨b4, o4 + i * 13 + 1, none⟩)), (37, .pointer (some ⟨b4, o4 + i * 13, none⟩)), (36, .int .i64 (i : Int)), (35, .slice A l.length c), (34, .bool (decide (be < 0))), (33, .bool (decide (be < 0))), (32, .int .i64 be), (31, .bool (decide (x4.known ≤ kn))), (30, .bool (decide (x4.known ≤ kn))), (29, .bool (decide (x4.known ≤ kn))), (28, .int .i64 kn), (27, .int .i64 x4.known), (26, .pointer (some ⟨b4, o4 + i * 13 + 2, none⟩)), (25, .pointer (some ⟨b4, o4 + i * 13, none⟩)), (24, .int .i64 (i : Int)), (23, .slice A l.length c), (22, .bool (decide (x4.at_ ≤ at_))), (21, .bool (decide (x4.at_ ≤ at_))), (20, .int .i64 at_), (19, .int .i64 x4.at_), (18, .pointer (some ⟨b4, o4 + i * 13 + 1, none⟩)), (17, .pointer (some ⟨b4, o4 + i * 13, none⟩)), (16, .int .i64 (i : Int)), (15, .slice A l.length c)] (by kernel_rfl) rfl ?_ ⟨_, Le.refl _, H.drew.pick [] (by decide)⟩ ?_
            · refine ⟨kn_op rfl rfl (wantB_none rfl) fun _ hF2 => ?_, ?_⟩
              · obtain ⟨_, hle2, H2⟩ := hF2
                refine  (ow_move (v := .slice A l.length c) rfl ?_)
                exact ⟨rfl, rfl⟩
              refine ⟨kn_op rfl rfl (wantB_none rfl) fun _ hF2 => ?_, ?_⟩
              · obtain ⟨_, hle2, H2⟩ := hF2
                refine  (ow_move (v := .int .i64 (i : Int)) rfl ?_)
                exact ⟨rfl, rfl⟩
              refine ⟨kn_op rfl rfl (wantB_none rfl) fun _ hF2 => ?_, ?_⟩
              · obtain ⟨_, hle2, H2⟩ := hF2
                refine  (ow_indexAddrA sl36 ty52 hA4 rfl rfl (by omega) (by omega) (r := o4 + i * 13) rfl ?_)
                exact ⟨rfl, rfl⟩
              refine ⟨kn_op rfl rfl (wantB_none rfl) fun _ hF2 => ?_, ?_⟩
              · obtain ⟨_, hle2, H2⟩ := hF2
                refine  (ow_fieldAddr fd52_1 ty3 rfl rfl (r := o4 + i * 13 + 1) rfl ?_)
                exact ⟨rfl, rfl⟩
              refine ⟨kn_op rfl rfl (wantB_none rfl) fun _ hF2 => ?_, ?_⟩
              · obtain ⟨_, hle2, H2⟩ := hF2
                refine  (ow_loadI (v := .int .i64 x4.at_) ty3 H2 rfl (At.mono hle2 (At.sub (vs := [.int .i64 x4.at_]) hat4 1 rfl)) rfl rfl rfl ?_)
                exact ⟨rfl, rfl⟩
              refine ⟨kn_op rfl rfl (wantB_none rfl) fun _ hF2 => ?_, ?_⟩
              · obtain ⟨_, hle2, H2⟩ := hF2
                refine  (ow_move (v := .int .i64 at_) rfl ?_)
                exact ⟨rfl, rfl⟩
              refine ⟨kn_op rfl rfl (wantB_none rfl) fun _ hF2 => ?_, ?_⟩
              · obtain ⟨_, hle2, H2⟩ := hF2
                refine  (ow_leq rfl rfl ?_)
                exact ⟨rfl, rfl⟩
              refine ⟨kn_op rfl rfl (wantB_none rfl) fun _ hF2 => ?_, ?_⟩
              · obtain ⟨_, hle2, H2⟩ := hF2
                refine  (ow_move (v := .bool (decide (x4.at_ ≤ at_))) rfl ?_)
                exact ⟨rfl, rfl⟩
              refine ⟨kn_op rfl rfl ((wantB_some (j := 7) rfl rfl (d := 22) rfl rfl (u := true) (by exact congrArg Value.bool hg5)).trans rfl) fun _ hF2 => ?_, ?_⟩
              · obtain ⟨_, hle2, H2⟩ := hF2
                refine  (ow_move (v := .slice A l.length c) rfl ?_)
                exact ⟨rfl, rfl⟩
              refine ⟨kn_op rfl rfl ((wantB_some (j := 7) rfl rfl (d := 22) rfl rfl (u := true) (by exact congrArg Value.bool hg5)).trans rfl) fun _ hF2 => ?_, ?_⟩
              · obtain ⟨_, hle2, H2⟩ := hF2
                refine  (ow_move (v := .int .i64 (i : Int)) rfl ?_)
                exact ⟨rfl, rfl⟩
              refine ⟨kn_op rfl rfl ((wantB_some (j := 7) rfl rfl (d := 22) rfl rfl (u := true) (by exact congrArg Value.bool hg5)).trans rfl) fun _ hF2 => ?_, ?_⟩
              · obtain ⟨_, hle2, H2⟩ := hF2
                refine  (ow_indexAddrA sl36 ty52 hA4 rfl rfl (by omega) (by omega) (r := o4 + i * 13) rfl ?_)
                exact ⟨rfl, rfl⟩
              refine ⟨kn_op rfl rfl ((wantB_some (j := 7) rfl rfl (d := 22) rfl rfl (u := true) (by exact congrArg Value.bool hg5)).trans rfl) fun _ hF2 => ?_, ?_⟩
              · obtain ⟨_, hle2, H2⟩ := hF2
                refine  (ow_fieldAddr fd52_2 ty3 rfl rfl (r := o4 + i * 13 + 2) rfl ?_)
                exact ⟨rfl, rfl⟩
              refine ⟨kn_op rfl rfl ((wantB_some (j := 7) rfl rfl (d := 22) rfl rfl (u := true) (by exact congrArg Value.bool hg5)).trans rfl) fun _ hF2 => ?_, ?_⟩
              · obtain ⟨_, hle2, H2⟩ := hF2
                refine  (ow_loadI (v := .int .i64 x4.known) ty3 H2 rfl (At.mono hle2 (At.sub (vs := [.int .i64 x4.known]) hat4 2 rfl)) rfl rfl rfl ?_)
                exact ⟨rfl, rfl⟩
              refine ⟨kn_op rfl rfl ((wantB_some (j := 7) rfl rfl (d := 22) rfl rfl (u := true) (by exact congrArg Value.bool hg5)).trans rfl) fun _ hF2 => ?_, ?_⟩
              · obtain ⟨_, hle2, H2⟩ := hF2
                refine  (ow_move (v := .int .i64 kn) rfl ?_)
                exact ⟨rfl, rfl⟩
              refine ⟨kn_op rfl rfl ((wantB_some (j := 7) rfl rfl (d := 22) rfl rfl (u := true) (by exact congrArg Value.bool hg5)).trans rfl) fun _ hF2 => ?_, ?_⟩
              · obtain ⟨_, hle2, H2⟩ := hF2
                refine  (ow_leq rfl rfl ?_)
                exact ⟨rfl, rfl⟩
              refine ⟨kn_op rfl rfl (wantB_none rfl) fun _ hF2 => ?_, ?_⟩
              · obtain ⟨_, hle2, H2⟩ := hF2
                refine  (ow_pick (a := true) (v := .bool (decide (x4.known ≤ kn))) (congrArg Value.bool hg5) rfl ?_)
                exact ⟨rfl, rfl⟩
              refine ⟨kn_op rfl rfl (wantB_none rfl) fun _ hF2 => ?_, ?_⟩
              · obtain ⟨_, hle2, H2⟩ := hF2
                refine  (ow_move (v := .bool (decide (x4.known ≤ kn))) rfl ?_)
                exact ⟨rfl, rfl⟩
              refine ⟨kn_op rfl rfl ((wantB_some (j := 16) rfl rfl (d := 31) rfl rfl (u := true) (by exact congrArg Value.bool hg6)).trans rfl) fun _ hF2 => ?_, ?_⟩
              · obtain ⟨_, hle2, H2⟩ := hF2
                refine  (ow_move (v := .int .i64 be) rfl ?_)
                exact ⟨rfl, rfl⟩
              refine ⟨kn_op rfl rfl ((wantB_some (j := 16) rfl rfl (d := 31) rfl rfl (u := true) (by exact congrArg Value.bool hg6)).trans rfl) fun _ hF2 => ?_, ?_⟩
              · obtain ⟨_, hle2, H2⟩ := hF2
                refine  (ow_lss rfl rfl ?_)
                exact ⟨rfl, rfl⟩
              refine ⟨kn_op rfl rfl ((wantB_some (j := 16) rfl rfl (d := 31) rfl rfl (u := true) (by exact congrArg Value.bool hg6)).trans rfl) fun _ hF2 => ?_, ?_⟩
              · obtain ⟨_, hle2, H2⟩ := hF2
                refine  (ow_move (v := .bool (decide (be < 0))) rfl ?_)
                exact ⟨rfl, rfl⟩
              refine ⟨kn_op rfl rfl ((wantB_some (j := 19) rfl rfl (d := 34) rfl rfl (u := false) (by exact congrArg Value.bool hg7)).trans rfl) fun _ hF2 => ?_, ?_⟩
              · obtain ⟨_, hle2, H2⟩ := hF2
                refine  (ow_move (v := .slice A l.length c) rfl ?_)
                exact ⟨rfl, rfl⟩
              refine ⟨kn_op rfl rfl ((wantB_some (j := 19) rfl rfl (d := 34) rfl rfl (u := false) (by exact congrArg Value.bool hg7)).trans rfl) fun _ hF2 => ?_, ?_⟩
              · obtain ⟨_, hle2, H2⟩ := hF2
                refine  (ow_move (v := .int .i64 (i : Int)) rfl ?_)
                exact ⟨rfl, rfl⟩
              refine ⟨kn_op rfl rfl ((wantB_some (j := 19) rfl rfl (d := 34) rfl rfl (u := false) (by exact congrArg Value.bool hg7)).trans rfl) fun _ hF2 => ?_, ?_⟩
              · obtain ⟨_, hle2, H2⟩ := hF2
                refine  (ow_indexAddrA sl36 ty52 hA4 rfl rfl (by omega) (by omega) (r := o4 + i * 13) rfl ?_)
                exact ⟨rfl, rfl⟩
              refine ⟨kn_op rfl rfl ((wantB_some (j := 19) rfl rfl (d := 34) rfl rfl (u := false) (by exact congrArg Value.bool hg7)).trans rfl) fun _ hF2 => ?_, ?_⟩
              · obtain ⟨_, hle2, H2⟩ := hF2
                refine  (ow_fieldAddr fd52_1 ty3 rfl rfl (r := o4 + i * 13 + 1) rfl ?_)
                exact ⟨rfl, rfl⟩
              refine ⟨kn_op rfl rfl ((wantB_some (j := 19) rfl rfl (d := 34) rfl rfl (u := false) (by exact congrArg Value.bool hg7)).trans rfl) fun _ hF2 => ?_, ?_⟩
              · obtain ⟨_, hle2, H2⟩ := hF2
                refine  (ow_loadI (v := .int .i64 x4.at_) ty3 H2 rfl (At.mono hle2 (At.sub (vs := [.int .i64 x4.at_]) hat4 1 rfl)) rfl rfl rfl ?_)
                exact ⟨rfl, rfl⟩
              refine ⟨kn_op rfl rfl ((wantB_some (j := 19) rfl rfl (d := 34) rfl rfl (u := false) (by exact congrArg Value.bool hg7)).trans rfl) fun _ hF2 => ?_, ?_⟩
              · obtain ⟨_, hle2, H2⟩ := hF2
                refine  (ow_move (v := .slice A l.length c) rfl ?_)
                exact ⟨rfl, rfl⟩
              refine ⟨kn_op rfl rfl ((wantB_some (j := 19) rfl rfl (d := 34) rfl rfl (u := false) (by exact congrArg Value.bool hg7)).trans rfl) fun _ hF2 => ?_, ?_⟩
              · obtain ⟨_, hle2, H2⟩ := hF2
                refine  (ow_move (v := .int .i64 be) rfl ?_)
                exact ⟨rfl, rfl⟩
              refine ⟨kn_op rfl rfl ((wantB_some (j := 19) rfl rfl (d := 34) rfl rfl (u := false) (by exact congrArg Value.bool hg7)).trans rfl) fun _ hF2 => ?_, ?_⟩
              · obtain ⟨_, hle2, H2⟩ := hF2
                refine  (ow_indexAddrA sl36 ty52 hA8 rfl rfl (by omega) (by omega) (r := o8 + pi * 13) (by rw [hpi]; rfl) ?_)
                exact ⟨rfl, rfl⟩
              refine ⟨kn_op rfl rfl ((wantB_some (j := 19) rfl rfl (d := 34) rfl rfl (u := false) (by exact congrArg Value.bool hg7)).trans rfl) fun _ hF2 => ?_, ?_⟩
              · obtain ⟨_, hle2, H2⟩ := hF2
                refine  (ow_fieldAddr fd52_1 ty3 rfl rfl (r := o8 + pi * 13 + 1) rfl ?_)
                exact ⟨rfl, rfl⟩
              refine ⟨kn_op rfl rfl ((wantB_some (j := 19) rfl rfl (d := 34) rfl rfl (u := false) (by exact congrArg Value.bool hg7)).trans rfl) fun _ hF2 => ?_, ?_⟩
              · obtain ⟨_, hle2, H2⟩ := hF2
                refine  (ow_loadI (v := .int .i64 la) ty3 H2 rfl (At.mono hle2 (At.sub (vs := [.int .i64 la]) hat8 1 rfl)) rfl rfl rfl ?_)
                exact ⟨rfl, rfl⟩
              refine ⟨kn_op rfl rfl ((wantB_some (j := 19) rfl rfl (d := 34) rfl rfl (u := false) (by exact congrArg Value.bool hg7)).trans rfl) fun _ hF2 => ?_, ?_⟩
              · obtain ⟨_, hle2, H2⟩ := hF2
                refine  (ow_geq rfl rfl ?_)
                exact ⟨rfl, rfl⟩
              refine ⟨kn_op rfl rfl ((wantB_some (j := 16) rfl rfl (d := 31) rfl rfl (u := true) (by exact congrArg Value.bool hg6)).trans rfl) fun _ hF2 => ?_, ?_⟩
              · obtain ⟨_, hle2, H2⟩ := hF2
                refine  (ow_pick (a := false) (v := .bool (decide (la ≤ x4.at_))) (congrArg Value.bool hg7) rfl ?_)
                exact ⟨rfl, rfl⟩
              refine ⟨kn_op rfl rfl (wantB_none rfl) fun _ hF2 => ?_, ?_⟩
              · obtain ⟨_, hle2, H2⟩ := hF2
                refine  (ow_pick (a := true) (v := .bool (decide (la ≤ x4.at_))) (congrArg Value.bool hg6) rfl ?_)
                exact ⟨rfl, rfl⟩
              exact trivial
            have H := H.drew
            refine cw_nil ?_
            exact st_live [0, 1, 2, 7, 8, 47] (again _ _ ⟨_, _, rfl, H, by first | rfl | (rw [hg5, hg6, hg7] <;> rfl) | simp [hg5, hg6, hg7]⟩)
        · refine st_draw (F := (fun w_ => ∃ I2, Le I I2 ∧ Hp B I2 w_ [])) (p0 := [0, 1, 2, 3, 4, 5, 6, 7, 8, 9, 10, 11, 12, 13, 14, 15, 16, 17, 18, 19, 20, 21, 22, 23, 24, 25, 26, 27, 28, 29, 30, 31, 32]) (plan := []) [] [] [(47, .bool false), (46, undef), (45, undef), (44, undef), (43, undef), (42, undef), (41, undef), (40, undef), (39, undef), (38, undef), (37, undef), (36, undef), (35, undef), (34, undef), (33, undef), (32, undef), (31, .bool (decide (x4.known ≤ kn))), (30, .bool (decide (x4.known ≤ kn))), (29, .bool (decide (x4.known ≤ kn))), (28, .int .i64 kn), (27, .int .i64 x4.known), (26, .pointer (some ⟨b4, o4 + i * 13 + 2, none⟩)), (25, .pointer (some ⟨b4, o4 + i * 13, none⟩)), (24, .int .i64 (i : Int)), (23, .slice A l.length c), (22, .bool (decide (x4.at_ ≤ at_))), (21, .bool (decide (x4.at_ ≤ at_))), (20, .int .i64 at_), (19, .int .i64 x4.at_), (18, .pointer (some ⟨b4, o4 + i * 13 + 1, none⟩)), (17, .pointer (some ⟨b4, o4 + i * 13, none⟩)), (16, .int .i64 (i : Int)), (15, .slice A l.length c)] (by kernel_rfl) rfl ?_ ⟨_, Le.refl _, H.drew.pick [] (by decide)⟩ ?_
          · refine ⟨kn_op rfl rfl (wantB_none rfl) fun _ hF2 => ?_, ?_⟩
            · obtain ⟨_, hle2, H2⟩ := hF2
              refine  (ow_move (v := .slice A l.length c) rfl ?_)
              exact ⟨rfl, rfl⟩
            refine ⟨kn_op rfl rfl (wantB_none rfl) fun _ hF2 => ?_, ?_⟩
            · obtain ⟨_, hle2, H2⟩ := hF2
              refine  (ow_move (v := .int .i64 (i : Int)) rfl ?_)
              exact ⟨rfl, rfl⟩
            refine ⟨kn_op rfl rfl (wantB_none rfl) fun _ hF2 => ?_, ?_⟩
            · obtain ⟨_, hle2, H2⟩ := hF2
              refine  (ow_indexAddrA sl36 ty52 hA4 rfl rfl (by omega) (by omega) (r := o4 + i * 13) rfl ?_)
              exact ⟨rfl, rfl⟩
            refine ⟨kn_op rfl rfl (wantB_none rfl) fun _ hF2 => ?_, ?_⟩
            · obtain ⟨_, hle2, H2⟩ := hF2
              refine  (ow_fieldAddr fd52_1 ty3 rfl rfl (r := o4 + i * 13 + 1) rfl ?_)
              exact ⟨rfl, rfl⟩
            refine ⟨kn_op rfl rfl (wantB_none rfl) fun _ hF2 => ?_, ?_⟩
            · obtain ⟨_, hle2, H2⟩ := hF2
              refine  (ow_loadI (v := .int .i64 x4.at_) ty3 H2 rfl (At.mono hle2 (At.sub (vs := [.int .i64 x4.at_]) hat4 1 rfl)) rfl rfl rfl ?_)
              exact ⟨rfl, rfl⟩
            refine ⟨kn_op rfl rfl (wantB_none rfl) fun _ hF2 => ?_, ?_⟩
            · obtain ⟨_, hle2, H2⟩ := hF2
              refine  (ow_move (v := .int .i64 at_) rfl ?_)
              exact ⟨rfl, rfl⟩
            refine ⟨kn_op rfl rfl (wantB_none rfl) fun _ hF2 => ?_, ?_⟩
            · obtain ⟨_, hle2, H2⟩ := hF2
              refine  (ow_leq rfl rfl ?_)
              exact ⟨rfl, rfl⟩
            refine ⟨kn_op rfl rfl (wantB_none rfl) fun _ hF2 => ?_, ?_⟩
            · obtain ⟨_, hle2, H2⟩ := hF2
              refine  (ow_move (v := .bool (decide (x4.at_ ≤ at_))) rfl ?_)
              exact ⟨rfl, rfl⟩
            refine ⟨kn_op rfl rfl ((wantB_some (j := 7) rfl rfl (d := 22) rfl rfl (u := true) (by exact congrArg Value.bool hg5)).trans rfl) fun _ hF2 => ?_, ?_⟩
            · obtain ⟨_, hle2, H2⟩ := hF2
              refine  (ow_move (v := .slice A l.length c) rfl ?_)
              exact ⟨rfl, rfl⟩
            refine ⟨kn_op rfl rfl ((wantB_some (j := 7) rfl rfl (d := 22) rfl rfl (u := true) (by exact congrArg Value.bool hg5)).trans rfl) fun _ hF2 => ?_, ?_⟩
            · obtain ⟨_, hle2, H2⟩ := hF2
              refine  (ow_move (v := .int .i64 (i : Int)) rfl ?_)
              exact ⟨rfl, rfl⟩
            refine ⟨kn_op rfl rfl ((wantB_some (j := 7) rfl rfl (d := 22) rfl rfl (u := true) (by exact congrArg Value.bool hg5)).trans rfl) fun _ hF2 => ?_, ?_⟩
            · obtain ⟨_, hle2, H2⟩ := hF2
              refine  (ow_indexAddrA sl36 ty52 hA4 rfl rfl (by omega) (by omega) (r := o4 + i * 13) rfl ?_)
              exact ⟨rfl, rfl⟩
            refine ⟨kn_op rfl rfl ((wantB_some (j := 7) rfl rfl (d := 22) rfl rfl (u := true) (by exact congrArg Value.bool hg5)).trans rfl) fun _ hF2 => ?_, ?_⟩
            · obtain ⟨_, hle2, H2⟩ := hF2
              refine  (ow_fieldAddr fd52_2 ty3 rfl rfl (r := o4 + i * 13 + 2) rfl ?_)
              exact ⟨rfl, rfl⟩
            refine ⟨kn_op rfl rfl ((wantB_some (j := 7) rfl rfl (d := 22) rfl rfl (u := true) (by exact congrArg Value.bool hg5)).trans rfl) fun _ hF2 => ?_, ?_⟩
            · obtain ⟨_, hle2, H2⟩ := hF2
              refine  (ow_loadI (v := .int .i64 x4.known) ty3 H2 rfl (At.mono hle2 (At.sub (vs := [.int .i64 x4.known]) hat4 2 rfl)) rfl rfl rfl ?_)
              exact ⟨rfl, rfl⟩
            refine ⟨kn_op rfl rfl ((wantB_some (j := 7) rfl rfl (d := 22) rfl rfl (u := true) (by exact congrArg Value.bool hg5)).trans rfl) fun _ hF2 => ?_, ?_⟩
            · obtain ⟨_, hle2, H2⟩ := hF2
              refine  (ow_move (v := .int .i64 kn) rfl ?_)
              exact ⟨rfl, rfl⟩
            refine ⟨kn_op rfl rfl ((wantB_some (j := 7) rfl rfl (d := 22) rfl rfl (u := true) (by exact congrArg Value.bool hg5)).trans rfl) fun _ hF2 => ?_, ?_⟩
            · obtain ⟨_, hle2, H2⟩ := hF2
              refine  (ow_leq rfl rfl ?_)
              exact ⟨rfl, rfl⟩
            refine ⟨kn_op rfl rfl (wantB_none rfl) fun _ hF2 => ?_, ?_⟩
            · obtain ⟨_, hle2, H2⟩ := hF2
              refine  (ow_pick (a := true) (v := .bool (decide (x4.known ≤ kn))) (congrArg Value.bool hg5) rfl ?_)
              exact ⟨rfl, rfl⟩
            refine ⟨kn_op rfl rfl (wantB_none rfl) fun _ hF2 => ?_, ?_⟩
            · obtain ⟨_, hle2, H2⟩ := hF2
              refine  (ow_move (v := .bool (decide (x4.known ≤ kn))) rfl ?_)
              exact ⟨rfl, rfl⟩
            refine ⟨kn_pass rfl rfl ((wantB_some (j := 16) rfl rfl (d := 31) rfl rfl (u := false) (by exact congrArg Value.bool hg6)).trans rfl) rfl, ?_⟩
            refine ⟨kn_pass rfl rfl ((wantB_some (j := 16) rfl rfl (d := 31) rfl rfl (u := false) (by exact congrArg Value.bool hg6)).trans rfl) rfl, ?_⟩
            refine ⟨kn_pass rfl rfl ((wantB_some (j := 16) rfl rfl (d := 31) rfl rfl (u := false) (by exact congrArg Value.bool hg6)).trans rfl) rfl, ?_⟩
            refine ⟨kn_pass rfl rfl (wantB_undef (j := 19) rfl rfl (d := 34) rfl rfl rfl) rfl, ?_⟩
            refine ⟨kn_pass rfl rfl (wantB_undef (j := 19) rfl rfl (d := 34) rfl rfl rfl) rfl, ?_⟩
            refine ⟨kn_pass rfl rfl (wantB_undef (j := 19) rfl rfl (d := 34) rfl rfl rfl) rfl, ?_⟩
            refine ⟨kn_pass rfl rfl (wantB_undef (j := 19) rfl rfl (d := 34) rfl rfl rfl) rfl, ?_⟩
            refine ⟨kn_pass rfl rfl (wantB_undef (j := 19) rfl rfl (d := 34) rfl rfl rfl) rfl, ?_⟩
            refine ⟨kn_pass rfl rfl (wantB_undef (j := 19) rfl rfl (d := 34) rfl rfl rfl) rfl, ?_⟩
            refine ⟨kn_pass rfl rfl (wantB_undef (j := 19) rfl rfl (d := 34) rfl rfl rfl) rfl, ?_⟩
            refine ⟨kn_pass rfl rfl (wantB_undef (j := 19) rfl rfl (d := 34) rfl rfl rfl) rfl, ?_⟩
            refine ⟨kn_pass rfl rfl (wantB_undef (j := 19) rfl rfl (d := 34) rfl rfl rfl) rfl, ?_⟩
            refine ⟨kn_pass rfl rfl (wantB_undef (j := 19) rfl rfl (d := 34) rfl rfl rfl) rfl, ?_⟩
            refine ⟨kn_pass rfl rfl (wantB_undef (j := 19) rfl rfl (d := 34) rfl rfl rfl) rfl, ?_⟩
            refine ⟨kn_pass rfl rfl ((wantB_some (j := 16) rfl rfl (d := 31) rfl rfl (u := false) (by exact congrArg Value.bool hg6)).trans rfl) rfl, ?_⟩
            refine ⟨kn_op rfl rfl (wantB_none rfl) fun _ hF2 => ?_, ?_⟩
            · obtain ⟨_, hle2, H2⟩ := hF2
              refine  (ow_pick (a := false) (v := .bool false) (congrArg Value.bool hg6) rfl ?_)
              exact ⟨rfl, rfl⟩
            exact trivial
          have H := H.drew
          refine cw_nil ?_
          exact st_live [0, 1, 2, 7, 8, 47] (again _ _ ⟨_, _, rfl, H, by first | rfl | (rw [hg5, hg6] <;> rfl) | simp [hg5, hg6]⟩)
      · refine st_draw (F := (fun w_ => ∃ I2, Le I I2 ∧ Hp B I2 w_ [])) (p0 := [0, 1, 2, 3, 4, 5, 6, 7, 8, 9, 10, 11, 12, 13, 14, 15, 16, 17, 18, 19, 20, 21, 22, 23, 24, 25, 26, 27, 28, 29, 30, 31, 32]) (plan := []) [] [] [(47, .bool false), (46, undef), (45, undef), (44, undef), (43, undef), (42, undef), (41, undef), (40, undef), (39, undef), (38, undef), (37, undef), (36, undef), (35, undef), (34, undef), (33, undef), (32, undef), (31, .bool false), (30, .bool false), (29, undef), (28, undef), (27, undef), (26, undef), (25, undef), (24, undef), (23, undef), (22, .bool (decide (x4.at_ ≤ at_))), (21, .bool (decide (x4.at_ ≤ at_))), (20, .int .i64 at_), (19, .int .i64 x4.at_), (18, .pointer (some ⟨b4, o4 + i * 13 + 1, none⟩)), (17, .pointer (some ⟨b4, o4 + i * 13, none⟩)), (16, .int .i64 (i : Int)), (15, .slice A l.length c)] (by kernel_rfl) rfl ?_ ⟨_, Le.refl _, H.drew.pick [] (by decide)⟩ ?_
        · refine ⟨kn_op rfl rfl (wantB_none rfl) fun _ hF2 => ?_, ?_⟩
          · obtain ⟨_, hle2, H2⟩ := hF2
            refine  (ow_move (v := .slice A l.length c) rfl ?_)
            exact ⟨rfl, rfl⟩
          refine ⟨kn_op rfl rfl (wantB_none rfl) fun _ hF2 => ?_, ?_⟩
          · obtain ⟨_, hle2, H2⟩ := hF2
            refine  (ow_move (v := .int .i64 (i : Int)) rfl ?_)
            exact ⟨rfl, rfl⟩
          refine ⟨kn_op rfl rfl (wantB_none rfl) fun _ hF2 => ?_, ?_⟩
          · obtain ⟨_, hle2, H2⟩ := hF2
            refine  (ow_indexAddrA sl36 ty52 hA4 rfl rfl (by omega) (by omega) (r := o4 + i * 13) rfl ?_)
            exact ⟨rfl, rfl⟩
          refine ⟨kn_op rfl rfl (wantB_none rfl) fun _ hF2 => ?_, ?_⟩
          · obtain ⟨_, hle2, H2⟩ := hF2
            refine  (ow_fieldAddr fd52_1 ty3 rfl rfl (r := o4 + i * 13 + 1) rfl ?_)
            exact ⟨rfl, rfl⟩
          refine ⟨kn_op rfl rfl (wantB_none rfl) fun _ hF2 => ?_, ?_⟩
          · obtain ⟨_, hle2, H2⟩ := hF2
            refine  (ow_loadI (v := .int .i64 x4.at_) ty3 H2 rfl (At.mono hle2 (At.sub (vs := [.int .i64 x4.at_]) hat4 1 rfl)) rfl rfl rfl ?_)
            exact ⟨rfl, rfl⟩
          refine ⟨kn_op rfl rfl (wantB_none rfl) fun _ hF2 => ?_, ?_⟩
          · obtain ⟨_, hle2, H2⟩ := hF2
            refine  (ow_move (v := .int .i64 at_) rfl ?_)
            exact ⟨rfl, rfl⟩
          refine ⟨kn_op rfl rfl (wantB_none rfl) fun _ hF2 => ?_, ?_⟩
          · obtain ⟨_, hle2, H2⟩ := hF2
            refine  (ow_leq rfl rfl ?_)
            exact ⟨rfl, rfl⟩
          refine ⟨kn_op rfl rfl (wantB_none rfl) fun _ hF2 => ?_, ?_⟩
          · obtain ⟨_, hle2, H2⟩ := hF2
            refine  (ow_move (v := .bool (decide (x4.at_ ≤ at_))) rfl ?_)
            exact ⟨rfl, rfl⟩
          refine ⟨kn_pass rfl rfl ((wantB_some (j := 7) rfl rfl (d := 22) rfl rfl (u := false) (by exact congrArg Value.bool hg5)).trans rfl) rfl, ?_⟩
          refine ⟨kn_pass rfl rfl ((wantB_some (j := 7) rfl rfl (d := 22) rfl rfl (u := false) (by exact congrArg Value.bool hg5)).trans rfl) rfl, ?_⟩
          refine ⟨kn_pass rfl rfl ((wantB_some (j := 7) rfl rfl (d := 22) rfl rfl (u := false) (by exact congrArg Value.bool hg5)).trans rfl) rfl, ?_⟩
          refine ⟨kn_pass rfl rfl ((wantB_some (j := 7) rfl rfl (d := 22) rfl rfl (u := false) (by exact congrArg Value.bool hg5)).trans rfl) rfl, ?_⟩
          refine ⟨kn_pass rfl rfl ((wantB_some (j := 7) rfl rfl (d := 22) rfl rfl (u := false) (by exact congrArg Value.bool hg5)).trans rfl) rfl, ?_⟩
          refine ⟨kn_pass rfl rfl ((wantB_some (j := 7) rfl rfl (d := 22) rfl rfl (u := false) (by exact congrArg Value.bool hg5)).trans rfl) rfl, ?_⟩
          refine ⟨kn_pass rfl rfl ((wantB_some (j := 7) rfl rfl (d := 22) rfl rfl (u := false) (by exact congrArg Value.bool hg5)).trans rfl) rfl, ?_⟩
          refine ⟨kn_op rfl rfl (wantB_none rfl) fun _ hF2 => ?_, ?_⟩
          · obtain ⟨_, hle2, H2⟩ := hF2
            refine  (ow_pick (a := false) (v := .bool false) (congrArg Value.bool hg5) rfl ?_)
            exact ⟨rfl, rfl⟩
          refine ⟨kn_op rfl rfl (wantB_none rfl) fun _ hF2 => ?_, ?_⟩
          · obtain ⟨_, hle2, H2⟩ := hF2
            refine  (ow_move (v := .bool false) rfl ?_)
            exact ⟨rfl, rfl⟩
          refine ⟨kn_pass rfl rfl ((wantB_some (j := 16) rfl rfl (d := 31) rfl rfl (u := false) rfl).trans rfl) rfl, ?_⟩
          refine ⟨kn_pass rfl rfl ((wantB_some (j := 16) rfl rfl (d := 31) rfl rfl (u := false) rfl).trans rfl) rfl, ?_⟩
          refine ⟨kn_pass rfl rfl ((wantB_some (j := 16) rfl rfl (d := 31) rfl rfl (u := false) rfl).trans rfl) rfl, ?_⟩
          refine ⟨kn_pass rfl rfl (wantB_undef (j := 19) rfl rfl (d := 34) rfl rfl rfl) rfl, ?_⟩
          refine ⟨kn_pass rfl rfl (wantB_undef (j := 19) rfl rfl (d := 34) rfl rfl rfl) rfl, ?_⟩
          refine ⟨kn_pass rfl rfl (wantB_undef (j := 19) rfl rfl (d := 34) rfl rfl rfl) rfl, ?_⟩
          refine ⟨kn_pass rfl rfl (wantB_undef (j := 19) rfl rfl (d := 34) rfl rfl rfl) rfl, ?_⟩
          refine ⟨kn_pass rfl rfl (wantB_undef (j := 19) rfl rfl (d := 34) rfl rfl rfl) rfl, ?_⟩
          refine ⟨kn_pass rfl rfl (wantB_undef (j := 19) rfl rfl (d := 34) rfl rfl rfl) rfl, ?_⟩
          refine ⟨kn_pass rfl rfl (wantB_undef (j := 19) rfl rfl (d := 34) rfl rfl rfl) rfl, ?_⟩
          refine ⟨kn_pass rfl rfl (wantB_undef (j := 19) rfl rfl (d := 34) rfl rfl rfl) rfl, ?_⟩
          refine ⟨kn_pass rfl rfl (wantB_undef (j := 19) rfl rfl (d := 34) rfl rfl rfl) rfl, ?_⟩
          refine ⟨kn_pass rfl rfl (wantB_undef (j := 19) rfl rfl (d := 34) rfl rfl rfl) rfl, ?_⟩
          refine ⟨kn_pass rfl rfl (wantB_undef (j := 19) rfl rfl (d := 34) rfl rfl rfl) rfl, ?_⟩
          refine ⟨kn_pass rfl rfl ((wantB_some (j := 16) rfl rfl (d := 31) rfl rfl (u := false) rfl).trans rfl) rfl, ?_⟩
          refine ⟨kn_op rfl rfl (wantB_none rfl) fun _ hF2 => ?_, ?_⟩
          · obtain ⟨_, hle2, H2⟩ := hF2
            refine  (ow_pick (v := .bool false) rfl rfl ?_)
            exact ⟨rfl, rfl⟩
          exact trivial
        have H := H.drew
        refine cw_nil ?_
        exact st_live [0, 1, 2, 7, 8, 47] (again _ _ ⟨_, _, rfl, H, by first | rfl | (rw [hg5] <;> rfl) | simp [hg5]⟩)
    rintro _ _ ⟨r9, _, rfl, H, rfl⟩
    refine st_cond ((decide (x4.at_ ≤ at_)) && ((decide (x4.known ≤ kn)) && ((decide (be < 0)) || (decide (la ≤ x4.at_))))) rfl (fun hc10 => ?_) (fun hc10 => ?_)
    · have hv := force_step (x := x4) (la := la) hfo hla hc10
      refine st_region ?_
      refine sr_op rfl rfl (ow_move (v := .int .i64 (i : Int)) rfl ?_)
      refine sr_op rfl rfl (ow_assign (v := .int .i64 (i : Int)) rfl ?_)
      refine sr_nil ?_
      refine st_inBlock ?_
      refine st_region ?_
      refine sr_op rfl rfl (ow_move (v := .int .i64 (i : Int)) rfl ?_)
      refine sr_op rfl rfl (ow_add (r := ((i + 1 : Nat) : Int)) rfl rfl (inc_i64 (by omega)) ?_)
      refine sr_op rfl rfl (ow_assign (v := .int .i64 ((i + 1 : Nat) : Int)) rfl ?_)
      refine sr_nil ?_
      exact st_inLoop (st_live [0, 1, 2, 7, 8] (ih2 _ _ _ (by omega) ⟨i + 1, (i : Int), x4.at_, (x4.no, x4.at_, true), _, rfl, rfl, H, by omega, by rw [take_some he4, List.foldl_append, ← hs]; simp only [List.foldl_cons, List.foldl_nil]; rw [hv]; rfl, .inr ⟨by omega, by omega, x4, by simpa using he4, rfl⟩, rfl⟩))
    · have hv := force_step (x := x4) (la := la) hfo hla hc10
      refine st_skip ?_
      refine st_inBlock ?_
      refine st_region ?_
      refine sr_op rfl rfl (ow_move (v := .int .i64 (i : Int)) rfl ?_)
      refine sr_op rfl rfl (ow_add (r := ((i + 1 : Nat) : Int)) rfl rfl (inc_i64 (by omega)) ?_)
      refine sr_op rfl rfl (ow_assign (v := .int .i64 ((i + 1 : Nat) : Int)) rfl ?_)
      refine sr_nil ?_
      exact st_inLoop (st_live [0, 1, 2, 7, 8] (ih2 _ _ _ (by omega) ⟨i + 1, be, la, s, _, rfl, rfl, H, by omega, by rw [take_some he4, List.foldl_append, ← hs]; simp only [List.foldl_cons, List.foldl_nil]; rw [hv]; rfl, hfo.imp id (fun h => ⟨h.1, by omega, h.2.2⟩), hla⟩))
  · have hc3 := of_decide_eq_false hc3
    refine st_exit rfl ?_
    refine st_seq ?_
    refine st_region ?_
    refine sr_op rfl rfl (ow_move (v := .int .i64 be) rfl ?_)
    refine sr_op rfl rfl (ow_assign (v := .int .i64 be) rfl ?_)
    refine sr_nil ?_
    refine st_ret hb (hR _ _ (.int .i64 be) (res_run (vs := [.int .i64 be]) Tryd.results70 ⟨_, _, rfl, rfl, rfl⟩) ?_)
    have ht : l.take i = l := List.take_of_length_le (by omega)
    rw [ht] at hs
    have hil : i = l.length := by omega
    subst hil
    exact ⟨_, rfl, ⟨be, rfl, by rw [← hs]; exact hfo⟩, H.drop 0⟩
theorem refStanding_c {B I L w} (H : Hp B I w L) {l : List Ve} {v : Value} (hl : RepS encVe I 13 l v) (at_ kn : Int) : Calls Tryd.prog 26 #[v, .int .i64 at_, .int .i64 kn] w (Rt fun r w' => r = .tuple #[.int .i64 (standE l at_ kn).1, .bool (standE l at_ kn).2.1, .int .i64 (standE l at_ kn).2.2] ∧ Hp B I w' L) := by
  obtain ⟨A, c, rfl, hlc, hcm, hl⟩ := hl.open_
  refine calls_st (n := 35) Tryd.func26 rfl rfl rfl ?_
  intro G bF cs hb hfn hR hP
  simp only [ini]
  refine st_seq ?_
  refine st_region ?_
  refine sr_op rfl rfl (ow_assign (v := .int .i64 0) rfl ?_)
  refine sr_op rfl rfl (ow_assign (v := .bool false) rfl ?_)
  refine sr_op rfl rfl (ow_assign (v := .int .i64 0) rfl ?_)
  refine sr_nil ?_
  refine st_seq ?_
  refine st_region ?_
  refine sr_op rfl rfl (ow_move (v := .slice A l.length c) rfl ?_)
  refine sr_op rfl rfl (ow_call en28 rfl (refCheckAll_c H hl) ?_)
  rintro _ _ ⟨rfl, H⟩
  refine sr_op rfl rfl (ow_assign (v := .int .i64 (allE l)) rfl ?_)
  refine sr_nil ?_
  refine st_seq ?_
  refine st_seq ?_
  refine st_region ?_
  refine sr_op rfl rfl (ow_move (v := .int .i64 (allE l)) rfl ?_)
  refine sr_op rfl rfl (ow_neq rfl rfl ?_)
  refine sr_nil ?_
  refine st_cond (!decide (allE l = 0)) rfl (fun hc1 => ?_) (fun hc1 => ?_)
  · have hne := of_decide_eq_false (bnt hc1)
    refine st_seq ?_
    refine st_region ?_
    refine sr_op rfl rfl (ow_move (v := .int .i64 (allE l)) rfl ?_)
    refine sr_op rfl rfl (ow_assign (v := .int .i64 0) rfl ?_)
    refine sr_op rfl rfl (ow_assign (v := .bool false) rfl ?_)
    refine sr_op rfl rfl (ow_assign (v := .int .i64 (allE l)) rfl ?_)
    refine sr_nil ?_
    refine st_ret hb (hR _ _ (.tuple #[.int .i64 0, .bool false, .int .i64 (allE l)]) (res_run (vs := [.int .i64 0, .bool false, .int .i64 (allE l)]) Tryd.results26 ⟨_, _, rfl, rfl, ⟨_, _, rfl, rfl, ⟨_, _, rfl, rfl, rfl⟩⟩⟩) ?_)
    exact ⟨_, rfl, by rw [standE, if_neg hne], H.drop 0⟩
  · have hok := of_decide_eq_true (bnf hc1)
    refine st_skip ?_
    refine st_seq ?_
    refine st_seq ?_
    refine st_region ?_
    refine sr_op rfl rfl (ow_move (v := .int .i64 at_) rfl ?_)
    refine sr_op rfl rfl (ow_call en32 rfl (Time_c H at_) ?_)
    rintro _ _ ⟨rfl, H⟩
    refine sr_op rfl rfl (ow_not rfl ?_)
    refine sr_op rfl rfl (ow_move (v := .bool (!(withinB at_ 0 1099511627775))) rfl ?_)
    refine sr_cut 4 (fun m_ w_ => ∃ (r_ : Sl) (v_ : Bool), m_ = (23, .bool v_) :: (0, .slice A l.length c) :: (1, .int .i64 at_) :: (2, .int .i64 kn) :: (6, .int .i64 0) :: (7, .bool false) :: (8, .int .i64 0) :: r_ ∧ Hp B I w_ (L) ∧ v_ = ((!(withinB at_ 0 1099511627775)) || (!(withinB kn 0 1099511627775)))) (fun again => ?_) ?_
    · rcases hg : !(withinB at_ 0 1099511627775) with _ | _
      · refine sr_want rfl (j := 3) (d := 19) rfl rfl rfl (v := false) rfl rfl (ow_move (v := .int .i64 kn) rfl ?_)
        refine sr_want rfl (j := 3) (d := 19) rfl rfl rfl (v := false) rfl rfl (ow_call en32 rfl (Time_c H kn) ?_)
        rintro _ _ ⟨rfl, H⟩
        refine sr_want rfl (j := 3) (d := 19) rfl rfl rfl (v := false) rfl rfl (ow_not rfl ?_)
        refine sr_op rfl rfl (ow_pick (v := .bool (!(withinB kn 0 1099511627775))) rfl rfl ?_)
        exact sr_live [23, 0, 1, 2, 6, 7, 8] (again _ _ ⟨_, _, rfl, H, by rw [hg] <;> rfl⟩)
      · refine sr_pass rfl (j := 3) (d := 19) rfl rfl rfl (u := true) (v := false) rfl rfl ?_
        refine sr_pass rfl (j := 3) (d := 19) rfl rfl rfl (u := true) (v := false) rfl rfl ?_
        refine sr_pass rfl (j := 3) (d := 19) rfl rfl rfl (u := true) (v := false) rfl rfl ?_
        refine sr_op rfl rfl (ow_pick (v := .bool true) rfl rfl ?_)
        exact sr_live [23, 0, 1, 2, 6, 7, 8] (again _ _ ⟨_, _, rfl, H, by rw [hg] <;> rfl⟩)
    rintro _ _ ⟨r, _, rfl, H, rfl⟩
    refine sr_nil ?_
    refine st_cond ((!(withinB at_ 0 1099511627775)) || (!(withinB kn 0 1099511627775))) rfl (fun hc2 => ?_) (fun hc2 => ?_)
    · refine st_seq ?_
      refine st_region ?_
      refine sr_op rfl rfl (ow_assign (v := .int .i64 0) rfl ?_)
      refine sr_op rfl rfl (ow_assign (v := .bool false) rfl ?_)
      refine sr_op rfl rfl (ow_assign (v := .int .i64 1) rfl ?_)
      refine sr_nil ?_
      refine st_ret hb (hR _ _ (.tuple #[.int .i64 0, .bool false, .int .i64 1]) (res_run (vs := [.int .i64 0, .bool false, .int .i64 1]) Tryd.results26 ⟨_, _, rfl, rfl, ⟨_, _, rfl, rfl, ⟨_, _, rfl, rfl, rfl⟩⟩⟩) ?_)
      exact ⟨_, rfl, by rw [standE, if_pos hok, if_neg (by rw [or2 hc2]; decide)], H.drop 0⟩
    · refine st_skip ?_
      refine st_seq ?_
      refine st_region ?_
      refine sr_op rfl rfl (ow_move (v := .slice A l.length c) rfl ?_)
      refine sr_op rfl rfl (ow_move (v := .int .i64 at_) rfl ?_)
      refine sr_op rfl rfl (ow_move (v := .int .i64 kn) rfl ?_)
      refine sr_op rfl rfl (ow_call en70 rfl (Force_c H hl at_ kn) ?_)
      rintro _ _ ⟨⟨be, rfl, hfo⟩, H⟩
      refine sr_op rfl rfl (ow_assign (v := .int .i64 be) rfl ?_)
      refine sr_nil ?_
      refine st_seq ?_
      refine st_seq ?_
      refine st_region ?_
      refine sr_op rfl rfl (ow_move (v := .int .i64 be) rfl ?_)
      refine sr_op rfl rfl (ow_lss rfl rfl ?_)
      refine sr_nil ?_
      refine st_cond (decide (be < 0)) rfl (fun hc3 => ?_) (fun hc3 => ?_)
      · have hc3 := of_decide_eq_true hc3
        refine st_seq ?_
        refine st_region ?_
        refine sr_op rfl rfl (ow_assign (v := .int .i64 0) rfl ?_)
        refine sr_op rfl rfl (ow_assign (v := .bool false) rfl ?_)
        refine sr_op rfl rfl (ow_assign (v := .int .i64 0) rfl ?_)
        refine sr_nil ?_
        refine st_ret hb (hR _ _ (.tuple #[.int .i64 0, .bool false, .int .i64 0]) (res_run (vs := [.int .i64 0, .bool false, .int .i64 0]) Tryd.results26 ⟨_, _, rfl, rfl, ⟨_, _, rfl, rfl, ⟨_, _, rfl, rfl, rfl⟩⟩⟩) ?_)
        have hs : l.foldl (stStep at_ kn) (0, 0, false) = (0, 0, false) := by
          rcases hfo with ⟨_, h⟩ | ⟨h, _⟩
          · exact h
          · omega
        exact ⟨_, rfl, by rw [standE, if_pos hok, if_pos (or2n hc2), hs], H.drop 0⟩
      · have hc3 := of_decide_eq_false hc3
        refine st_skip ?_
        refine st_seq ?_
        refine st_region ?_
        refine sr_op rfl rfl (ow_move (v := .slice A l.length c) rfl ?_)
        refine sr_op rfl rfl (ow_move (v := .int .i64 be) rfl ?_)
        obtain ⟨pi, hpi⟩ : ∃ pi : Nat, be = (pi : Int) := ⟨be.toNat, by omega⟩
        have hbl : be < (l.length : Int) := by rcases hfo with ⟨h, _⟩ | ⟨_, h, _⟩ <;> omega
        obtain ⟨x4, he4⟩ : ∃ q_, l[pi]? = some q_ := ⟨_, List.getElem?_eq_getElem (by omega)⟩
        obtain ⟨b4, o4, us4, hA4, hat4, hul4, hr4⟩ := RepS.get hl he4
        obtain ⟨vs4, rfl, x4no, x4at, x4kn, x4p⟩ := ve_iff.1 hr4
        have x4p0 := x4p
        obtain ⟨v14, v24, v34, v44, rfl, x4pn, x4k, x4o, x4r, x4ck, x4cn, x4cno, x4cs, x4cl, x4pm⟩ := po_iff.1 x4p
        obtain ⟨Ak4, ck4, rfl, x4kA, x4kB, x4k⟩ := RepS.open_ x4k
        obtain ⟨Ao4, co4, rfl, x4oA, x4oB, x4o⟩ := RepS.open_ x4o
        obtain ⟨Ar4, cr4, rfl, x4rA, x4rB, x4r⟩ := RepS.open_ x4r
        obtain ⟨Acl4, ccl4, rfl, x4clA, x4clB, x4cl⟩ := RepS.open_ x4cl
        refine sr_op rfl rfl (ow_indexAddrA sl36 ty52 hA4 rfl rfl (by omega) (by omega) (r := o4 + pi * 13) (by rw [hpi]; rfl) ?_)
        refine sr_op rfl rfl (ow_fieldAddr fd52_0 ty3 rfl rfl (r := o4 + pi * 13 + 0) rfl ?_)
        refine sr_op rfl rfl (ow_loadI (v := .int .i64 x4.no) ty3 H rfl (At.sub (vs := [.int .i64 x4.no]) hat4 0 rfl) rfl rfl rfl ?_)
        refine sr_op rfl rfl (ow_assign (v := .int .i64 x4.no) rfl ?_)
        refine sr_op rfl rfl (ow_assign (v := .bool true) rfl ?_)
        refine sr_op rfl rfl (ow_assign (v := .int .i64 0) rfl ?_)
        refine sr_nil ?_
        refine st_ret hb (hR _ _ (.tuple #[.int .i64 x4.no, .bool true, .int .i64 0]) (res_run (vs := [.int .i64 x4.no, .bool true, .int .i64 0]) Tryd.results26 ⟨_, _, rfl, rfl, ⟨_, _, rfl, rfl, ⟨_, _, rfl, rfl, rfl⟩⟩⟩) ?_)
        have hs : ∃ a_, l.foldl (stStep at_ kn) (0, 0, false) = (x4.no, a_, true) := by
          rcases hfo with ⟨h, _⟩ | ⟨_, _, y_, hy_, h⟩
          · omega
          · rw [hpi, Int.toNat_natCast, he4] at hy_
            cases hy_
            exact ⟨_, h⟩
        obtain ⟨a_, hs⟩ := hs
        exact ⟨_, rfl, by rw [standE, if_pos hok, if_pos (or2n hc2), hs], H.drop 0⟩
end Go.Proofs.YtbbflenaeihmeaaDoor
