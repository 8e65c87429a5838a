/-
  Walks: the reference of policies: CheckAll, Force, Standing.
-/
import Derived.Test.YtbbflenaeihmeaaDoorP16
set_option linter.unusedVariables false
set_option linter.unusedSimpArgs false
set_option maxRecDepth 10000
set_option maxHeartbeats 4000000
namespace Go.Proofs.YtbbflenaeihmeaaDoor
open Go Go.RowKit

theorem ca_ok {x : Ve} {la : Int} {i : Nat} {c : Bool} (hl : (i = 0 ∧ la = -1) ∨ (0 < i ∧ 0 ≤ la)) (hc : (decide (x.no < 0) || (decide (1048576 < x.no) || (bif decide (0 < (i : Int)) then decide (x.no ≤ la) || (!withinB x.at_ 0 1099511627775 || (!withinB x.known 0 1099511627775 || !decide (checkE x.policy = 0))) else !withinB x.at_ 0 1099511627775 || (!withinB x.known 0 1099511627775 || !decide (checkE x.policy = 0))))) = c) : okV x la = !c := by
  subst hc
  unfold okV
  generalize withinB x.at_ 0 1099511627775 = e
  generalize withinB x.known 0 1099511627775 = g
  generalize decide (checkE x.policy = 0) = h
  have hw : withinB x.no (la + 1) 1048576 = !(decide (x.no < 0) || (decide (1048576 < x.no) || (bif decide (0 < (i : Int)) then decide (x.no ≤ la) else false))) := by
    rw [Bool.eq_iff_iff]
    rcases hl with ⟨h1, h2⟩ | ⟨h1, h2⟩
    · subst h1 h2
      simp [withinB]
    · have : decide (0 < (i : Int)) = true := by rw [decide_eq_true_eq]; omega
      rw [this]
      simp [withinB]
      omega
  rw [hw]
  cases decide (x.no < 0) <;> cases decide (1048576 < x.no) <;> cases decide (0 < (i : Int)) <;> cases decide (x.no ≤ la) <;> cases e <;> cases g <;> cases h <;> rfl
theorem refCheckAll_c {B I L w} (H : Hp B I w L) {l : List Ve} {v : Value} (hl : RepS encVe I 13 l v) : Calls Tryd.prog 28 #[v] w (Rt fun r w' => r = .int .i64 (allE l) ∧ Hp B I w' L) := by
  obtain ⟨A, c, rfl, hlc, hcm, hl⟩ := hl.open_
  refine calls_st (n := 59) Tryd.func28 rfl rfl rfl ?_
  intro G bF cs hb hfn hR hP
  simp only [ini]
  refine st_seq ?_
  refine st_region ?_
  refine sr_op rfl rfl (ow_assign (v := .int .i64 0) rfl ?_)
  refine sr_nil ?_
  refine st_seq ?_
  refine st_seq ?_
  refine st_region ?_
  refine sr_op rfl rfl (ow_move (v := .slice A l.length c) rfl ?_)
  refine sr_op rfl rfl (ow_lenS sl36 rfl rfl ?_)
  refine sr_op rfl rfl (ow_gtr rfl rfl ?_)
  refine sr_nil ?_
  refine st_cond (decide (256 < (l.length : Int))) rfl (fun hc1 => ?_) (fun hc1 => ?_)
  · refine st_seq ?_
    refine st_region ?_
    refine sr_op rfl rfl (ow_assign (v := .int .i64 2) rfl ?_)
    refine sr_nil ?_
    refine st_ret hb (hR _ _ (.int .i64 2) (res_run (vs := [.int .i64 2]) Tryd.results28 ⟨_, _, rfl, rfl, rfl⟩) ?_)
    exact ⟨_, rfl, by rw [allE, if_pos (of_decide_eq_true hc1)], H.drop 0⟩
  · refine st_skip ?_
    refine st_seq ?_
    refine st_seq ?_
    refine st_region ?_
    refine sr_op rfl rfl (ow_assign (v := .int .i64 0) rfl ?_)
    refine sr_nil ?_
    refine st_block ?_
    refine st_loop ?_
    refine st_live [0, 3] ?_
    refine st_ind (fun d_ m_ w_ => ∃ (i : Nat) (la : Int) (r_ : Sl), d_ = l.length - i ∧ m_ = (0, .slice A l.length c) :: (3, .int .i64 (i : Int)) :: r_ ∧ Hp B I w_ (L) ∧ i ≤ l.length ∧ -1 ≤ la ∧ la ≤ 1048576 ∧ ((i = 0 ∧ la = -1) ∨ (0 < i ∧ 0 ≤ la ∧ ∃ y_, l[i - 1]? = some y_ ∧ la = y_.no)) ∧ allF l (-1) = allF (l.drop i) la) _ ⟨0, -1, _, rfl, rfl, H, Nat.zero_le _, by omega, by omega, .inl ⟨rfl, rfl⟩, rfl⟩ ?_
    rintro _ _ _ ⟨i, la, r2, rfl, rfl, H, hi, hla1, hla2, hlink, ha⟩ ih3
    have hlink2 : (i = 0 ∧ la = -1) ∨ (0 < i ∧ 0 ≤ la) := hlink.imp id (fun h => ⟨h.1, h.2.1⟩)
    refine st_seq ?_
    refine st_seq ?_
    refine st_region ?_
    refine sr_op rfl rfl (ow_move (v := .int .i64 (i : Int)) rfl ?_)
    refine sr_op rfl rfl (ow_move (v := .slice A l.length c) rfl ?_)
    refine sr_op rfl rfl (ow_lenS sl36 rfl rfl ?_)
    refine sr_op rfl rfl (ow_lss rfl rfl ?_)
    refine sr_nil ?_
    refine st_cond (decide ((i : Int) < (l.length : Int))) rfl (fun hc4 => ?_) (fun hc4 => ?_)
    · have hc4 := of_decide_eq_true hc4
      refine st_skip ?_
      refine st_seq ?_
      refine st_block ?_
      refine st_seq ?_
      refine st_region ?_
      refine sr_op rfl rfl (ow_move (v := .slice A l.length c) rfl ?_)
      refine sr_op rfl rfl (ow_move (v := .int .i64 (i : Int)) rfl ?_)
      obtain ⟨x5, he5⟩ : ∃ q_, l[i]? = some q_ := ⟨_, List.getElem?_eq_getElem (by omega)⟩
      obtain ⟨b5, o5, us5, hA5, hat5, hul5, hr5⟩ := RepS.get hl he5
      obtain ⟨vs5, rfl, x5no, x5at, x5kn, x5p⟩ := ve_iff.1 hr5
      have x5p0 := x5p
      obtain ⟨v15, v25, v35, v45, rfl, x5pn, x5k, x5o, x5r, x5ck, x5cn, x5cno, x5cs, x5cl, x5pm⟩ := po_iff.1 x5p
      obtain ⟨Ak5, ck5, rfl, x5kA, x5kB, x5k⟩ := RepS.open_ x5k
      obtain ⟨Ao5, co5, rfl, x5oA, x5oB, x5o⟩ := RepS.open_ x5o
      obtain ⟨Ar5, cr5, rfl, x5rA, x5rB, x5r⟩ := RepS.open_ x5r
      obtain ⟨Acl5, ccl5, rfl, x5clA, x5clB, x5cl⟩ := RepS.open_ x5cl
      refine sr_op rfl rfl (ow_indexAddrA sl36 ty52 hA5 rfl rfl (by omega) (by omega) (r := o5 + i * 13) rfl ?_)
      refine sr_op rfl rfl (ow_loadI (v := .agg #[.int .i64 x5.no, .int .i64 x5.at_, .int .i64 x5.known, .string x5.policy.name, .slice Ak5 x5.policy.kinds.length ck5, .slice Ao5 x5.policy.offices.length co5, .slice Ar5 x5.policy.rules.length cr5, .int .i64 x5.policy.change.kind, .int .i64 x5.policy.change.n, .int .i64 x5.policy.change.no, .string x5.policy.change.name, .slice Acl5 x5.policy.change.l.length ccl5, .int .i64 x5.policy.mode]) ty52 H rfl hat5 rfl rfl rfl ?_)
      refine sr_op rfl rfl (ow_alloc ty52 H [.int .i64 0, .int .i64 0, .int .i64 0, .string ⟨#[]⟩, .slice none 0 0, .slice none 0 0, .slice none 0 0, .int .i64 0, .int .i64 0, .int .i64 0, .string ⟨#[]⟩, .slice none 0 0, .int .i64 0] rfl (fun g6 _ H => ?_))
      refine sr_op rfl rfl (ow_store ty52 H rfl (v := .agg #[.int .i64 x5.no, .int .i64 x5.at_, .int .i64 x5.known, .string x5.policy.name, .slice Ak5 x5.policy.kinds.length ck5, .slice Ao5 x5.policy.offices.length co5, .slice Ar5 x5.policy.rules.length cr5, .int .i64 x5.policy.change.kind, .int .i64 x5.policy.change.n, .int .i64 x5.policy.change.no, .string x5.policy.change.name, .slice Acl5 x5.policy.change.l.length ccl5, .int .i64 x5.policy.mode]) rfl [.int .i64 x5.no, .int .i64 x5.at_, .int .i64 x5.known, .string x5.policy.name, .slice Ak5 x5.policy.kinds.length ck5, .slice Ao5 x5.policy.offices.length co5, .slice Ar5 x5.policy.rules.length cr5, .int .i64 x5.policy.change.kind, .int .i64 x5.policy.change.n, .int .i64 x5.policy.change.no, .string x5.policy.change.name, .slice Acl5 x5.policy.change.l.length ccl5, .int .i64 x5.policy.mode] rfl rfl rfl 0 rfl rfl (fun _ H => ?_))
      refine sr_nil ?_
      refine st_seq ?_
      refine st_cut (fun m_ w_ => ∃ (r_ : Sl) (v58_ : Bool), m_ = (0, .slice A l.length c) :: (3, .int .i64 (i : Int)) :: (58, .bool v58_) :: r_ ∧ Hp B I w_ ((g6, Ob [.int .i64 x5.no, .int .i64 x5.at_, .int .i64 x5.known, .string x5.policy.name, .slice Ak5 x5.policy.kinds.length ck5, .slice Ao5 x5.policy.offices.length co5, .slice Ar5 x5.policy.rules.length cr5, .int .i64 x5.policy.change.kind, .int .i64 x5.policy.change.n, .int .i64 x5.policy.change.no, .string x5.policy.change.name, .slice Acl5 x5.policy.change.l.length ccl5, .int .i64 x5.policy.mode] 52) :: L) ∧ v58_ = ((decide (x5.no < 0)) || ((decide (1048576 < x5.no)) || (bif (decide (0 < (i : Int))) then ((decide (x5.no ≤ la)) || (!(withinB x5.at_ 0 1099511627775) || (!(withinB x5.known 0 1099511627775) || (!decide (checkE x5.policy = 0))))) else (!(withinB x5.at_ 0 1099511627775) || (!(withinB x5.known 0 1099511627775) || (!decide (checkE x5.policy = 0)))))))) (fun again => ?_) ?_
      · rcases Bool.eq_false_or_eq_true (decide (x5.no < 0)) with hg7 | hg7
        · refine st_draw (F := (fun w_ => ∃ I2, Le I I2 ∧ Hp B I2 w_ [(g6, Ob [.int .i64 x5.no, .int .i64 x5.at_, .int .i64 x5.known, .string x5.policy.name, .slice Ak5 x5.policy.kinds.length ck5, .slice Ao5 x5.policy.offices.length co5, .slice Ar5 x5.policy.rules.length cr5, .int .i64 x5.policy.change.kind, .int .i64 x5.policy.change.n, .int .i64 x5.policy.change.no, .string x5.policy.change.name, .slice Acl5 x5.policy.change.l.length ccl5, .int .i64 x5.policy.mode] 52)])) (p0 := [0, 1, 2, 3, 4, 5, 6, 7, 8, 9, 10, 11, 12, 13, 14, 15, 16, 17, 18, 19, 20, 21, 22, 23, 24, 25]) (plan := [(26, [27, 28, 29, 30, 31], []), (32, [33, 34, 35, 36, 37], []), (38, [39, 40], [])]) [] [] [(43, undef), (42, undef), (41, .bool true), (40, .bool true), (39, undef), (38, undef), (37, undef), (36, undef), (35, undef), (34, undef), (33, undef), (32, undef), (31, undef), (30, undef), (29, undef), (28, undef), (27, undef), (26, .bool true), (25, .bool true), (24, undef), (23, undef), (22, undef), (21, .bool (decide (x5.no < 0))), (20, .bool (decide (x5.no < 0))), (19, .int .i64 x5.no), (18, .pointer (some ⟨g6, 0, none⟩))] (by kernel_rfl) rfl ?_ ⟨_, Le.refl _, H.drew.pick [0] (by decide)⟩ ?_
          · refine ⟨kn_op rfl rfl (wantB_none rfl) fun _ hF2 => ?_, ?_⟩
            · obtain ⟨_, hle2, H2⟩ := hF2
              refine  (ow_fieldAddr fd52_0 ty3 rfl rfl (r := 0) rfl ?_)
              exact ⟨rfl, rfl⟩
            refine ⟨kn_op rfl rfl (wantB_none rfl) fun _ hF2 => ?_, ?_⟩
            · obtain ⟨_, hle2, H2⟩ := hF2
              refine  (ow_load (v := .int .i64 x5.no) ty3 H2 rfl 0 rfl rfl rfl rfl ?_)
              exact ⟨rfl, rfl⟩
            refine ⟨kn_op rfl rfl (wantB_none rfl) fun _ hF2 => ?_, ?_⟩
            · obtain ⟨_, hle2, H2⟩ := hF2
              refine  (ow_lss rfl rfl ?_)
              exact ⟨rfl, rfl⟩
            refine ⟨kn_op rfl rfl (wantB_none rfl) fun _ hF2 => ?_, ?_⟩
            · obtain ⟨_, hle2, H2⟩ := hF2
              refine  (ow_move (v := .bool (decide (x5.no < 0))) rfl ?_)
              exact ⟨rfl, rfl⟩
            refine ⟨kn_pass rfl rfl ((wantB_some (j := 3) rfl rfl (d := 21) rfl rfl (u := true) (by exact congrArg Value.bool hg7)).trans rfl) rfl, ?_⟩
            refine ⟨kn_pass rfl rfl ((wantB_some (j := 3) rfl rfl (d := 21) rfl rfl (u := true) (by exact congrArg Value.bool hg7)).trans rfl) rfl, ?_⟩
            refine ⟨kn_pass rfl rfl ((wantB_some (j := 3) rfl rfl (d := 21) rfl rfl (u := true) (by exact congrArg Value.bool hg7)).trans rfl) rfl, ?_⟩
            refine ⟨kn_op rfl rfl (wantB_none rfl) fun _ hF2 => ?_, ?_⟩
            · obtain ⟨_, hle2, H2⟩ := hF2
              refine  (ow_pick (a := true) (v := .bool true) (congrArg Value.bool hg7) rfl ?_)
              exact ⟨rfl, rfl⟩
            refine ⟨kn_op rfl rfl (wantB_none rfl) fun _ hF2 => ?_, ?_⟩
            · obtain ⟨_, hle2, H2⟩ := hF2
              refine  (ow_move (v := .bool true) rfl ?_)
              exact ⟨rfl, rfl⟩
            refine ⟨kn_pass rfl rfl ((wantB_some (j := 8) rfl rfl (d := 26) rfl rfl (u := true) rfl).trans rfl) rfl, ?_⟩
            refine ⟨kn_pass rfl rfl ((wantB_some (j := 8) rfl rfl (d := 26) rfl rfl (u := true) rfl).trans rfl) rfl, ?_⟩
            refine ⟨kn_pass rfl rfl ((wantB_some (j := 8) rfl rfl (d := 26) rfl rfl (u := true) rfl).trans rfl) rfl, ?_⟩
            refine ⟨kn_pass rfl rfl (wantB_undef (j := 11) rfl rfl (d := 29) rfl rfl rfl) rfl, ?_⟩
            refine ⟨kn_pass rfl rfl (wantB_undef (j := 11) rfl rfl (d := 29) rfl rfl rfl) rfl, ?_⟩
            refine ⟨kn_pass rfl rfl (wantB_undef (j := 11) rfl rfl (d := 29) rfl rfl rfl) rfl, ?_⟩
            refine ⟨kn_pass rfl rfl (wantB_undef (j := 11) rfl rfl (d := 29) rfl rfl rfl) rfl, ?_⟩
            refine ⟨kn_pass rfl rfl (wantB_undef (j := 11) rfl rfl (d := 29) rfl rfl rfl) rfl, ?_⟩
            refine ⟨kn_pass rfl rfl (wantB_undef (j := 11) rfl rfl (d := 29) rfl rfl rfl) rfl, ?_⟩
            refine ⟨kn_pass rfl rfl (wantB_undef (j := 11) rfl rfl (d := 29) rfl rfl rfl) rfl, ?_⟩
            refine ⟨kn_pass rfl rfl (wantB_undef (j := 11) rfl rfl (d := 29) rfl rfl rfl) rfl, ?_⟩
            refine ⟨kn_pass rfl rfl (wantB_undef (j := 11) rfl rfl (d := 29) rfl rfl rfl) rfl, ?_⟩
            refine ⟨kn_pass rfl rfl ((wantB_some (j := 8) rfl rfl (d := 26) rfl rfl (u := true) rfl).trans rfl) rfl, ?_⟩
            refine ⟨kn_op rfl rfl (wantB_none rfl) fun _ hF2 => ?_, ?_⟩
            · obtain ⟨_, hle2, H2⟩ := hF2
              refine  (ow_pick (v := .bool true) rfl rfl ?_)
              exact ⟨rfl, rfl⟩
            refine ⟨kn_op rfl rfl (wantB_none rfl) fun _ hF2 => ?_, ?_⟩
            · obtain ⟨_, hle2, H2⟩ := hF2
              refine  (ow_move (v := .bool true) rfl ?_)
              exact ⟨rfl, rfl⟩
            refine ⟨kn_pass rfl rfl ((wantB_some (j := 23) rfl rfl (d := 41) rfl rfl (u := true) rfl).trans rfl) rfl, ?_⟩
            refine ⟨kn_pass rfl rfl ((wantB_some (j := 23) rfl rfl (d := 41) rfl rfl (u := true) rfl).trans rfl) rfl, ?_⟩
            exact trivial
          have H := H.drew
          refine cw_pass rfl ((wantB_some (j := 23) rfl rfl (d := 41) rfl rfl (u := true) rfl).trans rfl) ?_
          refine af_some [(49, undef), (48, undef), (47, .bool true), (46, .bool true), (45, undef)] (fun w_ => ∃ I2, Le I I2 ∧ Hp B I2 w_ [(g6, Ob [.int .i64 x5.no, .int .i64 x5.at_, .int .i64 x5.known, .string x5.policy.name, .slice Ak5 x5.policy.kinds.length ck5, .slice Ao5 x5.policy.offices.length co5, .slice Ar5 x5.policy.rules.length cr5, .int .i64 x5.policy.change.kind, .int .i64 x5.policy.change.n, .int .i64 x5.policy.change.no, .string x5.policy.change.name, .slice Acl5 x5.policy.change.l.length ccl5, .int .i64 x5.policy.mode] 52)]) rfl ⟨_, Le.refl _, H.pick [0] (by decide)⟩ ?_ ?_
          · refine ⟨kn_pass rfl rfl ((wantB_some (j := 23) rfl rfl (d := 41) rfl rfl (u := true) rfl).trans rfl) rfl, ?_⟩
            refine ⟨kn_op rfl rfl (wantB_none rfl) fun _ hF2 => ?_, ?_⟩
            · obtain ⟨_, hle2, H2⟩ := hF2
              refine  (ow_pick (v := .bool true) rfl rfl ?_)
              exact ⟨rfl, rfl⟩
            refine ⟨kn_op rfl rfl (wantB_none rfl) fun _ hF2 => ?_, ?_⟩
            · obtain ⟨_, hle2, H2⟩ := hF2
              refine  (ow_move (v := .bool true) rfl ?_)
              exact ⟨rfl, rfl⟩
            refine ⟨kn_pass rfl rfl ((wantB_some (j := 29) rfl rfl (d := 47) rfl rfl (u := true) rfl).trans rfl) rfl, ?_⟩
            refine ⟨kn_pass rfl rfl ((wantB_some (j := 29) rfl rfl (d := 47) rfl rfl (u := true) rfl).trans rfl) rfl, ?_⟩
            exact trivial
          refine cw_pass rfl ((wantB_some (j := 29) rfl rfl (d := 47) rfl rfl (u := true) rfl).trans rfl) ?_
          refine af_some [(55, undef), (54, undef), (53, .bool true), (52, .bool true), (51, undef)] (fun w_ => ∃ I2, Le I I2 ∧ Hp B I2 w_ [(g6, Ob [.int .i64 x5.no, .int .i64 x5.at_, .int .i64 x5.known, .string x5.policy.name, .slice Ak5 x5.policy.kinds.length ck5, .slice Ao5 x5.policy.offices.length co5, .slice Ar5 x5.policy.rules.length cr5, .int .i64 x5.policy.change.kind, .int .i64 x5.policy.change.n, .int .i64 x5.policy.change.no, .string x5.policy.change.name, .slice Acl5 x5.policy.change.l.length ccl5, .int .i64 x5.policy.mode] 52)]) rfl ⟨_, Le.refl _, H.pick [0] (by decide)⟩ ?_ ?_
          · refine ⟨kn_pass rfl rfl ((wantB_some (j := 29) rfl rfl (d := 47) rfl rfl (u := true) rfl).trans rfl) rfl, ?_⟩
            refine ⟨kn_op rfl rfl (wantB_none rfl) fun _ hF2 => ?_, ?_⟩
            · obtain ⟨_, hle2, H2⟩ := hF2
              refine  (ow_pick (v := .bool true) rfl rfl ?_)
              exact ⟨rfl, rfl⟩
            refine ⟨kn_op rfl rfl (wantB_none rfl) fun _ hF2 => ?_, ?_⟩
            · obtain ⟨_, hle2, H2⟩ := hF2
              refine  (ow_move (v := .bool true) rfl ?_)
              exact ⟨rfl, rfl⟩
            refine ⟨kn_pass rfl rfl ((wantB_some (j := 35) rfl rfl (d := 53) rfl rfl (u := true) rfl).trans rfl) rfl, ?_⟩
            refine ⟨kn_pass rfl rfl ((wantB_some (j := 35) rfl rfl (d := 53) rfl rfl (u := true) rfl).trans rfl) rfl, ?_⟩
            exact trivial
          refine cw_pass rfl ((wantB_some (j := 35) rfl rfl (d := 53) rfl rfl (u := true) rfl).trans rfl) ?_
          refine af_some [(58, .bool true), (57, undef)] (fun w_ => ∃ I2, Le I I2 ∧ Hp B I2 w_ [(g6, Ob [.int .i64 x5.no, .int .i64 x5.at_, .int .i64 x5.known, .string x5.policy.name, .slice Ak5 x5.policy.kinds.length ck5, .slice Ao5 x5.policy.offices.length co5, .slice Ar5 x5.policy.rules.length cr5, .int .i64 x5.policy.change.kind, .int .i64 x5.policy.change.n, .int .i64 x5.policy.change.no, .string x5.policy.change.name, .slice Acl5 x5.policy.change.l.length ccl5, .int .i64 x5.policy.mode] 52)]) rfl ⟨_, Le.refl _, H.pick [0] (by decide)⟩ ?_ ?_
          · refine ⟨kn_pass rfl rfl ((wantB_some (j := 35) rfl rfl (d := 53) rfl rfl (u := true) rfl).trans rfl) rfl, ?_⟩
            refine ⟨kn_op rfl rfl (wantB_none rfl) fun _ hF2 => ?_, ?_⟩
            · obtain ⟨_, hle2, H2⟩ := hF2
              refine  (ow_pick (v := .bool true) rfl rfl ?_)
              exact ⟨rfl, rfl⟩
            exact trivial
          refine cw_nil ?_
          exact st_live [0, 3, 58] (again _ _ ⟨_, _, rfl, H, by first | rfl | (rw [hg7] <;> rfl) | simp [hg7]⟩)
        · rcases Bool.eq_false_or_eq_true (decide (1048576 < x5.no)) with hg8 | hg8
          · refine st_draw (F := (fun w_ => ∃ I2, Le I I2 ∧ Hp B I2 w_ [(g6, Ob [.int .i64 x5.no, .int .i64 x5.at_, .int .i64 x5.known, .string x5.policy.name, .slice Ak5 x5.policy.kinds.length ck5, .slice Ao5 x5.policy.offices.length co5, .slice Ar5 x5.policy.rules.length cr5, .int .i64 x5.policy.change.kind, .int .i64 x5.policy.change.n, .int .i64 x5.policy.change.no, .string x5.policy.change.name, .slice Acl5 x5.policy.change.l.length ccl5, .int .i64 x5.policy.mode] 52)])) (p0 := [0, 1, 2, 3, 4, 5, 6, 7, 8, 9, 10, 11, 12, 13, 14, 15, 16, 17, 18, 19, 20, 21, 22, 23, 24, 25]) (plan := [(26, [27, 28, 29, 30, 31], []), (32, [33, 34, 35, 36, 37], []), (38, [39, 40], [])]) [] [] [(43, undef), (42, undef), (41, .bool true), (40, .bool true), (39, undef), (38, undef), (37, undef), (36, undef), (35, undef), (34, undef), (33, undef), (32, undef), (31, undef), (30, undef), (29, undef), (28, undef), (27, undef), (26, .bool (decide (1048576 < x5.no))), (25, .bool (decide (1048576 < x5.no))), (24, .bool (decide (1048576 < x5.no))), (23, .int .i64 x5.no), (22, .pointer (some ⟨g6, 0, none⟩)), (21, .bool (decide (x5.no < 0))), (20, .bool (decide (x5.no < 0))), (19, .int .i64 x5.no), (18, .pointer (some ⟨g6, 0, none⟩))] (by kernel_rfl) rfl ?_ ⟨_, Le.refl _, H.drew.pick [0] (by decide)⟩ ?_
            · refine ⟨kn_op rfl rfl (wantB_none rfl) fun _ hF2 => ?_, ?_⟩
              · obtain ⟨_, hle2, H2⟩ := hF2
                refine  (ow_fieldAddr fd52_0 ty3 rfl rfl (r := 0) rfl ?_)
                exact ⟨rfl, rfl⟩
              refine ⟨kn_op rfl rfl (wantB_none rfl) fun _ hF2 => ?_, ?_⟩
              · obtain ⟨_, hle2, H2⟩ := hF2
                refine  (ow_load (v := .int .i64 x5.no) ty3 H2 rfl 0 rfl rfl rfl rfl ?_)
                exact ⟨rfl, rfl⟩
              refine ⟨kn_op rfl rfl (wantB_none rfl) fun _ hF2 => ?_, ?_⟩
              · obtain ⟨_, hle2, H2⟩ := hF2
                refine  (ow_lss rfl rfl ?_)
                exact ⟨rfl, rfl⟩
              refine ⟨kn_op rfl rfl (wantB_none rfl) fun _ hF2 => ?_, ?_⟩
              · obtain ⟨_, hle2, H2⟩ := hF2
                refine  (ow_move (v := .bool (decide (x5.no < 0))) rfl ?_)
                exact ⟨rfl, rfl⟩
              refine ⟨kn_op rfl rfl ((wantB_some (j := 3) rfl rfl (d := 21) rfl rfl (u := false) (by exact congrArg Value.bool hg7)).trans rfl) fun _ hF2 => ?_, ?_⟩
              · obtain ⟨_, hle2, H2⟩ := hF2
                refine  (ow_fieldAddr fd52_0 ty3 rfl rfl (r := 0) rfl ?_)
                exact ⟨rfl, rfl⟩
              refine ⟨kn_op rfl rfl ((wantB_some (j := 3) rfl rfl (d := 21) rfl rfl (u := false) (by exact congrArg Value.bool hg7)).trans rfl) fun _ hF2 => ?_, ?_⟩
              · obtain ⟨_, hle2, H2⟩ := hF2
                refine  (ow_load (v := .int .i64 x5.no) ty3 H2 rfl 0 rfl rfl rfl rfl ?_)
                exact ⟨rfl, rfl⟩
              refine ⟨kn_op rfl rfl ((wantB_some (j := 3) rfl rfl (d := 21) rfl rfl (u := false) (by exact congrArg Value.bool hg7)).trans rfl) fun _ hF2 => ?_, ?_⟩
              · obtain ⟨_, hle2, H2⟩ := hF2
                refine  (ow_gtr rfl rfl ?_)
                exact ⟨rfl, rfl⟩
              refine ⟨kn_op rfl rfl (wantB_none rfl) fun _ hF2 => ?_, ?_⟩
              · obtain ⟨_, hle2, H2⟩ := hF2
                refine  (ow_pick (a := false) (v := .bool (decide (1048576 < x5.no))) (congrArg Value.bool hg7) rfl ?_)
                exact ⟨rfl, rfl⟩
              refine ⟨kn_op rfl rfl (wantB_none rfl) fun _ hF2 => ?_, ?_⟩
              · obtain ⟨_, hle2, H2⟩ := hF2
                refine  (ow_move (v := .bool (decide (1048576 < x5.no))) rfl ?_)
                exact ⟨rfl, rfl⟩
              refine ⟨kn_pass rfl rfl ((wantB_some (j := 8) rfl rfl (d := 26) rfl rfl (u := true) (by exact congrArg Value.bool hg8)).trans rfl) rfl, ?_⟩
              refine ⟨kn_pass rfl rfl ((wantB_some (j := 8) rfl rfl (d := 26) rfl rfl (u := true) (by exact congrArg Value.bool hg8)).trans rfl) rfl, ?_⟩
              refine ⟨kn_pass rfl rfl ((wantB_some (j := 8) rfl rfl (d := 26) rfl rfl (u := true) (by exact congrArg Value.bool hg8)).trans rfl) rfl, ?_⟩
              refine ⟨kn_pass rfl rfl (wantB_undef (j := 11) rfl rfl (d := 29) rfl rfl rfl) rfl, ?_⟩
              refine ⟨kn_pass rfl rfl (wantB_undef (j := 11) rfl rfl (d := 29) rfl rfl rfl) rfl, ?_⟩
              refine ⟨kn_pass rfl rfl (wantB_undef (j := 11) rfl rfl (d := 29) rfl rfl rfl) rfl, ?_⟩
              refine ⟨kn_pass rfl rfl (wantB_undef (j := 11) rfl rfl (d := 29) rfl rfl rfl) rfl, ?_⟩
              refine ⟨kn_pass rfl rfl (wantB_undef (j := 11) rfl rfl (d := 29) rfl rfl rfl) rfl, ?_⟩
              refine ⟨kn_pass rfl rfl (wantB_undef (j := 11) rfl rfl (d := 29) rfl rfl rfl) rfl, ?_⟩
              refine ⟨kn_pass rfl rfl (wantB_undef (j := 11) rfl rfl (d := 29) rfl rfl rfl) rfl, ?_⟩
              refine ⟨kn_pass rfl rfl (wantB_undef (j := 11) rfl rfl (d := 29) rfl rfl rfl) rfl, ?_⟩
              refine ⟨kn_pass rfl rfl (wantB_undef (j := 11) rfl rfl (d := 29) rfl rfl rfl) rfl, ?_⟩
              refine ⟨kn_pass rfl rfl ((wantB_some (j := 8) rfl rfl (d := 26) rfl rfl (u := true) (by exact congrArg Value.bool hg8)).trans rfl) rfl, ?_⟩
              refine ⟨kn_op rfl rfl (wantB_none rfl) fun _ hF2 => ?_, ?_⟩
              · obtain ⟨_, hle2, H2⟩ := hF2
                refine  (ow_pick (a := true) (v := .bool true) (congrArg Value.bool hg8) rfl ?_)
                exact ⟨rfl, rfl⟩
              refine ⟨kn_op rfl rfl (wantB_none rfl) fun _ hF2 => ?_, ?_⟩
              · obtain ⟨_, hle2, H2⟩ := hF2
                refine  (ow_move (v := .bool true) rfl ?_)
                exact ⟨rfl, rfl⟩
              refine ⟨kn_pass rfl rfl ((wantB_some (j := 23) rfl rfl (d := 41) rfl rfl (u := true) rfl).trans rfl) rfl, ?_⟩
              refine ⟨kn_pass rfl rfl ((wantB_some (j := 23) rfl rfl (d := 41) rfl rfl (u := true) rfl).trans rfl) rfl, ?_⟩
              exact trivial
            have H := H.drew
            refine cw_pass rfl ((wantB_some (j := 23) rfl rfl (d := 41) rfl rfl (u := true) rfl).trans rfl) ?_
            refine af_some [(49, undef), (48, undef), (47, .bool true), (46, .bool true), (45, undef)] (fun w_ => ∃ I2, Le I I2 ∧ Hp B I2 w_ [(g6, Ob [.int .i64 x5.no, .int .i64 x5.at_, .int .i64 x5.known, .string x5.policy.name, .slice Ak5 x5.policy.kinds.length ck5, .slice Ao5 x5.policy.offices.length co5, .slice Ar5 x5.policy.rules.length cr5, .int .i64 x5.policy.change.kind, .int .i64 x5.policy.change.n, .int .i64 x5.policy.change.no, .string x5.policy.change.name, .slice Acl5 x5.policy.change.l.length ccl5, .int .i64 x5.policy.mode] 52)]) rfl ⟨_, Le.refl _, H.pick [0] (by decide)⟩ ?_ ?_
            · refine ⟨kn_pass rfl rfl ((wantB_some (j := 23) rfl rfl (d := 41) rfl rfl (u := true) rfl).trans rfl) rfl, ?_⟩
              refine ⟨kn_op rfl rfl (wantB_none rfl) fun _ hF2 => ?_, ?_⟩
              · obtain ⟨_, hle2, H2⟩ := hF2
                refine  (ow_pick (v := .bool true) rfl rfl ?_)
                exact ⟨rfl, rfl⟩
              refine ⟨kn_op rfl rfl (wantB_none rfl) fun _ hF2 => ?_, ?_⟩
              · obtain ⟨_, hle2, H2⟩ := hF2
                refine  (ow_move (v := .bool true) rfl ?_)
                exact ⟨rfl, rfl⟩
              refine ⟨kn_pass rfl rfl ((wantB_some (j := 29) rfl rfl (d := 47) rfl rfl (u := true) rfl).trans rfl) rfl, ?_⟩
              refine ⟨kn_pass rfl rfl ((wantB_some (j := 29) rfl rfl (d := 47) rfl rfl (u := true) rfl).trans rfl) rfl, ?_⟩
              exact trivial
            refine cw_pass rfl ((wantB_some (j := 29) rfl rfl (d := 47) rfl rfl (u := true) rfl).trans rfl) ?_
            refine af_some [(55, undef), (54, undef), (53, .bool true), (52, .bool true), (51, undef)] (fun w_ => ∃ I2, Le I I2 ∧ Hp B I2 w_ [(g6, Ob [.int .i64 x5.no, .int .i64 x5.at_, .int .i64 x5.known, .string x5.policy.name, .slice Ak5 x5.policy.kinds.length ck5, .slice Ao5 x5.policy.offices.length co5, .slice Ar5 x5.policy.rules.length cr5, .int .i64 x5.policy.change.kind, .int .i64 x5.policy.change.n, .int .i64 x5.policy.change.no, .string x5.policy.change.name, .slice Acl5 x5.policy.change.l.length ccl5, .int .i64 x5.policy.mode] 52)]) rfl ⟨_, Le.refl _, H.pick [0] (by decide)⟩ ?_ ?_
            · refine ⟨kn_pass rfl rfl ((wantB_some (j := 29) rfl rfl (d := 47) rfl rfl (u := true) rfl).trans rfl) rfl, ?_⟩
              refine ⟨kn_op rfl rfl (wantB_none rfl) fun _ hF2 => ?_, ?_⟩
              · obtain ⟨_, hle2, H2⟩ := hF2
                refine  (ow_pick (v := .bool true) rfl rfl ?_)
                exact ⟨rfl, rfl⟩
              refine ⟨kn_op rfl rfl (wantB_none rfl) fun _ hF2 => ?_, ?_⟩
              · obtain ⟨_, hle2, H2⟩ := hF2
                refine  (ow_move (v := .bool true) rfl ?_)
                exact ⟨rfl, rfl⟩
              refine ⟨kn_pass rfl rfl ((wantB_some (j := 35) rfl rfl (d := 53) rfl rfl (u := true) rfl).trans rfl) rfl, ?_⟩
              refine ⟨kn_pass rfl rfl ((wantB_some (j := 35) rfl rfl (d := 53) rfl rfl (u := true) rfl).trans rfl) rfl, ?_⟩
              exact trivial
            refine cw_pass rfl ((wantB_some (j := 35) rfl rfl (d := 53) rfl rfl (u := true) rfl).trans rfl) ?_
            refine af_some [(58, .bool true), (57, undef)] (fun w_ => ∃ I2, Le I I2 ∧ Hp B I2 w_ [(g6, Ob [.int .i64 x5.no, .int .i64 x5.at_, .int .i64 x5.known, .string x5.policy.name, .slice Ak5 x5.policy.kinds.length ck5, .slice Ao5 x5.policy.offices.length co5, .slice Ar5 x5.policy.rules.length cr5, .int .i64 x5.policy.change.kind, .int .i64 x5.policy.change.n, .int .i64 x5.policy.change.no, .string x5.policy.change.name, .slice Acl5 x5.policy.change.l.length ccl5, .int .i64 x5.policy.mode] 52)]) rfl ⟨_, Le.refl _, H.pick [0] (by decide)⟩ ?_ ?_
            · refine ⟨kn_pass rfl rfl ((wantB_some (j := 35) rfl rfl (d := 53) rfl rfl (u := true) rfl).trans rfl) rfl, ?_⟩
              refine ⟨kn_op rfl rfl (wantB_none rfl) fun _ hF2 => ?_, ?_⟩
              · obtain ⟨_, hle2, H2⟩ := hF2
                refine  (ow_pick (v := .bool true) rfl rfl ?_)
                exact ⟨rfl, rfl⟩
              exact trivial
            refine cw_nil ?_
            exact st_live [0, 3, 58] (again _ _ ⟨_, _, rfl, H, by first | rfl | (rw [hg7, hg8] <;> rfl) | simp [hg7, hg8]⟩)
          · rcases Bool.eq_false_or_eq_true (decide (0 < (i : Int))) with hg9 | hg9
            · have hi0_ := of_decide_eq_true hg9
              obtain ⟨pi, hpi⟩ : ∃ pi, pi = i - 1 := ⟨_, rfl⟩
              obtain ⟨x10, he10⟩ : ∃ q_, l[pi]? = some q_ := ⟨_, List.getElem?_eq_getElem (by omega)⟩
              obtain ⟨b10, o10, us10, hA10, hat10, hul10, hr10⟩ := RepS.get hl he10
              obtain ⟨vs10, rfl, x10no, x10at, x10kn, x10p⟩ := ve_iff.1 hr10
              have x10p0 := x10p
              obtain ⟨v110, v210, v310, v410, rfl, x10pn, x10k, x10o, x10r, x10ck, x10cn, x10cno, x10cs, x10cl, x10pm⟩ := po_iff.1 x10p
              obtain ⟨Ak10, ck10, rfl, x10kA, x10kB, x10k⟩ := RepS.open_ x10k
              obtain ⟨Ao10, co10, rfl, x10oA, x10oB, x10o⟩ := RepS.open_ x10o
              obtain ⟨Ar10, cr10, rfl, x10rA, x10rB, x10r⟩ := RepS.open_ x10r
              obtain ⟨Acl10, ccl10, rfl, x10clA, x10clB, x10cl⟩ := RepS.open_ x10cl
              have hla_ : x10.no = la := by
                rcases hlink with ⟨h, _⟩ | ⟨_, _, y_, hy_, h⟩
                · omega
                · rw [← hpi, he10] at hy_
                  cases hy_
                  exact h.symm
              rw [hla_] at hat10
              rcases Bool.eq_false_or_eq_true (decide (x5.no ≤ la)) with hg11 | hg11
              · refine st_draw (F := (fun w_ => ∃ I2, Le I I2 ∧ Hp B I2 w_ [(g6, Ob [.int .i64 x5.no, .int .i64 x5.at_, .int .i64 x5.known, .string x5.policy.name, .slice Ak5 x5.policy.kinds.length ck5, .slice Ao5 x5.policy.offices.length co5, .slice Ar5 x5.policy.rules.length cr5, .int .i64 x5.policy.change.kind, .int .i64 x5.policy.change.n, .int .i64 x5.policy.change.no, .string x5.policy.change.name, .slice Acl5 x5.policy.change.l.length ccl5, .int .i64 x5.policy.mode] 52)])) (p0 := [0, 1, 2, 3, 4, 5, 6, 7, 8, 9, 10, 11, 12, 13, 14, 15, 16, 17, 18, 19, 20, 21, 22, 23, 24, 25]) (plan := [(26, [27, 28, 29, 30, 31], []), (32, [33, 34, 35, 36, 37], []), (38, [39, 40], [])]) [] [] [(43, undef), (42, undef), (41, .bool (decide (x5.no ≤ la))), (40, .bool (decide (x5.no ≤ la))), (39, .bool (decide (x5.no ≤ la))), (38, .bool (decide (x5.no ≤ la))), (37, .int .i64 x5.no), (36, .pointer (some ⟨g6, 0, none⟩)), (35, .int .i64 la), (34, .pointer (some ⟨b10, o10 + pi * 13 + 0, none⟩)), (33, .pointer (some ⟨b10, o10 + pi * 13, none⟩)), (32, .int .i64 ((i - 1 : Nat) : Int)), (31, .int .i64 (i : Int)), (30, .slice A l.length c), (29, .bool (decide (0 < (i : Int)))), (28, .bool (decide (0 < (i : Int)))), (27, .int .i64 (i : Int)), (26, .bool (decide (1048576 < x5.no))), (25, .bool (decide (1048576 < x5.no))), (24, .bool (decide (1048576 < x5.no))), (23, .int .i64 x5.no), (22, .pointer (some ⟨g6, 0, none⟩)), (21, .bool (decide (x5.no < 0))), (20, .bool (decide (x5.no < 0))), (19, .int .i64 x5.no), (18, .pointer (some ⟨g6, 0, none⟩))] (by kernel_rfl) rfl ?_ ⟨_, Le.refl _, H.drew.pick [0] (by decide)⟩ ?_
                · refine ⟨kn_op rfl rfl (wantB_none rfl) fun _ hF2 => ?_, ?_⟩
                  · obtain ⟨_, hle2, H2⟩ := hF2
                    refine  (ow_fieldAddr fd52_0 ty3 rfl rfl (r := 0) rfl ?_)
                    exact ⟨rfl, rfl⟩
                  refine ⟨kn_op rfl rfl (wantB_none rfl) fun _ hF2 => ?_, ?_⟩
                  · obtain ⟨_, hle2, H2⟩ := hF2
                    refine  (ow_load (v := .int .i64 x5.no) ty3 H2 rfl 0 rfl rfl rfl rfl ?_)
                    exact ⟨rfl, rfl⟩
                  refine ⟨kn_op rfl rfl (wantB_none rfl) fun _ hF2 => ?_, ?_⟩
                  · obtain ⟨_, hle2, H2⟩ := hF2
                    refine  (ow_lss rfl rfl ?_)
                    exact ⟨rfl, rfl⟩
                  refine ⟨kn_op rfl rfl (wantB_none rfl) fun _ hF2 => ?_, ?_⟩
                  · obtain ⟨_, hle2, H2⟩ := hF2
                    refine  (ow_move (v := .bool (decide (x5.no < 0))) rfl ?_)
                    exact ⟨rfl, rfl⟩
                  refine ⟨kn_op rfl rfl ((wantB_some (j := 3) rfl rfl (d := 21) rfl rfl (u := false) (by exact congrArg Value.bool hg7)).trans rfl) fun _ hF2 => ?_, ?_⟩
                  · obtain ⟨_, hle2, H2⟩ := hF2
                    refine  (ow_fieldAddr fd52_0 ty3 rfl rfl (r := 0) rfl ?_)
                    exact ⟨rfl, rfl⟩
                  refine ⟨kn_op rfl rfl ((wantB_some (j := 3) rfl rfl (d := 21) rfl rfl (u := false) (by exact congrArg Value.bool hg7)).trans rfl) fun _ hF2 => ?_, ?_⟩
                  · obtain ⟨_, hle2, H2⟩ := hF2
                    refine  (ow_load (v := .int .i64 x5.no) ty3 H2 rfl 0 rfl rfl rfl rfl ?_)
                    exact ⟨rfl, rfl⟩
                  refine ⟨kn_op rfl rfl ((wantB_some (j := 3) rfl rfl (d := 21) rfl rfl (u := false) (by exact congrArg Value.bool hg7)).trans rfl) fun _ hF2 => ?_, ?_⟩
                  · obtain ⟨_, hle2, H2⟩ := hF2
                    refine  (ow_gtr rfl rfl ?_)
                    exact ⟨rfl, rfl⟩
                  refine ⟨kn_op rfl rfl (wantB_none rfl) fun _ hF2 => ?_, ?_⟩
                  · obtain ⟨_, hle2, H2⟩ := hF2
                    refine  (ow_pick (a := false) (v := .bool (decide (1048576 < x5.no))) (congrArg Value.bool hg7) rfl ?_)
                    exact ⟨rfl, rfl⟩
                  refine ⟨kn_op rfl rfl (wantB_none rfl) fun _ hF2 => ?_, ?_⟩
                  · obtain ⟨_, hle2, H2⟩ := hF2
                    refine  (ow_move (v := .bool (decide (1048576 < x5.no))) rfl ?_)
                    exact ⟨rfl, rfl⟩
                  refine ⟨kn_op rfl rfl ((wantB_some (j := 8) rfl rfl (d := 26) rfl rfl (u := false) (by exact congrArg Value.bool hg8)).trans rfl) fun _ hF2 => ?_, ?_⟩
                  · obtain ⟨_, hle2, H2⟩ := hF2
                    refine  (ow_move (v := .int .i64 (i : Int)) rfl ?_)
                    exact ⟨rfl, rfl⟩
                  refine ⟨kn_op rfl rfl ((wantB_some (j := 8) rfl rfl (d := 26) rfl rfl (u := false) (by exact congrArg Value.bool hg8)).trans rfl) fun _ hF2 => ?_, ?_⟩
                  · obtain ⟨_, hle2, H2⟩ := hF2
                    refine  (ow_gtr rfl rfl ?_)
                    exact ⟨rfl, rfl⟩
                  refine ⟨kn_op rfl rfl ((wantB_some (j := 8) rfl rfl (d := 26) rfl rfl (u := false) (by exact congrArg Value.bool hg8)).trans rfl) fun _ hF2 => ?_, ?_⟩
                  · obtain ⟨_, hle2, H2⟩ := hF2
                    refine  (ow_move (v := .bool (decide (0 < (i : Int)))) rfl ?_)
                    exact ⟨rfl, rfl⟩
                  refine ⟨kn_op rfl rfl ((wantB_some (j := 11) rfl rfl (d := 29) rfl rfl (u := true) (by exact congrArg Value.bool hg9)).trans rfl) fun _ hF2 => ?_, ?_⟩
                  · obtain ⟨_, hle2, H2⟩ := hF2
                    refine  (ow_move (v := .slice A l.length c) rfl ?_)
                    exact ⟨rfl, rfl⟩
                  refine ⟨kn_op rfl rfl ((wantB_some (j := 11) rfl rfl (d := 29) rfl rfl (u := true) (by exact congrArg Value.bool hg9)).trans rfl) fun _ hF2 => ?_, ?_⟩
                  · obtain ⟨_, hle2, H2⟩ := hF2
                    refine  (ow_move (v := .int .i64 (i : Int)) rfl ?_)
                    exact ⟨rfl, rfl⟩
                  refine ⟨kn_op rfl rfl ((wantB_some (j := 11) rfl rfl (d := 29) rfl rfl (u := true) (by exact congrArg Value.bool hg9)).trans rfl) fun _ hF2 => ?_, ?_⟩
                  · obtain ⟨_, hle2, H2⟩ := hF2
                    refine  (ow_sub (r := ((i - 1 : Nat) : Int)) rfl rfl (by have := of_decide_eq_true hg9; rw [wrap_i64 (by omega) (by omega)]; omega) ?_)
                    exact ⟨rfl, rfl⟩
                  refine ⟨kn_op rfl rfl ((wantB_some (j := 11) rfl rfl (d := 29) rfl rfl (u := true) (by exact congrArg Value.bool hg9)).trans rfl) fun _ hF2 => ?_, ?_⟩
                  · obtain ⟨_, hle2, H2⟩ := hF2
                    refine  (ow_indexAddrA sl36 ty52 hA10 rfl rfl (by omega) (by omega) (r := o10 + pi * 13) (by rw [hpi]; rfl) ?_)
                    exact ⟨rfl, rfl⟩
                  refine ⟨kn_op rfl rfl ((wantB_some (j := 11) rfl rfl (d := 29) rfl rfl (u := true) (by exact congrArg Value.bool hg9)).trans rfl) fun _ hF2 => ?_, ?_⟩
                  · obtain ⟨_, hle2, H2⟩ := hF2
                    refine  (ow_fieldAddr fd52_0 ty3 rfl rfl (r := o10 + pi * 13 + 0) rfl ?_)
                    exact ⟨rfl, rfl⟩
                  refine ⟨kn_op rfl rfl ((wantB_some (j := 11) rfl rfl (d := 29) rfl rfl (u := true) (by exact congrArg Value.bool hg9)).trans rfl) fun _ hF2 => ?_, ?_⟩
                  · obtain ⟨_, hle2, H2⟩ := hF2
                    refine  (ow_loadI (v := .int .i64 la) ty3 H2 rfl (At.mono hle2 (At.sub (vs := [.int .i64 la]) hat10 0 rfl)) rfl rfl rfl ?_)
                    exact ⟨rfl, rfl⟩
                  refine ⟨kn_op rfl rfl ((wantB_some (j := 11) rfl rfl (d := 29) rfl rfl (u := true) (by exact congrArg Value.bool hg9)).trans rfl) fun _ hF2 => ?_, ?_⟩
                  · obtain ⟨_, hle2, H2⟩ := hF2
                    refine  (ow_fieldAddr fd52_0 ty3 rfl rfl (r := 0) rfl ?_)
                    exact ⟨rfl, rfl⟩
                  refine ⟨kn_op rfl rfl ((wantB_some (j := 11) rfl rfl (d := 29) rfl rfl (u := true) (by exact congrArg Value.bool hg9)).trans rfl) fun _ hF2 => ?_, ?_⟩
                  · obtain ⟨_, hle2, H2⟩ := hF2
                    refine  (ow_load (v := .int .i64 x5.no) ty3 H2 rfl 0 rfl rfl rfl rfl ?_)
                    exact ⟨rfl, rfl⟩
                  refine ⟨kn_op rfl rfl ((wantB_some (j := 11) rfl rfl (d := 29) rfl rfl (u := true) (by exact congrArg Value.bool hg9)).trans rfl) fun _ hF2 => ?_, ?_⟩
                  · obtain ⟨_, hle2, H2⟩ := hF2
                    refine  (ow_geq rfl rfl ?_)
                    exact ⟨rfl, rfl⟩
                  refine ⟨kn_op rfl rfl ((wantB_some (j := 8) rfl rfl (d := 26) rfl rfl (u := false) (by exact congrArg Value.bool hg8)).trans rfl) fun _ hF2 => ?_, ?_⟩
                  · obtain ⟨_, hle2, H2⟩ := hF2
                    refine  (ow_pick (a := true) (v := .bool (decide (x5.no ≤ la))) (congrArg Value.bool hg9) rfl ?_)
                    exact ⟨rfl, rfl⟩
                  refine ⟨kn_op rfl rfl (wantB_none rfl) fun _ hF2 => ?_, ?_⟩
                  · obtain ⟨_, hle2, H2⟩ := hF2
                    refine  (ow_pick (a := false) (v := .bool (decide (x5.no ≤ la))) (congrArg Value.bool hg8) rfl ?_)
                    exact ⟨rfl, rfl⟩
                  refine ⟨kn_op rfl rfl (wantB_none rfl) fun _ hF2 => ?_, ?_⟩
                  · obtain ⟨_, hle2, H2⟩ := hF2
                    refine  (ow_move (v := .bool (decide (x5.no ≤ la))) rfl ?_)
                    exact ⟨rfl, rfl⟩
                  refine ⟨kn_pass rfl rfl ((wantB_some (j := 23) rfl rfl (d := 41) rfl rfl (u := true) (by exact congrArg Value.bool hg11)).trans rfl) rfl, ?_⟩
                  refine ⟨kn_pass rfl rfl ((wantB_some (j := 23) rfl rfl (d := 41) rfl rfl (u := true) (by exact congrArg Value.bool hg11)).trans rfl) rfl, ?_⟩
                  exact trivial
                have H := H.drew
                refine cw_pass rfl ((wantB_some (j := 23) rfl rfl (d := 41) rfl rfl (u := true) (by exact congrArg Value.bool hg11)).trans rfl) ?_
                refine af_some [(49, undef), (48, undef), (47, .bool true), (46, .bool true), (45, undef)] (fun w_ => ∃ I2, Le I I2 ∧ Hp B I2 w_ [(g6, Ob [.int .i64 x5.no, .int .i64 x5.at_, .int .i64 x5.known, .string x5.policy.name, .slice Ak5 x5.policy.kinds.length ck5, .slice Ao5 x5.policy.offices.length co5, .slice Ar5 x5.policy.rules.length cr5, .int .i64 x5.policy.change.kind, .int .i64 x5.policy.change.n, .int .i64 x5.policy.change.no, .string x5.policy.change.name, .slice Acl5 x5.policy.change.l.length ccl5, .int .i64 x5.policy.mode] 52)]) rfl ⟨_, Le.refl _, H.pick [0] (by decide)⟩ ?_ ?_
                · refine ⟨kn_pass rfl rfl ((wantB_some (j := 23) rfl rfl (d := 41) rfl rfl (u := true) (by exact congrArg Value.bool hg11)).trans rfl) rfl, ?_⟩
                  refine ⟨kn_op rfl rfl (wantB_none rfl) fun _ hF2 => ?_, ?_⟩
                  · obtain ⟨_, hle2, H2⟩ := hF2
                    refine  (ow_pick (a := true) (v := .bool true) (congrArg Value.bool hg11) rfl ?_)
                    exact ⟨rfl, rfl⟩
                  refine ⟨kn_op rfl rfl (wantB_none rfl) fun _ hF2 => ?_, ?_⟩
                  · obtain ⟨_, hle2, H2⟩ := hF2
                    refine  (ow_move (v := .bool true) rfl ?_)
                    exact ⟨rfl, rfl⟩
                  refine ⟨kn_pass rfl rfl ((wantB_some (j := 29) rfl rfl (d := 47) rfl rfl (u := true) rfl).trans rfl) rfl, ?_⟩
                  refine ⟨kn_pass rfl rfl ((wantB_some (j := 29) rfl rfl (d := 47) rfl rfl (u := true) rfl).trans rfl) rfl, ?_⟩
                  exact trivial
                refine cw_pass rfl ((wantB_some (j := 29) rfl rfl (d := 47) rfl rfl (u := true) rfl).trans rfl) ?_
                refine af_some [(55, undef), (54, undef), (53, .bool true), (52, .bool true), (51, undef)] (fun w_ => ∃ I2, Le I I2 ∧ Hp B I2 w_ [(g6, Ob [.int .i64 x5.no, .int .i64 x5.at_, .int .i64 x5.known, .string x5.policy.name, .slice Ak5 x5.policy.kinds.length ck5, .slice Ao5 x5.policy.offices.length co5, .slice Ar5 x5.policy.rules.length cr5, .int .i64 x5.policy.change.kind, .int .i64 x5.policy.change.n, .int .i64 x5.policy.change.no, .string x5.policy.change.name, .slice Acl5 x5.policy.change.l.length ccl5, .int .i64 x5.policy.mode] 52)]) rfl ⟨_, Le.refl _, H.pick [0] (by decide)⟩ ?_ ?_
                · refine ⟨kn_pass rfl rfl ((wantB_some (j := 29) rfl rfl (d := 47) rfl rfl (u := true) rfl).trans rfl) rfl, ?_⟩
                  refine ⟨kn_op rfl rfl (wantB_none rfl) fun _ hF2 => ?_, ?_⟩
                  · obtain ⟨_, hle2, H2⟩ := hF2
                    refine  (ow_pick (v := .bool true) rfl rfl ?_)
                    exact ⟨rfl, rfl⟩
                  refine ⟨kn_op rfl rfl (wantB_none rfl) fun _ hF2 => ?_, ?_⟩
                  · obtain ⟨_, hle2, H2⟩ := hF2
                    refine  (ow_move (v := .bool true) rfl ?_)
                    exact ⟨rfl, rfl⟩
                  refine ⟨kn_pass rfl rfl ((wantB_some (j := 35) rfl rfl (d := 53) rfl rfl (u := true) rfl).trans rfl) rfl, ?_⟩
                  refine ⟨kn_pass rfl rfl ((wantB_some (j := 35) rfl rfl (d := 53) rfl rfl (u := true) rfl).trans rfl) rfl, ?_⟩
                  exact trivial
                refine cw_pass rfl ((wantB_some (j := 35) rfl rfl (d := 53) rfl rfl (u := true) rfl).trans rfl) ?_
                refine af_some [(58, .bool true), (57, undef)] (fun w_ => ∃ I2, Le I I2 ∧ Hp B I2 w_ [(g6, Ob [.int .i64 x5.no, .int .i64 x5.at_, .int .i64 x5.known, .string x5.policy.name, .slice Ak5 x5.policy.kinds.length ck5, .slice Ao5 x5.policy.offices.length co5, .slice Ar5 x5.policy.rules.length cr5, .int .i64 x5.policy.change.kind, .int .i64 x5.policy.change.n, .int .i64 x5.policy.change.no, .string x5.policy.change.name, .slice Acl5 x5.policy.change.l.length ccl5, .int .i64 x5.policy.mode] 52)]) rfl ⟨_, Le.refl _, H.pick [0] (by decide)⟩ ?_ ?_
                · refine ⟨kn_pass rfl rfl ((wantB_some (j := 35) rfl rfl (d := 53) rfl rfl (u := true) rfl).trans rfl) rfl, ?_⟩
                  refine ⟨kn_op rfl rfl (wantB_none rfl) fun _ hF2 => ?_, ?_⟩
                  · obtain ⟨_, hle2, H2⟩ := hF2
                    refine  (ow_pick (v := .bool true) rfl rfl ?_)
                    exact ⟨rfl, rfl⟩
                  exact trivial
                refine cw_nil ?_
                exact st_live [0, 3, 58] (again _ _ ⟨_, _, rfl, H, by first | rfl | (rw [hg7, hg8, hg9, hg11] <;> rfl) | simp [hg7, hg8, hg9, hg11]⟩)
              · refine st_draw (F := (fun w_ => ∃ I2, Le I I2 ∧ Hp B I2 w_ [(g6, Ob [.int .i64 x5.no, .int .i64 x5.at_, .int .i64 x5.known, .string x5.policy.name, .slice Ak5 x5.policy.kinds.length ck5, .slice Ao5 x5.policy.offices.length co5, .slice Ar5 x5.policy.rules.length cr5, .int .i64 x5.policy.change.kind, .int .i64 x5.policy.change.n, .int .i64 x5.policy.change.no, .string x5.policy.change.name, .slice Acl5 x5.policy.change.l.length ccl5, .int .i64 x5.policy.mode] 52)])) (p0 := [0, 1, 2, 3, 4, 5, 6, 7, 8, 9, 10, 11, 12, 13, 14, 15, 16, 17, 18, 19, 20, 21, 22, 23, 24, 25]) (plan := [(26, [27, 28, 29, 30, 31], []), (32, [33, 34, 35, 36, 37], []), (38, [39, 40], [])]) [] [] [(43, .int .i64 x5.at_), (42, .pointer (some ⟨g6, 1, none⟩)), (41, .bool (decide (x5.no ≤ la))), (40, .bool (decide (x5.no ≤ la))), (39, .bool (decide (x5.no ≤ la))), (38, .bool (decide (x5.no ≤ la))), (37, .int .i64 x5.no), (36, .pointer (some ⟨g6, 0, none⟩)), (35, .int .i64 la), (34, .pointer (some ⟨b10, o10 + pi * 13 + 0, none⟩)), (33, .pointer (some ⟨b10, o10 + pi * 13, none⟩)), (32, .int .i64 ((i - 1 : Nat) : Int)), (31, .int .i64 (i : Int)), (30, .slice A l.length c), (29, .bool (decide (0 < (i : Int)))), (28, .bool (decide (0 < (i : Int)))), (27, .int .i64 (i : Int)), (26, .bool (decide (1048576 < x5.no))), (25, .bool (decide (1048576 < x5.no))), (24, .bool (decide (1048576 < x5.no))), (23, .int .i64 x5.no), (22, .pointer (some ⟨g6, 0, none⟩)), (21, .bool (decide (x5.no < 0))), (20, .bool (decide (x5.no < 0))), (19, .int .i64 x5.no), (18, .pointer (some ⟨g6, 0, none⟩))] (by kernel_rfl) rfl ?_ ⟨_, Le.refl _, H.drew.pick [0] (by decide)⟩ ?_
                · refine ⟨kn_op rfl rfl (wantB_none rfl) fun _ hF2 => ?_, ?_⟩
                  · obtain ⟨_, hle2, H2⟩ := hF2
                    refine  (ow_fieldAddr fd52_0 ty3 rfl rfl (r := 0) rfl ?_)
                    exact ⟨rfl, rfl⟩
                  refine ⟨kn_op rfl rfl (wantB_none rfl) fun _ hF2 => ?_, ?_⟩
                  · obtain ⟨_, hle2, H2⟩ := hF2
                    refine  (ow_load (v := .int .i64 x5.no) ty3 H2 rfl 0 rfl rfl rfl rfl ?_)
                    exact ⟨rfl, rfl⟩
                  refine ⟨kn_op rfl rfl (wantB_none rfl) fun _ hF2 => ?_, ?_⟩
                  · obtain ⟨_, hle2, H2⟩ := hF2
                    refine  (ow_lss rfl rfl ?_)
                    exact ⟨rfl, rfl⟩
                  refine ⟨kn_op rfl rfl (wantB_none rfl) fun _ hF2 => ?_, ?_⟩
                  · obtain ⟨_, hle2, H2⟩ := hF2
                    refine  (ow_move (v := .bool (decide (x5.no < 0))) rfl ?_)
                    exact ⟨rfl, rfl⟩
                  refine ⟨kn_op rfl rfl ((wantB_some (j := 3) rfl rfl (d := 21) rfl rfl (u := false) (by exact congrArg Value.bool hg7)).trans rfl) fun _ hF2 => ?_, ?_⟩
                  · obtain ⟨_, hle2, H2⟩ := hF2
                    refine  (ow_fieldAddr fd52_0 ty3 rfl rfl (r := 0) rfl ?_)
                    exact ⟨rfl, rfl⟩
                  refine ⟨kn_op rfl rfl ((wantB_some (j := 3) rfl rfl (d := 21) rfl rfl (u := false) (by exact congrArg Value.bool hg7)).trans rfl) fun _ hF2 => ?_, ?_⟩
                  · obtain ⟨_, hle2, H2⟩ := hF2
                    refine  (ow_load (v := .int .i64 x5.no) ty3 H2 rfl 0 rfl rfl rfl rfl ?_)
                    exact ⟨rfl, rfl⟩
                  refine ⟨kn_op rfl rfl ((wantB_some (j := 3) rfl rfl (d := 21) rfl rfl (u := false) (by exact congrArg Value.bool hg7)).trans rfl) fun _ hF2 => ?_, ?_⟩
                  · obtain ⟨_, hle2, H2⟩ := hF2
                    refine  (ow_gtr rfl rfl ?_)
                    exact ⟨rfl, rfl⟩
                  refine ⟨kn_op rfl rfl (wantB_none rfl) fun _ hF2 => ?_, ?_⟩
                  · obtain ⟨_, hle2, H2⟩ := hF2
                    refine  (ow_pick (a := false) (v := .bool (decide (1048576 < x5.no))) (congrArg Value.bool hg7) rfl ?_)
                    exact ⟨rfl, rfl⟩
                  refine ⟨kn_op rfl rfl (wantB_none rfl) fun _ hF2 => ?_, ?_⟩
                  · obtain ⟨_, hle2, H2⟩ := hF2
                    refine  (ow_move (v := .bool (decide (1048576 < x5.no))) rfl ?_)
                    exact ⟨rfl, rfl⟩
                  refine ⟨kn_op rfl rfl ((wantB_some (j := 8) rfl rfl (d := 26) rfl rfl (u := false) (by exact congrArg Value.bool hg8)).trans rfl) fun _ hF2 => ?_, ?_⟩
                  · obtain ⟨_, hle2, H2⟩ := hF2
                    refine  (ow_move (v := .int .i64 (i : Int)) rfl ?_)
                    exact ⟨rfl, rfl⟩
                  refine ⟨kn_op rfl rfl ((wantB_some (j := 8) rfl rfl (d := 26) rfl rfl (u := false) (by exact congrArg Value.bool hg8)).trans rfl) fun _ hF2 => ?_, ?_⟩
                  · obtain ⟨_, hle2, H2⟩ := hF2
                    refine  (ow_gtr rfl rfl ?_)
                    exact ⟨rfl, rfl⟩
                  refine ⟨kn_op rfl rfl ((wantB_some (j := 8) rfl rfl (d := 26) rfl rfl (u := false) (by exact congrArg Value.bool hg8)).trans rfl) fun _ hF2 => ?_, ?_⟩
                  · obtain ⟨_, hle2, H2⟩ := hF2
                    refine  (ow_move (v := .bool (decide (0 < (i : Int)))) rfl ?_)
                    exact ⟨rfl, rfl⟩
                  refine ⟨kn_op rfl rfl ((wantB_some (j := 11) rfl rfl (d := 29) rfl rfl (u := true) (by exact congrArg Value.bool hg9)).trans rfl) fun _ hF2 => ?_, ?_⟩
                  · obtain ⟨_, hle2, H2⟩ := hF2
                    refine  (ow_move (v := .slice A l.length c) rfl ?_)
                    exact ⟨rfl, rfl⟩
                  refine ⟨kn_op rfl rfl ((wantB_some (j := 11) rfl rfl (d := 29) rfl rfl (u := true) (by exact congrArg Value.bool hg9)).trans rfl) fun _ hF2 => ?_, ?_⟩
                  · obtain ⟨_, hle2, H2⟩ := hF2
                    refine  (ow_move (v := .int .i64 (i : Int)) rfl ?_)
                    exact ⟨rfl, rfl⟩
                  refine ⟨kn_op rfl rfl ((wantB_some (j := 11) rfl rfl (d := 29) rfl rfl (u := true) (by exact congrArg Value.bool hg9)).trans rfl) fun _ hF2 => ?_, ?_⟩
                  · obtain ⟨_, hle2, H2⟩ := hF2
                    refine  (ow_sub (r := ((i - 1 : Nat) : Int)) rfl rfl (by have := of_decide_eq_true hg9; rw [wrap_i64 (by omega) (by omega)]; omega) ?_)
                    exact ⟨rfl, rfl⟩
                  refine ⟨kn_op rfl rfl ((wantB_some (j := 11) rfl rfl (d := 29) rfl rfl (u := true) (by exact congrArg Value.bool hg9)).trans rfl) fun _ hF2 => ?_, ?_⟩
                  · obtain ⟨_, hle2, H2⟩ := hF2
                    refine  (ow_indexAddrA sl36 ty52 hA10 rfl rfl (by omega) (by omega) (r := o10 + pi * 13) (by rw [hpi]; rfl) ?_)
                    exact ⟨rfl, rfl⟩
                  refine ⟨kn_op rfl rfl ((wantB_some (j := 11) rfl rfl (d := 29) rfl rfl (u := true) (by exact congrArg Value.bool hg9)).trans rfl) fun _ hF2 => ?_, ?_⟩
                  · obtain ⟨_, hle2, H2⟩ := hF2
                    refine  (ow_fieldAddr fd52_0 ty3 rfl rfl (r := o10 + pi * 13 + 0) rfl ?_)
                    exact ⟨rfl, rfl⟩
                  refine ⟨kn_op rfl rfl ((wantB_some (j := 11) rfl rfl (d := 29) rfl rfl (u := true) (by exact congrArg Value.bool hg9)).trans rfl) fun _ hF2 => ?_, ?_⟩
                  · obtain ⟨_, hle2, H2⟩ := hF2
                    refine  (ow_loadI (v := .int .i64 la) ty3 H2 rfl (At.mono hle2 (At.sub (vs := [.int .i64 la]) hat10 0 rfl)) rfl rfl rfl ?_)
                    exact ⟨rfl, rfl⟩
                  refine ⟨kn_op rfl rfl ((wantB_some (j := 11) rfl rfl (d := 29) rfl rfl (u := true) (by exact congrArg Value.bool hg9)).trans rfl) fun _ hF2 => ?_, ?_⟩
                  · obtain ⟨_, hle2, H2⟩ := hF2
                    refine  (ow_fieldAddr fd52_0 ty3 rfl rfl (r := 0) rfl ?_)
                    exact ⟨rfl, rfl⟩
                  refine ⟨kn_op rfl rfl ((wantB_some (j := 11) rfl rfl (d := 29) rfl rfl (u := true) (by exact congrArg Value.bool hg9)).trans rfl) fun _ hF2 => ?_, ?_⟩
                  · obtain ⟨_, hle2, H2⟩ := hF2
                    refine  (ow_load (v := .int .i64 x5.no) ty3 H2 rfl 0 rfl rfl rfl rfl ?_)
                    exact ⟨rfl, rfl⟩
                  refine ⟨kn_op rfl rfl ((wantB_some (j := 11) rfl rfl (d := 29) rfl rfl (u := true) (by exact congrArg Value.bool hg9)).trans rfl) fun _ hF2 => ?_, ?_⟩
                  · obtain ⟨_, hle2, H2⟩ := hF2
                    refine  (ow_geq rfl rfl ?_)
                    exact ⟨rfl, rfl⟩
                  refine ⟨kn_op rfl rfl ((wantB_some (j := 8) rfl rfl (d := 26) rfl rfl (u := false) (by exact congrArg Value.bool hg8)).trans rfl) fun _ hF2 => ?_, ?_⟩
                  · obtain ⟨_, hle2, H2⟩ := hF2
                    refine  (ow_pick (a := true) (v := .bool (decide (x5.no ≤ la))) (congrArg Value.bool hg9) rfl ?_)
                    exact ⟨rfl, rfl⟩
                  refine ⟨kn_op rfl rfl (wantB_none rfl) fun _ hF2 => ?_, ?_⟩
                  · obtain ⟨_, hle2, H2⟩ := hF2
                    refine  (ow_pick (a := false) (v := .bool (decide (x5.no ≤ la))) (congrArg Value.bool hg8) rfl ?_)
                    exact ⟨rfl, rfl⟩
                  refine ⟨kn_op rfl rfl (wantB_none rfl) fun _ hF2 => ?_, ?_⟩
                  · obtain ⟨_, hle2, H2⟩ := hF2
                    refine  (ow_move (v := .bool (decide (x5.no ≤ la))) rfl ?_)
                    exact ⟨rfl, rfl⟩
                  refine ⟨kn_op rfl rfl ((wantB_some (j := 23) rfl rfl (d := 41) rfl rfl (u := false) (by exact congrArg Value.bool hg11)).trans rfl) fun _ hF2 => ?_, ?_⟩
                  · obtain ⟨_, hle2, H2⟩ := hF2
                    refine  (ow_fieldAddr fd52_1 ty3 rfl rfl (r := 1) rfl ?_)
                    exact ⟨rfl, rfl⟩
                  refine ⟨kn_op rfl rfl ((wantB_some (j := 23) rfl rfl (d := 41) rfl rfl (u := false) (by exact congrArg Value.bool hg11)).trans rfl) fun _ hF2 => ?_, ?_⟩
                  · obtain ⟨_, hle2, H2⟩ := hF2
                    refine  (ow_load (v := .int .i64 x5.at_) ty3 H2 rfl 0 rfl rfl rfl rfl ?_)
                    exact ⟨rfl, rfl⟩
                  exact trivial
                have H := H.drew
                refine cw_op rfl ((wantB_some (j := 23) rfl rfl (d := 41) rfl rfl (u := false) (by exact congrArg Value.bool hg11)).trans rfl) (ow_call en32 rfl (Time_c H x5.at_) ?_)
                rintro _ _ ⟨rfl, H⟩
                rcases Bool.eq_false_or_eq_true (withinB x5.at_ 0 1099511627775) with hg12 | hg12
                · refine af_some [(49, .int .i64 x5.known), (48, .pointer (some ⟨g6, 2, none⟩)), (47, .bool (!(withinB x5.at_ 0 1099511627775))), (46, .bool (!(withinB x5.at_ 0 1099511627775))), (45, .bool (!(withinB x5.at_ 0 1099511627775)))] (fun w_ => ∃ I2, Le I I2 ∧ Hp B I2 w_ [(g6, Ob [.int .i64 x5.no, .int .i64 x5.at_, .int .i64 x5.known, .string x5.policy.name, .slice Ak5 x5.policy.kinds.length ck5, .slice Ao5 x5.policy.offices.length co5, .slice Ar5 x5.policy.rules.length cr5, .int .i64 x5.policy.change.kind, .int .i64 x5.policy.change.n, .int .i64 x5.policy.change.no, .string x5.policy.change.name, .slice Acl5 x5.policy.change.l.length ccl5, .int .i64 x5.policy.mode] 52)]) rfl ⟨_, Le.refl _, H.pick [0] (by decide)⟩ ?_ ?_
                  · refine ⟨kn_op rfl rfl ((wantB_some (j := 23) rfl rfl (d := 41) rfl rfl (u := false) (by exact congrArg Value.bool hg11)).trans rfl) fun _ hF2 => ?_, ?_⟩
                    · obtain ⟨_, hle2, H2⟩ := hF2
                      refine  (ow_not rfl ?_)
                      exact ⟨rfl, rfl⟩
                    refine ⟨kn_op rfl rfl (wantB_none rfl) fun _ hF2 => ?_, ?_⟩
                    · obtain ⟨_, hle2, H2⟩ := hF2
                      refine  (ow_pick (a := false) (v := .bool (!(withinB x5.at_ 0 1099511627775))) (congrArg Value.bool hg11) rfl ?_)
                      exact ⟨rfl, rfl⟩
                    refine ⟨kn_op rfl rfl (wantB_none rfl) fun _ hF2 => ?_, ?_⟩
                    · obtain ⟨_, hle2, H2⟩ := hF2
                      refine  (ow_move (v := .bool (!(withinB x5.at_ 0 1099511627775))) rfl ?_)
                      exact ⟨rfl, rfl⟩
                    refine ⟨kn_op rfl rfl ((wantB_some (j := 29) rfl rfl (d := 47) rfl rfl (u := false) (by exact congrArg Value.bool (by rw [hg12] <;> rfl))).trans rfl) fun _ hF2 => ?_, ?_⟩
                    · obtain ⟨_, hle2, H2⟩ := hF2
                      refine  (ow_fieldAddr fd52_2 ty3 rfl rfl (r := 2) rfl ?_)
                      exact ⟨rfl, rfl⟩
                    refine ⟨kn_op rfl rfl ((wantB_some (j := 29) rfl rfl (d := 47) rfl rfl (u := false) (by exact congrArg Value.bool (by rw [hg12] <;> rfl))).trans rfl) fun _ hF2 => ?_, ?_⟩
                    · obtain ⟨_, hle2, H2⟩ := hF2
                      refine  (ow_load (v := .int .i64 x5.known) ty3 H2 rfl 0 rfl rfl rfl rfl ?_)
                      exact ⟨rfl, rfl⟩
                    exact trivial
                  refine cw_op rfl ((wantB_some (j := 29) rfl rfl (d := 47) rfl rfl (u := false) (by exact congrArg Value.bool (by rw [hg12] <;> rfl))).trans rfl) (ow_call en32 rfl (Time_c H x5.known) ?_)
                  rintro _ _ ⟨rfl, H⟩
                  rcases Bool.eq_false_or_eq_true (withinB x5.known 0 1099511627775) with hg13 | hg13
                  · refine af_some [(55, .agg #[.string x5.policy.name, .slice Ak5 x5.policy.kinds.length ck5, .slice Ao5 x5.policy.offices.length co5, .slice Ar5 x5.policy.rules.length cr5, .int .i64 x5.policy.change.kind, .int .i64 x5.policy.change.n, .int .i64 x5.policy.change.no, .string x5.policy.change.name, .slice Acl5 x5.policy.change.l.length ccl5, .int .i64 x5.policy.mode]), (54, .pointer (some ⟨g6, 3, none⟩)), (53, .bool (!(withinB x5.known 0 1099511627775))), (52, .bool (!(withinB x5.known 0 1099511627775))), (51, .bool (!(withinB x5.known 0 1099511627775)))] (fun w_ => ∃ I2, Le I I2 ∧ Hp B I2 w_ [(g6, Ob [.int .i64 x5.no, .int .i64 x5.at_, .int .i64 x5.known, .string x5.policy.name, .slice Ak5 x5.policy.kinds.length ck5, .slice Ao5 x5.policy.offices.length co5, .slice Ar5 x5.policy.rules.length cr5, .int .i64 x5.policy.change.kind, .int .i64 x5.policy.change.n, .int .i64 x5.policy.change.no, .string x5.policy.change.name, .slice Acl5 x5.policy.change.l.length ccl5, .int .i64 x5.policy.mode] 52)]) rfl ⟨_, Le.refl _, H.pick [0] (by decide)⟩ ?_ ?_
                    · refine ⟨kn_op rfl rfl ((wantB_some (j := 29) rfl rfl (d := 47) rfl rfl (u := false) (by exact congrArg Value.bool (by rw [hg12] <;> rfl))).trans rfl) fun _ hF2 => ?_, ?_⟩
                      · obtain ⟨_, hle2, H2⟩ := hF2
                        refine  (ow_not rfl ?_)
                        exact ⟨rfl, rfl⟩
                      refine ⟨kn_op rfl rfl (wantB_none rfl) fun _ hF2 => ?_, ?_⟩
                      · obtain ⟨_, hle2, H2⟩ := hF2
                        refine  (ow_pick (a := false) (v := .bool (!(withinB x5.known 0 1099511627775))) (congrArg Value.bool (by rw [hg12] <;> rfl)) rfl ?_)
                        exact ⟨rfl, rfl⟩
                      refine ⟨kn_op rfl rfl (wantB_none rfl) fun _ hF2 => ?_, ?_⟩
                      · obtain ⟨_, hle2, H2⟩ := hF2
                        refine  (ow_move (v := .bool (!(withinB x5.known 0 1099511627775))) rfl ?_)
                        exact ⟨rfl, rfl⟩
                      refine ⟨kn_op rfl rfl ((wantB_some (j := 35) rfl rfl (d := 53) rfl rfl (u := false) (by exact congrArg Value.bool (by rw [hg13] <;> rfl))).trans rfl) fun _ hF2 => ?_, ?_⟩
                      · obtain ⟨_, hle2, H2⟩ := hF2
                        refine  (ow_fieldAddr fd52_3 ty28 rfl rfl (r := 3) rfl ?_)
                        exact ⟨rfl, rfl⟩
                      refine ⟨kn_op rfl rfl ((wantB_some (j := 35) rfl rfl (d := 53) rfl rfl (u := false) (by exact congrArg Value.bool (by rw [hg13] <;> rfl))).trans rfl) fun _ hF2 => ?_, ?_⟩
                      · obtain ⟨_, hle2, H2⟩ := hF2
                        refine  (ow_load (v := .agg #[.string x5.policy.name, .slice Ak5 x5.policy.kinds.length ck5, .slice Ao5 x5.policy.offices.length co5, .slice Ar5 x5.policy.rules.length cr5, .int .i64 x5.policy.change.kind, .int .i64 x5.policy.change.n, .int .i64 x5.policy.change.no, .string x5.policy.change.name, .slice Acl5 x5.policy.change.l.length ccl5, .int .i64 x5.policy.mode]) ty28 H2 rfl 0 rfl rfl rfl rfl ?_)
                        exact ⟨rfl, rfl⟩
                      exact trivial
                    refine cw_op rfl ((wantB_some (j := 35) rfl rfl (d := 53) rfl rfl (u := false) (by exact congrArg Value.bool (by rw [hg13] <;> rfl))).trans rfl) (ow_call en23 rfl (refCheck_c H x5p0) ?_)
                    rintro _ _ ⟨rfl, H⟩
                    refine af_some [(58, .bool (!decide (checkE x5.policy = 0))), (57, .bool (!decide (checkE x5.policy = 0)))] (fun w_ => ∃ I2, Le I I2 ∧ Hp B I2 w_ [(g6, Ob [.int .i64 x5.no, .int .i64 x5.at_, .int .i64 x5.known, .string x5.policy.name, .slice Ak5 x5.policy.kinds.length ck5, .slice Ao5 x5.policy.offices.length co5, .slice Ar5 x5.policy.rules.length cr5, .int .i64 x5.policy.change.kind, .int .i64 x5.policy.change.n, .int .i64 x5.policy.change.no, .string x5.policy.change.name, .slice Acl5 x5.policy.change.l.length ccl5, .int .i64 x5.policy.mode] 52)]) rfl ⟨_, Le.refl _, H.pick [0] (by decide)⟩ ?_ ?_
                    · refine ⟨kn_op rfl rfl ((wantB_some (j := 35) rfl rfl (d := 53) rfl rfl (u := false) (by exact congrArg Value.bool (by rw [hg13] <;> rfl))).trans rfl) fun _ hF2 => ?_, ?_⟩
                      · obtain ⟨_, hle2, H2⟩ := hF2
                        refine  (ow_neq rfl rfl ?_)
                        exact ⟨rfl, rfl⟩
                      refine ⟨kn_op rfl rfl (wantB_none rfl) fun _ hF2 => ?_, ?_⟩
                      · obtain ⟨_, hle2, H2⟩ := hF2
                        refine  (ow_pick (a := false) (v := .bool (!decide (checkE x5.policy = 0))) (congrArg Value.bool (by rw [hg13] <;> rfl)) rfl ?_)
                        exact ⟨rfl, rfl⟩
                      exact trivial
                    refine cw_nil ?_
                    exact st_live [0, 3, 58] (again _ _ ⟨_, _, rfl, H, by first | rfl | (rw [hg7, hg8, hg9, hg11, hg12, hg13] <;> rfl) | simp [hg7, hg8, hg9, hg11, hg12, hg13]⟩)
                  · refine af_some [(55, undef), (54, undef), (53, .bool (!(withinB x5.known 0 1099511627775))), (52, .bool (!(withinB x5.known 0 1099511627775))), (51, .bool (!(withinB x5.known 0 1099511627775)))] (fun w_ => ∃ I2, Le I I2 ∧ Hp B I2 w_ [(g6, Ob [.int .i64 x5.no, .int .i64 x5.at_, .int .i64 x5.known, .string x5.policy.name, .slice Ak5 x5.policy.kinds.length ck5, .slice Ao5 x5.policy.offices.length co5, .slice Ar5 x5.policy.rules.length cr5, .int .i64 x5.policy.change.kind, .int .i64 x5.policy.change.n, .int .i64 x5.policy.change.no, .string x5.policy.change.name, .slice Acl5 x5.policy.change.l.length ccl5, .int .i64 x5.policy.mode] 52)]) rfl ⟨_, Le.refl _, H.pick [0] (by decide)⟩ ?_ ?_
                    · refine ⟨kn_op rfl rfl ((wantB_some (j := 29) rfl rfl (d := 47) rfl rfl (u := false) (by exact congrArg Value.bool (by rw [hg12] <;> rfl))).trans rfl) fun _ hF2 => ?_, ?_⟩
                      · obtain ⟨_, hle2, H2⟩ := hF2
                        refine  (ow_not rfl ?_)
                        exact ⟨rfl, rfl⟩
                      refine ⟨kn_op rfl rfl (wantB_none rfl) fun _ hF2 => ?_, ?_⟩
                      · obtain ⟨_, hle2, H2⟩ := hF2
                        refine  (ow_pick (a := false) (v := .bool (!(withinB x5.known 0 1099511627775))) (congrArg Value.bool (by rw [hg12] <;> rfl)) rfl ?_)
                        exact ⟨rfl, rfl⟩
                      refine ⟨kn_op rfl rfl (wantB_none rfl) fun _ hF2 => ?_, ?_⟩
                      · obtain ⟨_, hle2, H2⟩ := hF2
                        refine  (ow_move (v := .bool (!(withinB x5.known 0 1099511627775))) rfl ?_)
                        exact ⟨rfl, rfl⟩
                      refine ⟨kn_pass rfl rfl ((wantB_some (j := 35) rfl rfl (d := 53) rfl rfl (u := true) (by exact congrArg Value.bool (by rw [hg13] <;> rfl))).trans rfl) rfl, ?_⟩
                      refine ⟨kn_pass rfl rfl ((wantB_some (j := 35) rfl rfl (d := 53) rfl rfl (u := true) (by exact congrArg Value.bool (by rw [hg13] <;> rfl))).trans rfl) rfl, ?_⟩
                      exact trivial
                    refine cw_pass rfl ((wantB_some (j := 35) rfl rfl (d := 53) rfl rfl (u := true) (by exact congrArg Value.bool (by rw [hg13] <;> rfl))).trans rfl) ?_
                    refine af_some [(58, .bool true), (57, undef)] (fun w_ => ∃ I2, Le I I2 ∧ Hp B I2 w_ [(g6, Ob [.int .i64 x5.no, .int .i64 x5.at_, .int .i64 x5.known, .string x5.policy.name, .slice Ak5 x5.policy.kinds.length ck5, .slice Ao5 x5.policy.offices.length co5, .slice Ar5 x5.policy.rules.length cr5, .int .i64 x5.policy.change.kind, .int .i64 x5.policy.change.n, .int .i64 x5.policy.change.no, .string x5.policy.change.name, .slice Acl5 x5.policy.change.l.length ccl5, .int .i64 x5.policy.mode] 52)]) rfl ⟨_, Le.refl _, H.pick [0] (by decide)⟩ ?_ ?_
                    · refine ⟨kn_pass rfl rfl ((wantB_some (j := 35) rfl rfl (d := 53) rfl rfl (u := true) (by exact congrArg Value.bool (by rw [hg13] <;> rfl))).trans rfl) rfl, ?_⟩
                      refine ⟨kn_op rfl rfl (wantB_none rfl) fun _ hF2 => ?_, ?_⟩
                      · obtain ⟨_, hle2, H2⟩ := hF2
                        refine  (ow_pick (a := true) (v := .bool true) (congrArg Value.bool (by rw [hg13] <;> rfl)) rfl ?_)
                        exact ⟨rfl, rfl⟩
                      exact trivial
                    refine cw_nil ?_
                    exact st_live [0, 3, 58] (again _ _ ⟨_, _, rfl, H, by first | rfl | (rw [hg7, hg8, hg9, hg11, hg12, hg13] <;> rfl) | simp [hg7, hg8, hg9, hg11, hg12, hg13]⟩)
                · refine af_some [(49, undef), (48, undef), (47, .bool (!(withinB x5.at_ 0 1099511627775))), (46, .bool (!(withinB x5.at_ 0 1099511627775))), (45, .bool (!(withinB x5.at_ 0 1099511627775)))] (fun w_ => ∃ I2, Le I I2 ∧ Hp B I2 w_ [(g6, Ob [.int .i64 x5.no, .int .i64 x5.at_, .int .i64 x5.known, .string x5.policy.name, .slice Ak5 x5.policy.kinds.length ck5, .slice Ao5 x5.policy.offices.length co5, .slice Ar5 x5.policy.rules.length cr5, .int .i64 x5.policy.change.kind, .int .i64 x5.policy.change.n, .int .i64 x5.policy.change.no, .string x5.policy.change.name, .slice Acl5 x5.policy.change.l.length ccl5, .int .i64 x5.policy.mode] 52)]) rfl ⟨_, Le.refl _, H.pick [0] (by decide)⟩ ?_ ?_
                  · refine ⟨kn_op rfl rfl ((wantB_some (j := 23) rfl rfl (d := 41) rfl rfl (u := false) (by exact congrArg Value.bool hg11)).trans rfl) fun _ hF2 => ?_, ?_⟩
                    · obtain ⟨_, hle2, H2⟩ := hF2
                      refine  (ow_not rfl ?_)
                      exact ⟨rfl, rfl⟩
                    refine ⟨kn_op rfl rfl (wantB_none rfl) fun _ hF2 => ?_, ?_⟩
                    · obtain ⟨_, hle2, H2⟩ := hF2
                      refine  (ow_pick (a := false) (v := .bool (!(withinB x5.at_ 0 1099511627775))) (congrArg Value.bool hg11) rfl ?_)
                      exact ⟨rfl, rfl⟩
                    refine ⟨kn_op rfl rfl (wantB_none rfl) fun _ hF2 => ?_, ?_⟩
                    · obtain ⟨_, hle2, H2⟩ := hF2
                      refine  (ow_move (v := .bool (!(withinB x5.at_ 0 1099511627775))) rfl ?_)
                      exact ⟨rfl, rfl⟩
                    refine ⟨kn_pass rfl rfl ((wantB_some (j := 29) rfl rfl (d := 47) rfl rfl (u := true) (by exact congrArg Value.bool (by rw [hg12] <;> rfl))).trans rfl) rfl, ?_⟩
                    refine ⟨kn_pass rfl rfl ((wantB_some (j := 29) rfl rfl (d := 47) rfl rfl (u := true) (by exact congrArg Value.bool (by rw [hg12] <;> rfl))).trans rfl) rfl, ?_⟩
                    exact trivial
                  refine cw_pass rfl ((wantB_some (j := 29) rfl rfl (d := 47) rfl rfl (u := true) (by exact congrArg Value.bool (by rw [hg12] <;> rfl))).trans rfl) ?_
                  refine af_some [(55, undef), (54, undef), (53, .bool true), (52, .bool true), (51, undef)] (fun w_ => ∃ I2, Le I I2 ∧ Hp B I2 w_ [(g6, Ob [.int .i64 x5.no, .int .i64 x5.at_, .int .i64 x5.known, .string x5.policy.name, .slice Ak5 x5.policy.kinds.length ck5, .slice Ao5 x5.policy.offices.length co5, .slice Ar5 x5.policy.rules.length cr5, .int .i64 x5.policy.change.kind, .int .i64 x5.policy.change.n, .int .i64 x5.policy.change.no, .string x5.policy.change.name, .slice Acl5 x5.policy.change.l.length ccl5, .int .i64 x5.policy.mode] 52)]) rfl ⟨_, Le.refl _, H.pick [0] (by decide)⟩ ?_ ?_
                  · refine ⟨kn_pass rfl rfl ((wantB_some (j := 29) rfl rfl (d := 47) rfl rfl (u := true) (by exact congrArg Value.bool (by rw [hg12] <;> rfl))).trans rfl) rfl, ?_⟩
                    refine ⟨kn_op rfl rfl (wantB_none rfl) fun _ hF2 => ?_, ?_⟩
                    · obtain ⟨_, hle2, H2⟩ := hF2
                      refine  (ow_pick (a := true) (v := .bool true) (congrArg Value.bool (by rw [hg12] <;> rfl)) rfl ?_)
                      exact ⟨rfl, rfl⟩
                    refine ⟨kn_op rfl rfl (wantB_none rfl) fun _ hF2 => ?_, ?_⟩
                    · obtain ⟨_, hle2, H2⟩ := hF2
                      refine  (ow_move (v := .bool true) rfl ?_)
                      exact ⟨rfl, rfl⟩
                    refine ⟨kn_pass rfl rfl ((wantB_some (j := 35) rfl rfl (d := 53) rfl rfl (u := true) rfl).trans rfl) rfl, ?_⟩
                    refine ⟨kn_pass rfl rfl ((wantB_some (j := 35) rfl rfl (d := 53) rfl rfl (u := true) rfl).trans rfl) rfl, ?_⟩
                    exact trivial
                  refine cw_pass rfl ((wantB_some (j := 35) rfl rfl (d := 53) rfl rfl (u := true) rfl).trans rfl) ?_
                  refine af_some [(58, .bool true), (57, undef)] (fun w_ => ∃ I2, Le I I2 ∧ Hp B I2 w_ [(g6, Ob [.int .i64 x5.no, .int .i64 x5.at_, .int .i64 x5.known, .string x5.policy.name, .slice Ak5 x5.policy.kinds.length ck5, .slice Ao5 x5.policy.offices.length co5, .slice Ar5 x5.policy.rules.length cr5, .int .i64 x5.policy.change.kind, .int .i64 x5.policy.change.n, .int .i64 x5.policy.change.no, .string x5.policy.change.name, .slice Acl5 x5.policy.change.l.length ccl5, .int .i64 x5.policy.mode] 52)]) rfl ⟨_, Le.refl _, H.pick [0] (by decide)⟩ ?_ ?_
                  · refine ⟨kn_pass rfl rfl ((wantB_some (j := 35) rfl rfl (d := 53) rfl rfl (u := true) rfl).trans rfl) rfl, ?_⟩
                    refine ⟨kn_op rfl rfl (wantB_none rfl) fun _ hF2 => ?_, ?_⟩
                    · obtain ⟨_, hle2, H2⟩ := hF2
                      refine  (ow_pick (v := .bool true) rfl rfl ?_)
                      exact ⟨rfl, rfl⟩
                    exact trivial
                  refine cw_nil ?_
                  exact st_live [0, 3, 58] (again _ _ ⟨_, _, rfl, H, by first | rfl | (rw [hg7, hg8, hg9, hg11, hg12] <;> rfl) | simp [hg7, hg8, hg9, hg11, hg12]⟩)
            · refine st_draw (F := (fun w_ => ∃ I2, Le I I2 ∧ Hp B I2 w_ [(g6, Ob [.int .i64 x5.no, .int .i64 x5.at_, .int .i64 x5.known, .string x5.policy.name, .slice Ak5 x5.policy.kinds.length ck5, .slice Ao5 x5.policy.offices.length co5, .slice Ar5 x5.policy.rules.length cr5, .int .i64 x5.policy.change.kind, .int .i64 x5.policy.change.n, .int .i64 x5.policy.change.no, .string x5.policy.change.name, .slice Acl5 x5.policy.change.l.length ccl5, .int .i64 x5.policy.mode] 52)])) (p0 := [0, 1, 2, 3, 4, 5, 6, 7, 8, 9, 10, 11, 12, 13, 14, 15, 16, 17, 18, 19, 20, 21, 22, 23, 24, 25]) (plan := [(26, [27, 28, 29, 30, 31], []), (32, [33, 34, 35, 36, 37], []), (38, [39, 40], [])]) [] [] [(43, .int .i64 x5.at_), (42, .pointer (some ⟨g6, 1, none⟩)), (41, .bool false), (40, .bool false), (39, .bool false), (38, undef), (37, undef), (36, undef), (35, undef), (34, undef), (33, undef), (32, undef), (31, undef), (30, undef), (29, .bool (decide (0 < (i : Int)))), (28, .bool (decide (0 < (i : Int)))), (27, .int .i64 (i : Int)), (26, .bool (decide (1048576 < x5.no))), (25, .bool (decide (1048576 < x5.no))), (24, .bool (decide (1048576 < x5.no))), (23, .int .i64 x5.no), (22, .pointer (some ⟨g6, 0, none⟩)), (21, .bool (decide (x5.no < 0))), (20, .bool (decide (x5.no < 0))), (19, .int .i64 x5.no), (18, .pointer (some ⟨g6, 0, none⟩))] (by kernel_rfl) rfl ?_ ⟨_, Le.refl _, H.drew.pick [0] (by decide)⟩ ?_
              · refine ⟨kn_op rfl rfl (wantB_none rfl) fun _ hF2 => ?_, ?_⟩
                · obtain ⟨_, hle2, H2⟩ := hF2
                  refine  (ow_fieldAddr fd52_0 ty3 rfl rfl (r := 0) rfl ?_)
                  exact ⟨rfl, rfl⟩
                refine ⟨kn_op rfl rfl (wantB_none rfl) fun _ hF2 => ?_, ?_⟩
                · obtain ⟨_, hle2, H2⟩ := hF2
                  refine  (ow_load (v := .int .i64 x5.no) ty3 H2 rfl 0 rfl rfl rfl rfl ?_)
                  exact ⟨rfl, rfl⟩
                refine ⟨kn_op rfl rfl (wantB_none rfl) fun _ hF2 => ?_, ?_⟩
                · obtain ⟨_, hle2, H2⟩ := hF2
                  refine  (ow_lss rfl rfl ?_)
                  exact ⟨rfl, rfl⟩
                refine ⟨kn_op rfl rfl (wantB_none rfl) fun _ hF2 => ?_, ?_⟩
                · obtain ⟨_, hle2, H2⟩ := hF2
                  refine  (ow_move (v := .bool (decide (x5.no < 0))) rfl ?_)
                  exact ⟨rfl, rfl⟩
                refine ⟨kn_op rfl rfl ((wantB_some (j := 3) rfl rfl (d := 21) rfl rfl (u := false) (by exact congrArg Value.bool hg7)).trans rfl) fun _ hF2 => ?_, ?_⟩
                · obtain ⟨_, hle2, H2⟩ := hF2
                  refine  (ow_fieldAddr fd52_0 ty3 rfl rfl (r := 0) rfl ?_)
                  exact ⟨rfl, rfl⟩
                refine ⟨kn_op rfl rfl ((wantB_some (j := 3) rfl rfl (d := 21) rfl rfl (u := false) (by exact congrArg Value.bool hg7)).trans rfl) fun _ hF2 => ?_, ?_⟩
                · obtain ⟨_, hle2, H2⟩ := hF2
                  refine  (ow_load (v := .int .i64 x5.no) ty3 H2 rfl 0 rfl rfl rfl rfl ?_)
                  exact ⟨rfl, rfl⟩
                refine ⟨kn_op rfl rfl ((wantB_some (j := 3) rfl rfl (d := 21) rfl rfl (u := false) (by exact congrArg Value.bool hg7)).trans rfl) fun _ hF2 => ?_, ?_⟩
                · obtain ⟨_, hle2, H2⟩ := hF2
                  refine  (ow_gtr rfl rfl ?_)
                  exact ⟨rfl, rfl⟩
                refine ⟨kn_op rfl rfl (wantB_none rfl) fun _ hF2 => ?_, ?_⟩
                · obtain ⟨_, hle2, H2⟩ := hF2
                  refine  (ow_pick (a := false) (v := .bool (decide (1048576 < x5.no))) (congrArg Value.bool hg7) rfl ?_)
                  exact ⟨rfl, rfl⟩
                refine ⟨kn_op rfl rfl (wantB_none rfl) fun _ hF2 => ?_, ?_⟩
                · obtain ⟨_, hle2, H2⟩ := hF2
                  refine  (ow_move (v := .bool (decide (1048576 < x5.no))) rfl ?_)
                  exact ⟨rfl, rfl⟩
                refine ⟨kn_op rfl rfl ((wantB_some (j := 8) rfl rfl (d := 26) rfl rfl (u := false) (by exact congrArg Value.bool hg8)).trans rfl) fun _ hF2 => ?_, ?_⟩
                · obtain ⟨_, hle2, H2⟩ := hF2
                  refine  (ow_move (v := .int .i64 (i : Int)) rfl ?_)
                  exact ⟨rfl, rfl⟩
                refine ⟨kn_op rfl rfl ((wantB_some (j := 8) rfl rfl (d := 26) rfl rfl (u := false) (by exact congrArg Value.bool hg8)).trans rfl) fun _ hF2 => ?_, ?_⟩
                · obtain ⟨_, hle2, H2⟩ := hF2
                  refine  (ow_gtr rfl rfl ?_)
                  exact ⟨rfl, rfl⟩
                refine ⟨kn_op rfl rfl ((wantB_some (j := 8) rfl rfl (d := 26) rfl rfl (u := false) (by exact congrArg Value.bool hg8)).trans rfl) fun _ hF2 => ?_, ?_⟩
                · obtain ⟨_, hle2, H2⟩ := hF2
                  refine  (ow_move (v := .bool (decide (0 < (i : Int)))) rfl ?_)
                  exact ⟨rfl, rfl⟩
                refine ⟨kn_pass rfl rfl ((wantB_some (j := 11) rfl rfl (d := 29) rfl rfl (u := false) (by exact congrArg Value.bool hg9)).trans rfl) rfl, ?_⟩
                refine ⟨kn_pass rfl rfl ((wantB_some (j := 11) rfl rfl (d := 29) rfl rfl (u := false) (by exact congrArg Value.bool hg9)).trans rfl) rfl, ?_⟩
                refine ⟨kn_pass rfl rfl ((wantB_some (j := 11) rfl rfl (d := 29) rfl rfl (u := false) (by exact congrArg Value.bool hg9)).trans rfl) rfl, ?_⟩
                refine ⟨kn_pass rfl rfl ((wantB_some (j := 11) rfl rfl (d := 29) rfl rfl (u := false) (by exact congrArg Value.bool hg9)).trans rfl) rfl, ?_⟩
                refine ⟨kn_pass rfl rfl ((wantB_some (j := 11) rfl rfl (d := 29) rfl rfl (u := false) (by exact congrArg Value.bool hg9)).trans rfl) rfl, ?_⟩
                refine ⟨kn_pass rfl rfl ((wantB_some (j := 11) rfl rfl (d := 29) rfl rfl (u := false) (by exact congrArg Value.bool hg9)).trans rfl) rfl, ?_⟩
                refine ⟨kn_pass rfl rfl ((wantB_some (j := 11) rfl rfl (d := 29) rfl rfl (u := false) (by exact congrArg Value.bool hg9)).trans rfl) rfl, ?_⟩
                refine ⟨kn_pass rfl rfl ((wantB_some (j := 11) rfl rfl (d := 29) rfl rfl (u := false) (by exact congrArg Value.bool hg9)).trans rfl) rfl, ?_⟩
                refine ⟨kn_pass rfl rfl ((wantB_some (j := 11) rfl rfl (d := 29) rfl rfl (u := false) (by exact congrArg Value.bool hg9)).trans rfl) rfl, ?_⟩
                refine ⟨kn_op rfl rfl ((wantB_some (j := 8) rfl rfl (d := 26) rfl rfl (u := false) (by exact congrArg Value.bool hg8)).trans rfl) fun _ hF2 => ?_, ?_⟩
                · obtain ⟨_, hle2, H2⟩ := hF2
                  refine  (ow_pick (a := false) (v := .bool false) (congrArg Value.bool hg9) rfl ?_)
                  exact ⟨rfl, rfl⟩
                refine ⟨kn_op rfl rfl (wantB_none rfl) fun _ hF2 => ?_, ?_⟩
                · obtain ⟨_, hle2, H2⟩ := hF2
                  refine  (ow_pick (a := false) (v := .bool false) (congrArg Value.bool hg8) rfl ?_)
                  exact ⟨rfl, rfl⟩
                refine ⟨kn_op rfl rfl (wantB_none rfl) fun _ hF2 => ?_, ?_⟩
                · obtain ⟨_, hle2, H2⟩ := hF2
                  refine  (ow_move (v := .bool false) rfl ?_)
                  exact ⟨rfl, rfl⟩
                refine ⟨kn_op rfl rfl ((wantB_some (j := 23) rfl rfl (d := 41) rfl rfl (u := false) rfl).trans rfl) fun _ hF2 => ?_, ?_⟩
                · obtain ⟨_, hle2, H2⟩ := hF2
                  refine  (ow_fieldAddr fd52_1 ty3 rfl rfl (r := 1) rfl ?_)
                  exact ⟨rfl, rfl⟩
                refine ⟨kn_op rfl rfl ((wantB_some (j := 23) rfl rfl (d := 41) rfl rfl (u := false) rfl).trans rfl) fun _ hF2 => ?_, ?_⟩
                · obtain ⟨_, hle2, H2⟩ := hF2
                  refine  (ow_load (v := .int .i64 x5.at_) ty3 H2 rfl 0 rfl rfl rfl rfl ?_)
                  exact ⟨rfl, rfl⟩
                exact trivial
              have H := H.drew
              refine cw_op rfl ((wantB_some (j := 23) rfl rfl (d := 41) rfl rfl (u := false) rfl).trans rfl) (ow_call en32 rfl (Time_c H x5.at_) ?_)
              rintro _ _ ⟨rfl, H⟩
              rcases Bool.eq_false_or_eq_true (withinB x5.at_ 0 1099511627775) with hg14 | hg14
              · refine af_some [(49, .int .i64 x5.known), (48, .pointer (some ⟨g6, 2, none⟩)), (47, .bool (!(withinB x5.at_ 0 1099511627775))), (46, .bool (!(withinB x5.at_ 0 1099511627775))), (45, .bool (!(withinB x5.at_ 0 1099511627775)))] (fun w_ => ∃ I2, Le I I2 ∧ Hp B I2 w_ [(g6, Ob [.int .i64 x5.no, .int .i64 x5.at_, .int .i64 x5.known, .string x5.policy.name, .slice Ak5 x5.policy.kinds.length ck5, .slice Ao5 x5.policy.offices.length co5, .slice Ar5 x5.policy.rules.length cr5, .int .i64 x5.policy.change.kind, .int .i64 x5.policy.change.n, .int .i64 x5.policy.change.no, .string x5.policy.change.name, .slice Acl5 x5.policy.change.l.length ccl5, .int .i64 x5.policy.mode] 52)]) rfl ⟨_, Le.refl _, H.pick [0] (by decide)⟩ ?_ ?_
                · refine ⟨kn_op rfl rfl ((wantB_some (j := 23) rfl rfl (d := 41) rfl rfl (u := false) rfl).trans rfl) fun _ hF2 => ?_, ?_⟩
                  · obtain ⟨_, hle2, H2⟩ := hF2
                    refine  (ow_not rfl ?_)
                    exact ⟨rfl, rfl⟩
                  refine ⟨kn_op rfl rfl (wantB_none rfl) fun _ hF2 => ?_, ?_⟩
                  · obtain ⟨_, hle2, H2⟩ := hF2
                    refine  (ow_pick (v := .bool (!(withinB x5.at_ 0 1099511627775))) rfl rfl ?_)
                    exact ⟨rfl, rfl⟩
                  refine ⟨kn_op rfl rfl (wantB_none rfl) fun _ hF2 => ?_, ?_⟩
                  · obtain ⟨_, hle2, H2⟩ := hF2
                    refine  (ow_move (v := .bool (!(withinB x5.at_ 0 1099511627775))) rfl ?_)
                    exact ⟨rfl, rfl⟩
                  refine ⟨kn_op rfl rfl ((wantB_some (j := 29) rfl rfl (d := 47) rfl rfl (u := false) (by exact congrArg Value.bool (by rw [hg14] <;> rfl))).trans rfl) fun _ hF2 => ?_, ?_⟩
                  · obtain ⟨_, hle2, H2⟩ := hF2
                    refine  (ow_fieldAddr fd52_2 ty3 rfl rfl (r := 2) rfl ?_)
                    exact ⟨rfl, rfl⟩
                  refine ⟨kn_op rfl rfl ((wantB_some (j := 29) rfl rfl (d := 47) rfl rfl (u := false) (by exact congrArg Value.bool (by rw [hg14] <;> rfl))).trans rfl) fun _ hF2 => ?_, ?_⟩
                  · obtain ⟨_, hle2, H2⟩ := hF2
                    refine  (ow_load (v := .int .i64 x5.known) ty3 H2 rfl 0 rfl rfl rfl rfl ?_)
                    exact ⟨rfl, rfl⟩
                  exact trivial
                refine cw_op rfl ((wantB_some (j := 29) rfl rfl (d := 47) rfl rfl (u := false) (by exact congrArg Value.bool (by rw [hg14] <;> rfl))).trans rfl) (ow_call en32 rfl (Time_c H x5.known) ?_)
                rintro _ _ ⟨rfl, H⟩
                rcases Bool.eq_false_or_eq_true (withinB x5.known 0 1099511627775) with hg15 | hg15
                · refine af_some [(55, .agg #[.string x5.policy.name, .slice Ak5 x5.policy.kinds.length ck5, .slice Ao5 x5.policy.offices.length co5, .slice Ar5 x5.policy.rules.length cr5, .int .i64 x5.policy.change.kind, .int .i64 x5.policy.change.n, .int .i64 x5.policy.change.no, .string x5.policy.change.name, .slice Acl5 x5.policy.change.l.length ccl5, .int .i64 x5.policy.mode]), (54, .pointer (some ⟨g6, 3, none⟩)), (53, .bool (!(withinB x5.known 0 1099511627775))), (52, .bool (!(withinB x5.known 0 1099511627775))), (51, .bool (!(withinB x5.known 0 1099511627775)))] (fun w_ => ∃ I2, Le I I2 ∧ Hp B I2 w_ [(g6, Ob [.int .i64 x5.no, .int .i64 x5.at_, .int .i64 x5.known, .string x5.policy.name, .slice Ak5 x5.policy.kinds.length ck5, .slice Ao5 x5.policy.offices.length co5, .slice Ar5 x5.policy.rules.length cr5, .int .i64 x5.policy.change.kind, .int .i64 x5.policy.change.n, .int .i64 x5.policy.change.no, .string x5.policy.change.name, .slice Acl5 x5.policy.change.l.length ccl5, .int .i64 x5.policy.mode] 52)]) rfl ⟨_, Le.refl _, H.pick [0] (by decide)⟩ ?_ ?_
                  · refine ⟨kn_op rfl rfl ((wantB_some (j := 29) rfl rfl (d := 47) rfl rfl (u := false) (by exact congrArg Value.bool (by rw [hg14] <;> rfl))).trans rfl) fun _ hF2 => ?_, ?_⟩
                    · obtain ⟨_, hle2, H2⟩ := hF2
                      refine  (ow_not rfl ?_)
                      exact ⟨rfl, rfl⟩
                    refine ⟨kn_op rfl rfl (wantB_none rfl) fun _ hF2 => ?_, ?_⟩
                    · obtain ⟨_, hle2, H2⟩ := hF2
                      refine  (ow_pick (a := false) (v := .bool (!(withinB x5.known 0 1099511627775))) (congrArg Value.bool (by rw [hg14] <;> rfl)) rfl ?_)
                      exact ⟨rfl, rfl⟩
                    refine ⟨kn_op rfl rfl (wantB_none rfl) fun _ hF2 => ?_, ?_⟩
                    · obtain ⟨_, hle2, H2⟩ := hF2
                      refine  (ow_move (v := .bool (!(withinB x5.known 0 1099511627775))) rfl ?_)
                      exact ⟨rfl, rfl⟩
                    refine ⟨kn_op rfl rfl ((wantB_some (j := 35) rfl rfl (d := 53) rfl rfl (u := false) (by exact congrArg Value.bool (by rw [hg15] <;> rfl))).trans rfl) fun _ hF2 => ?_, ?_⟩
                    · obtain ⟨_, hle2, H2⟩ := hF2
                      refine  (ow_fieldAddr fd52_3 ty28 rfl rfl (r := 3) rfl ?_)
                      exact ⟨rfl, rfl⟩
                    refine ⟨kn_op rfl rfl ((wantB_some (j := 35) rfl rfl (d := 53) rfl rfl (u := false) (by exact congrArg Value.bool (by rw [hg15] <;> rfl))).trans rfl) fun _ hF2 => ?_, ?_⟩
                    · obtain ⟨_, hle2, H2⟩ := hF2
                      refine  (ow_load (v := .agg #[.string x5.policy.name, .slice Ak5 x5.policy.kinds.length ck5, .slice Ao5 x5.policy.offices.length co5, .slice Ar5 x5.policy.rules.length cr5, .int .i64 x5.policy.change.kind, .int .i64 x5.policy.change.n, .int .i64 x5.policy.change.no, .string x5.policy.change.name, .slice Acl5 x5.policy.change.l.length ccl5, .int .i64 x5.policy.mode]) ty28 H2 rfl 0 rfl rfl rfl rfl ?_)
                      exact ⟨rfl, rfl⟩
                    exact trivial
                  refine cw_op rfl ((wantB_some (j := 35) rfl rfl (d := 53) rfl rfl (u := false) (by exact congrArg Value.bool (by rw [hg15] <;> rfl))).trans rfl) (ow_call en23 rfl (refCheck_c H x5p0) ?_)
                  rintro _ _ ⟨rfl, H⟩
                  refine af_some [(58, .bool (!decide (checkE x5.policy = 0))), (57, .bool (!decide (checkE x5.policy = 0)))] (fun w_ => ∃ I2, Le I I2 ∧ Hp B I2 w_ [(g6, Ob [.int .i64 x5.no, .int .i64 x5.at_, .int .i64 x5.known, .string x5.policy.name, .slice Ak5 x5.policy.kinds.length ck5, .slice Ao5 x5.policy.offices.length co5, .slice Ar5 x5.policy.rules.length cr5, .int .i64 x5.policy.change.kind, .int .i64 x5.policy.change.n, .int .i64 x5.policy.change.no, .string x5.policy.change.name, .slice Acl5 x5.policy.change.l.length ccl5, .int .i64 x5.policy.mode] 52)]) rfl ⟨_, Le.refl _, H.pick [0] (by decide)⟩ ?_ ?_
                  · refine ⟨kn_op rfl rfl ((wantB_some (j := 35) rfl rfl (d := 53) rfl rfl (u := false) (by exact congrArg Value.bool (by rw [hg15] <;> rfl))).trans rfl) fun _ hF2 => ?_, ?_⟩
                    · obtain ⟨_, hle2, H2⟩ := hF2
                      refine  (ow_neq rfl rfl ?_)
                      exact ⟨rfl, rfl⟩
                    refine ⟨kn_op rfl rfl (wantB_none rfl) fun _ hF2 => ?_, ?_⟩
                    · obtain ⟨_, hle2, H2⟩ := hF2
                      refine  (ow_pick (a := false) (v := .bool (!decide (checkE x5.policy = 0))) (congrArg Value.bool (by rw [hg15] <;> rfl)) rfl ?_)
                      exact ⟨rfl, rfl⟩
                    exact trivial
                  refine cw_nil ?_
                  exact st_live [0, 3, 58] (again _ _ ⟨_, _, rfl, H, by first | rfl | (rw [hg7, hg8, hg9, hg14, hg15] <;> rfl) | simp [hg7, hg8, hg9, hg14, hg15]⟩)
                · refine af_some [(55, undef), (54, undef), (53, .bool (!(withinB x5.known 0 1099511627775))), (52, .bool (!(withinB x5.known 0 1099511627775))), (51, .bool (!(withinB x5.known 0 1099511627775)))] (fun w_ => ∃ I2, Le I I2 ∧ Hp B I2 w_ [(g6, Ob [.int .i64 x5.no, .int .i64 x5.at_, .int .i64 x5.known, .string x5.policy.name, .slice Ak5 x5.policy.kinds.length ck5, .slice Ao5 x5.policy.offices.length co5, .slice Ar5 x5.policy.rules.length cr5, .int .i64 x5.policy.change.kind, .int .i64 x5.policy.change.n, .int .i64 x5.policy.change.no, .string x5.policy.change.name, .slice Acl5 x5.policy.change.l.length ccl5, .int .i64 x5.policy.mode] 52)]) rfl ⟨_, Le.refl _, H.pick [0] (by decide)⟩ ?_ ?_
                  · refine ⟨kn_op rfl rfl ((wantB_some (j := 29) rfl rfl (d := 47) rfl rfl (u := false) (by exact congrArg Value.bool (by rw [hg14] <;> rfl))).trans rfl) fun _ hF2 => ?_, ?_⟩
                    · obtain ⟨_, hle2, H2⟩ := hF2
                      refine  (ow_not rfl ?_)
                      exact ⟨rfl, rfl⟩
                    refine ⟨kn_op rfl rfl (wantB_none rfl) fun _ hF2 => ?_, ?_⟩
                    · obtain ⟨_, hle2, H2⟩ := hF2
                      refine  (ow_pick (a := false) (v := .bool (!(withinB x5.known 0 1099511627775))) (congrArg Value.bool (by rw [hg14] <;> rfl)) rfl ?_)
                      exact ⟨rfl, rfl⟩
                    refine ⟨kn_op rfl rfl (wantB_none rfl) fun _ hF2 => ?_, ?_⟩
                    · obtain ⟨_, hle2, H2⟩ := hF2
                      refine  (ow_move (v := .bool (!(withinB x5.known 0 1099511627775))) rfl ?_)
                      exact ⟨rfl, rfl⟩
                    refine ⟨kn_pass rfl rfl ((wantB_some (j := 35) rfl rfl (d := 53) rfl rfl (u := true) (by exact congrArg Value.bool (by rw [hg15] <;> rfl))).trans rfl) rfl, ?_⟩
                    refine ⟨kn_pass rfl rfl ((wantB_some (j := 35) rfl rfl (d := 53) rfl rfl (u := true) (by exact congrArg Value.bool (by rw [hg15] <;> rfl))).trans rfl) rfl, ?_⟩
                    exact trivial
                  refine cw_pass rfl ((wantB_some (j := 35) rfl rfl (d := 53) rfl rfl (u := true) (by exact congrArg Value.bool (by rw [hg15] <;> rfl))).trans rfl) ?_
                  refine af_some [(58, .bool true), (57, undef)] (fun w_ => ∃ I2, Le I I2 ∧ Hp B I2 w_ [(g6, Ob [.int .i64 x5.no, .int .i64 x5.at_, .int .i64 x5.known, .string x5.policy.name, .slice Ak5 x5.policy.kinds.length ck5, .slice Ao5 x5.policy.offices.length co5, .slice Ar5 x5.policy.rules.length cr5, .int .i64 x5.policy.change.kind, .int .i64 x5.policy.change.n, .int .i64 x5.policy.change.no, .string x5.policy.change.name, .slice Acl5 x5.policy.change.l.length ccl5, .int .i64 x5.policy.mode] 52)]) rfl ⟨_, Le.refl _, H.pick [0] (by decide)⟩ ?_ ?_
                  · refine ⟨kn_pass rfl rfl ((wantB_some (j := 35) rfl rfl (d := 53) rfl rfl (u := true) (by exact congrArg Value.bool (by rw [hg15] <;> rfl))).trans rfl) rfl, ?_⟩
                    refine ⟨kn_op rfl rfl (wantB_none rfl) fun _ hF2 => ?_, ?_⟩
                    · obtain ⟨_, hle2, H2⟩ := hF2
                      refine  (ow_pick (a := true) (v := .bool true) (congrArg Value.bool (by rw [hg15] <;> rfl)) rfl ?_)
                      exact ⟨rfl, rfl⟩
                    exact trivial
                  refine cw_nil ?_
                  exact st_live [0, 3, 58] (again _ _ ⟨_, _, rfl, H, by first | rfl | (rw [hg7, hg8, hg9, hg14, hg15] <;> rfl) | simp [hg7, hg8, hg9, hg14, hg15]⟩)
              · refine af_some [(49, undef), (48, undef), (47, .bool (!(withinB x5.at_ 0 1099511627775))), (46, .bool (!(withinB x5.at_ 0 1099511627775))), (45, .bool (!(withinB x5.at_ 0 1099511627775)))] (fun w_ => ∃ I2, Le I I2 ∧ Hp B I2 w_ [(g6, Ob [.int .i64 x5.no, .int .i64 x5.at_, .int .i64 x5.known, .string x5.policy.name, .slice Ak5 x5.policy.kinds.length ck5, .slice Ao5 x5.policy.offices.length co5, .slice Ar5 x5.policy.rules.length cr5, .int .i64 x5.policy.change.kind, .int .i64 x5.policy.change.n, .int .i64 x5.policy.change.no, .string x5.policy.change.name, .slice Acl5 x5.policy.change.l.length ccl5, .int .i64 x5.policy.mode] 52)]) rfl ⟨_, Le.refl _, H.pick [0] (by decide)⟩ ?_ ?_
                · refine ⟨kn_op rfl rfl ((wantB_some (j := 23) rfl rfl (d := 41) rfl rfl (u := false) rfl).trans rfl) fun _ hF2 => ?_, ?_⟩
                  · obtain ⟨_, hle2, H2⟩ := hF2
                    refine  (ow_not rfl ?_)
                    exact ⟨rfl, rfl⟩
                  refine ⟨kn_op rfl rfl (wantB_none rfl) fun _ hF2 => ?_, ?_⟩
                  · obtain ⟨_, hle2, H2⟩ := hF2
                    refine  (ow_pick (v := .bool (!(withinB x5.at_ 0 1099511627775))) rfl rfl ?_)
                    exact ⟨rfl, rfl⟩
                  refine ⟨kn_op rfl rfl (wantB_none rfl) fun _ hF2 => ?_, ?_⟩
                  · obtain ⟨_, hle2, H2⟩ := hF2
                    refine  (ow_move (v := .bool (!(withinB x5.at_ 0 1099511627775))) rfl ?_)
                    exact ⟨rfl, rfl⟩
                  refine ⟨kn_pass rfl rfl ((wantB_some (j := 29) rfl rfl (d := 47) rfl rfl (u := true) (by exact congrArg Value.bool (by rw [hg14] <;> rfl))).trans rfl) rfl, ?_⟩
                  refine ⟨kn_pass rfl rfl ((wantB_some (j := 29) rfl rfl (d := 47) rfl rfl (u := true) (by exact congrArg Value.bool (by rw [hg14] <;> rfl))).trans rfl) rfl, ?_⟩
                  exact trivial
                refine cw_pass rfl ((wantB_some (j := 29) rfl rfl (d := 47) rfl rfl (u := true) (by exact congrArg Value.bool (by rw [hg14] <;> rfl))).trans rfl) ?_
                refine af_some [(55, undef), (54, undef), (53, .bool true), (52, .bool true), (51, undef)] (fun w_ => ∃ I2, Le I I2 ∧ Hp B I2 w_ [(g6, Ob [.int .i64 x5.no, .int .i64 x5.at_, .int .i64 x5.known, .string x5.policy.name, .slice Ak5 x5.policy.kinds.length ck5, .slice Ao5 x5.policy.offices.length co5, .slice Ar5 x5.policy.rules.length cr5, .int .i64 x5.policy.change.kind, .int .i64 x5.policy.change.n, .int .i64 x5.policy.change.no, .string x5.policy.change.name, .slice Acl5 x5.policy.change.l.length ccl5, .int .i64 x5.policy.mode] 52)]) rfl ⟨_, Le.refl _, H.pick [0] (by decide)⟩ ?_ ?_
                · refine ⟨kn_pass rfl rfl ((wantB_some (j := 29) rfl rfl (d := 47) rfl rfl (u := true) (by exact congrArg Value.bool (by rw [hg14] <;> rfl))).trans rfl) rfl, ?_⟩
                  refine ⟨kn_op rfl rfl (wantB_none rfl) fun _ hF2 => ?_, ?_⟩
                  · obtain ⟨_, hle2, H2⟩ := hF2
                    refine  (ow_pick (a := true) (v := .bool true) (congrArg Value.bool (by rw [hg14] <;> rfl)) rfl ?_)
                    exact ⟨rfl, rfl⟩
                  refine ⟨kn_op rfl rfl (wantB_none rfl) fun _ hF2 => ?_, ?_⟩
                  · obtain ⟨_, hle2, H2⟩ := hF2
                    refine  (ow_move (v := .bool true) rfl ?_)
                    exact ⟨rfl, rfl⟩
                  refine ⟨kn_pass rfl rfl ((wantB_some (j := 35) rfl rfl (d := 53) rfl rfl (u := true) rfl).trans rfl) rfl, ?_⟩
                  refine ⟨kn_pass rfl rfl ((wantB_some (j := 35) rfl rfl (d := 53) rfl rfl (u := true) rfl).trans rfl) rfl, ?_⟩
                  exact trivial
                refine cw_pass rfl ((wantB_some (j := 35) rfl rfl (d := 53) rfl rfl (u := true) rfl).trans rfl) ?_
                refine af_some [(58, .bool true), (57, undef)] (fun w_ => ∃ I2, Le I I2 ∧ Hp B I2 w_ [(g6, Ob [.int .i64 x5.no, .int .i64 x5.at_, .int .i64 x5.known, .string x5.policy.name, .slice Ak5 x5.policy.kinds.length ck5, .slice Ao5 x5.policy.offices.length co5, .slice Ar5 x5.policy.rules.length cr5, .int .i64 x5.policy.change.kind, .int .i64 x5.policy.change.n, .int .i64 x5.policy.change.no, .string x5.policy.change.name, .slice Acl5 x5.policy.change.l.length ccl5, .int .i64 x5.policy.mode] 52)]) rfl ⟨_, Le.refl _, H.pick [0] (by decide)⟩ ?_ ?_
                · refine ⟨kn_pass rfl rfl ((wantB_some (j := 35) rfl rfl (d := 53) rfl rfl (u := true) rfl).trans rfl) rfl, ?_⟩
                  refine ⟨kn_op rfl rfl (wantB_none rfl) fun _ hF2 => ?_, ?_⟩
                  · obtain ⟨_, hle2, H2⟩ := hF2
                    refine  (ow_pick (v := .bool true) rfl rfl ?_)
                    exact ⟨rfl, rfl⟩
                  exact trivial
                refine cw_nil ?_
                exact st_live [0, 3, 58] (again _ _ ⟨_, _, rfl, H, by first | rfl | (rw [hg7, hg8, hg9, hg14] <;> rfl) | simp [hg7, hg8, hg9, hg14]⟩)
      rintro _ _ ⟨r16, _, rfl, H, rfl⟩
      refine st_cond ((decide (x5.no < 0)) || ((decide (1048576 < x5.no)) || (bif (decide (0 < (i : Int))) then ((decide (x5.no ≤ la)) || (!(withinB x5.at_ 0 1099511627775) || (!(withinB x5.known 0 1099511627775) || (!decide (checkE x5.policy = 0))))) else (!(withinB x5.at_ 0 1099511627775) || (!(withinB x5.known 0 1099511627775) || (!decide (checkE x5.policy = 0))))))) rfl (fun hc17 => ?_) (fun hc17 => ?_)
      · have hv := ca_ok (x := x5) (la := la) (i := i) hlink2 hc17
        refine st_seq ?_
        refine st_region ?_
        refine sr_op rfl rfl (ow_assign (v := .int .i64 200) rfl ?_)
        refine sr_nil ?_
        refine st_ret hb (hR _ _ (.int .i64 200) (res_run (vs := [.int .i64 200]) Tryd.results28 ⟨_, _, rfl, rfl, rfl⟩) ?_)
        exact ⟨_, rfl, by rw [allE, if_neg (of_decide_eq_false hc1), ha, allF_step he5, hv]; rfl, H.drop 1⟩
      · have hv := ca_ok (x := x5) (la := la) (i := i) hlink2 hc17
        refine st_skip ?_
        refine st_inBlock ?_
        refine st_region ?_
        refine sr_op rfl rfl (ow_move (v := .int .i64 (i : Int)) rfl ?_)
        refine sr_op rfl rfl (ow_add (r := ((i + 1 : Nat) : Int)) rfl rfl (inc_i64 (by omega)) ?_)
        refine sr_op rfl rfl (ow_assign (v := .int .i64 ((i + 1 : Nat) : Int)) rfl ?_)
        refine sr_nil ?_
        exact st_inLoop (st_live [0, 3] (ih3 _ _ _ (by omega) ⟨i + 1, x5.no, _, rfl, rfl, H.drop 1, by omega, by have := within_of (and4 hv); omega, by have := within_of (and4 hv); omega, .inr ⟨by omega, by have := within_of (and4 hv); omega, x5, by simpa using he5, rfl⟩, by rw [ha, allF_step he5, hv]; rfl⟩))
    · have hc4 := of_decide_eq_false hc4
      refine st_exit rfl ?_
      refine st_seq ?_
      refine st_region ?_
      refine sr_op rfl rfl (ow_assign (v := .int .i64 0) rfl ?_)
      refine sr_nil ?_
      refine st_ret hb (hR _ _ (.int .i64 0) (res_run (vs := [.int .i64 0]) Tryd.results28 ⟨_, _, rfl, rfl, rfl⟩) ?_)
      have ht : allF l (-1) = true := by rw [ha, List.drop_of_length_le (by omega)]; rfl
      exact ⟨_, rfl, by rw [allE, if_neg (of_decide_eq_false hc1), ht]; rfl, H.drop 0⟩
end Go.Proofs.YtbbflenaeihmeaaDoor
