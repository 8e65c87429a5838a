/-
  Walks: reading and parsing of whole sources.
-/
import Derived.Test.YtghmjnbpkobooaaGreatDoorY9
set_option linter.unusedVariables false
set_option linter.unusedSimpArgs false
set_option maxRecDepth 10000
set_option maxHeartbeats 4000000
namespace Go.Proofs.YtghmjnbpkobooaaGreatDoor
open Go Go.RowKit

theorem policyT_eq (f : Nat) (l : List Tk) : policyT f l = (headT l).go fun h l => (namesT f l).go fun n l => (rulesT f l).go fun r l => (endT l).go fun _ l => .ok ⟨h.1, n.2, n.1, r.1, r.2, h.2⟩ l := rfl
theorem po_of {I : Im} {nm : ByteArray} {ks os : List ByteArray} {rs : List Ru} {c : Ex} {m : Int} {vk vo vr c0 c1 c2 c3 c4 : Value} (h1 : S63 nm) (h2 : RepS encS I 1 ks vk) (h3 : RepS encS I 1 os vo) (h4 : RepS encRu I 8 rs vr) (h5 : RepL I (encEx c) [c0, c1, c2, c3, c4]) (h6 : I64 m) : RepL I (encPo ⟨nm, ks, os, rs, c, m⟩) [.string nm, vk, vo, vr, c0, c1, c2, c3, c4, .int .i64 m] := by
  simp only [encPo, RepL, Rep.eq_4]
  exact ⟨_, _, rfl, ⟨rfl, h1⟩, vk, _, rfl, h2, vo, _, rfl, h3, vr, _, rfl, h4, RepL.append (us := [c0, c1, c2, c3, c4]) (vs := [.int .i64 m]) h5 (by simp only [RepL, Rep.eq_1]; exact ⟨_, _, rfl, ⟨rfl, h6⟩, rfl⟩)⟩
theorem zeroP_rep (I : Im) : RepL I (encPo zeroP) [.string ⟨#[]⟩, .slice none 0 0, .slice none 0 0, .slice none 0 0, .int .i64 0, .int .i64 0, .int .i64 0, .string ⟨#[]⟩, .slice none 0 0, .int .i64 0] :=
  po_of S63_nilS (RepS.nil _ _ _) (RepS.nil _ _ _) (RepS.nil _ _ _) ((ex_iff (x := zeroE)).2 ⟨_, rfl, i64_0, i64_0, i64_0, S63_nilS, RepS.nil _ _ _⟩) i64_0
theorem readSort {B : World} {I : Im} {w : World} {L : List (Nat × Obj)} {p6 p5 p4 : Nat × Obj} (h : Hp B I w (p6 :: p5 :: p4 :: L)) : Hp B I w (p4 :: p5 :: p6 :: L) :=
  h.perm ((List.reverse_perm [p6, p5, p4]).append_right L)
theorem read_ret {B I L w} {g4 g5 g6 : Nat} {c0 c1 c2 c3 c4 c5 c6 c7 c8 c9 : Value} {x y : Int} (H : Hp B I w ((g4, Ob [c0, c1, c2, c3, c4, c5, c6, c7, c8, c9] 28) :: (g5, Ob [.int .i64 x] 3) :: (g6, Ob [.int .i64 y] 31) :: L)) : CallsD Tryz.prog 129 #[.pointer (some ⟨g4, 0, none⟩), .pointer (some ⟨g5, 0, none⟩), .pointer (some ⟨g6, 0, none⟩)] .returning w (fun q u w' => ∃ v, q = .returned v ∧ u = .returning ∧ Hp B I w' ((g4, Ob [c0, c1, c2, c3, c4, c5, c6, c7, c8, c9] 28) :: (g5, Ob [.int .i64 x] 3) :: (g6, Ob [.int .i64 y] 31) :: L)) := by
  refine callsD_st (n := 20) Tryz.func129 rfl rfl rfl ?_
  intro G bF c0 cs hb hk hR
  simp only [ini]
  refine st_seq ?_
  refine st_region ?_
  refine sr_recover_none hb hk ?_
  refine sr_op rfl rfl (ow_assign (v := .nilIface) rfl ?_)
  refine sr_nil ?_
  refine st_seq ?_
  refine st_region ?_
  refine sr_op rfl rfl (ow_move (v := .nilIface) rfl ?_)
  refine sr_op rfl rfl (ow_neqNil0 Tryz.underlying20 rfl ?_)
  refine sr_nil ?_
  refine st_no rfl ?_
  refine st_skip ?_
  exact st_end hb (hR _ _ _ _ (res_run (vs := []) Tryz.results129 rfl) ⟨_, rfl, rfl, H⟩)
theorem read_pan {B I L w} {g4 g5 g6 : Nat} (a : Int) (H : Hp B I w ((g4, Ob [.string ⟨#[]⟩, .slice none 0 0, .slice none 0 0, .slice none 0 0, .int .i64 0, .int .i64 0, .int .i64 0, .string ⟨#[]⟩, .slice none 0 0, .int .i64 0] 28) :: (g5, Ob [.int .i64 0] 3) :: (g6, Ob [.int .i64 0] 31) :: L)) : CallsD Tryz.prog 129 #[.pointer (some ⟨g4, 0, none⟩), .pointer (some ⟨g5, 0, none⟩), .pointer (some ⟨g6, 0, none⟩)] (.panicking (wrongV a)) w (fun q u w' => ∃ v, q = .returned v ∧ u = .panicking [{ v := .iface 178 (.agg #[.int .i64 a]), recovered := true }] ∧ Hp B I w' ((g4, Ob [.string ⟨#[]⟩, .slice none 0 0, .slice none 0 0, .slice none 0 0, .int .i64 0, .int .i64 0, .int .i64 0, .string ⟨#[]⟩, .slice none 0 0, .int .i64 0] 28) :: (g5, Ob [.int .i64 a] 3) :: (g6, Ob [.int .i64 190] 31) :: L)) := by
  unfold wrongV
  refine callsD_st (n := 20) Tryz.func129 rfl rfl rfl ?_
  intro G bF c0 cs hb hk hR
  simp only [ini]
  refine st_seq ?_
  refine st_region ?_
  refine sr_recover hb hk ?_
  refine sr_op rfl rfl (ow_assign (v := .iface 178 (.agg #[.int .i64 a])) rfl ?_)
  refine sr_nil ?_
  refine st_seq ?_
  refine st_region ?_
  refine sr_op rfl rfl (ow_move (v := .iface 178 (.agg #[.int .i64 a])) rfl ?_)
  refine sr_op rfl rfl (ow_neqNil1 Tryz.underlying20 rfl ?_)
  refine sr_nil ?_
  refine st_yes rfl ?_
  refine st_seq ?_
  refine st_region ?_
  refine sr_op rfl rfl (ow_move (v := .iface 178 (.agg #[.int .i64 a])) rfl ?_)
  refine sr_op rfl rfl (ow_assert2 Tryz.underlying178 rfl rfl ?_)
  refine sr_op rfl rfl (ow_move (v := .tuple #[.agg #[.int .i64 a], .bool true]) rfl ?_)
  refine sr_op rfl rfl (ow_extract (v := .agg #[.int .i64 a]) rfl rfl ?_)
  refine sr_op rfl rfl (ow_extract (v := .bool true) rfl rfl ?_)
  refine sr_op rfl rfl (ow_alloc ty178 H [.int .i64 0] rfl (fun g1 _ H => ?_))
  refine sr_op rfl rfl (ow_store ty178 H rfl (v := .agg #[.int .i64 a]) rfl [.int .i64 a] rfl rfl rfl 0 rfl rfl (fun _ H => ?_))
  refine sr_op rfl rfl (ow_assign (v := .bool true) rfl ?_)
  refine sr_nil ?_
  refine st_seq ?_
  refine st_seq ?_
  refine st_region ?_
  refine sr_op rfl rfl (ow_move (v := .bool true) rfl ?_)
  refine sr_op rfl rfl (ow_not rfl ?_)
  refine sr_nil ?_
  refine st_no rfl ?_
  refine st_skip ?_
  refine st_draw (F := (fun w_ => ∃ Iq_, Le I Iq_ ∧ Hp B Iq_ w_ [(g1, Ob [.int .i64 a] 178), (g4, Ob [.string ⟨#[]⟩, .slice none 0 0, .slice none 0 0, .slice none 0 0, .int .i64 0, .int .i64 0, .int .i64 0, .string ⟨#[]⟩, .slice none 0 0, .int .i64 0] 28), (g5, Ob [.int .i64 0] 3), (g6, Ob [.int .i64 0] 31)])) (p0 := [0, 1, 2]) (plan := [(3, [], [1, 2]), (4, [], []), (5, [], [])]) [0, 1, 2, 3, 4, 5] [0, 3, 1, 2, 4, 5] [(19, .int .i64 a), (18, .pointer (some ⟨g1, 0, none⟩)), (17, .agg #[.string ⟨#[]⟩, .slice none 0 0, .slice none 0 0, .slice none 0 0, .int .i64 0, .int .i64 0, .int .i64 0, .string ⟨#[]⟩, .slice none 0 0, .int .i64 0])] (by kernel_rfl) rfl ?_ ⟨_, Le.refl _, H.drew.pick [0, 1, 2, 3] (by decide)⟩ ?_
  · refine ⟨kn_op rfl rfl (wantB_none rfl) fun _ hF2 => ?_, ?_⟩
    · obtain ⟨_, hle2, H2⟩ := hF2
      refine  (ow_build (ps := []) (v := .agg #[.string ⟨#[]⟩, .slice none 0 0, .slice none 0 0, .slice none 0 0, .int .i64 0, .int .i64 0, .int .i64 0, .string ⟨#[]⟩, .slice none 0 0, .int .i64 0]) rfl (fun _ => by kernel_rfl) ?_)
      exact ⟨rfl, rfl⟩
    refine ⟨kn_op rfl rfl (wantB_none rfl) fun _ hF2 => ?_, ?_⟩
    · obtain ⟨_, hle2, H2⟩ := hF2
      refine  (ow_fieldAddr fd178_0 ty3 rfl rfl (r := 0) rfl ?_)
      exact ⟨rfl, rfl⟩
    refine ⟨kn_op rfl rfl (wantB_none rfl) fun _ hF2 => ?_, ?_⟩
    · obtain ⟨_, hle2, H2⟩ := hF2
      refine  (ow_load (v := .int .i64 a) ty3 H2 rfl 0 rfl rfl rfl rfl ?_)
      exact ⟨rfl, rfl⟩
    exact trivial
  have H := H.drew
  refine cw_op rfl (wantB_none rfl) (ow_store ty28 H rfl (v := .agg #[.string ⟨#[]⟩, .slice none 0 0, .slice none 0 0, .slice none 0 0, .int .i64 0, .int .i64 0, .int .i64 0, .string ⟨#[]⟩, .slice none 0 0, .int .i64 0]) rfl [.string ⟨#[]⟩, .slice none 0 0, .slice none 0 0, .slice none 0 0, .int .i64 0, .int .i64 0, .int .i64 0, .string ⟨#[]⟩, .slice none 0 0, .int .i64 0] rfl rfl rfl 1 rfl rfl (fun _ H => ?_))
  refine af_some [] (fun w_ => ∃ Iq_, Le I Iq_ ∧ Hp B Iq_ w_ [(g1, Ob [.int .i64 a] 178), (g4, Ob [.string ⟨#[]⟩, .slice none 0 0, .slice none 0 0, .slice none 0 0, .int .i64 0, .int .i64 0, .int .i64 0, .string ⟨#[]⟩, .slice none 0 0, .int .i64 0] 28), (g5, Ob [.int .i64 0] 3), (g6, Ob [.int .i64 0] 31)]) rfl ⟨_, Le.refl _, H.pick [0, 1, 2, 3] (by decide)⟩ ?_ ?_
  · refine ⟨kn_op rfl rfl (wantB_none rfl) fun _ hF2 => ?_, ?_⟩
    · obtain ⟨_, hle2, H2⟩ := hF2
      refine  (ow_fieldAddr fd178_0 ty3 rfl rfl (r := 0) rfl ?_)
      exact ⟨rfl, rfl⟩
    refine ⟨kn_op rfl rfl (wantB_none rfl) fun _ hF2 => ?_, ?_⟩
    · obtain ⟨_, hle2, H2⟩ := hF2
      refine  (ow_load (v := .int .i64 a) ty3 H2 rfl 0 rfl rfl rfl rfl ?_)
      exact ⟨rfl, rfl⟩
    exact trivial
  refine cw_op rfl (wantB_none rfl) (ow_store ty3 H rfl (v := .int .i64 a) rfl [.int .i64 a] rfl rfl rfl 2 rfl rfl (fun _ H => ?_))
  refine af_none ?_
  refine cw_op rfl (wantB_none rfl) (ow_store ty31 H rfl (v := .int .i64 190) rfl [.int .i64 190] rfl rfl rfl 3 rfl rfl (fun _ H => ?_))
  refine af_none ?_
  refine cw_nil ?_
  exact st_end hb (hR _ _ _ _ (res_run (vs := []) Tryz.results129 rfl) ⟨_, rfl, rfl, H.drop 1⟩)
theorem read_c {B I L w} {l : List Tk} {v : Value} {e : Int} (H : Hp B I w L) (hl : RepS encTk I 4 l v) (hn : l.length < 200000) : Calls Tryz.prog 48 #[v, .int .i64 e] w (Rt fun r w' => ∃ I' us x a k, Le I I' ∧ Hp B I' w' L ∧ r = .tuple #[.agg us.toArray, .int .i64 a, .int .i64 k] ∧ readE l e = (x, a, k) ∧ RepL I' (encPo x) us) := by
  have hT := policyT_eq fuelN l
  obtain ⟨s0A, s0c, rfl, s0m, s0M, s0⟩ := RepS.open_ hl
  refine calls_st (n := 42) Tryz.func48 rfl rfl rfl ?_
  intro G bF cs hb hfn hR hP
  simp only [ini]
  refine st_seq ?_
  refine st_region ?_
  refine sr_op rfl rfl (ow_alloc ty28 H [.string ⟨#[]⟩, .slice none 0 0, .slice none 0 0, .slice none 0 0, .int .i64 0, .int .i64 0, .int .i64 0, .string ⟨#[]⟩, .slice none 0 0, .int .i64 0] rfl (fun g1 _ H => ?_))
  refine sr_op rfl rfl (ow_alloc ty3 H [.int .i64 0] rfl (fun g2 _ H => ?_))
  refine sr_op rfl rfl (ow_alloc ty31 H [.int .i64 0] rfl (fun g3 _ H => ?_))
  refine sr_nil ?_
  refine st_seq ?_
  refine st_region ?_
  refine sr_op rfl rfl (ow_makeFunc (fv := []) (cv := [.pointer (some ⟨g1, 0, none⟩), .pointer (some ⟨g2, 0, none⟩), .pointer (some ⟨g3, 0, none⟩)]) rfl rfl ?_)
  refine sr_defer hb (cap := [.pointer (some ⟨g1, 0, none⟩), .pointer (some ⟨g2, 0, none⟩), .pointer (some ⟨g3, 0, none⟩)]) rfl ?_
  refine sr_nil ?_
  refine st_seq ?_
  refine st_region ?_
  refine sr_op rfl rfl (ow_move (v := .slice s0A l.length s0c) rfl ?_)
  refine sr_op rfl rfl (ow_move (v := .int .i64 e) rfl ?_)
  refine sr_op rfl rfl (ow_build (ps := [(0, .slice s0A l.length s0c), (1, .int .i64 e)]) (v := .agg #[.slice s0A l.length s0c, .int .i64 e, .string ⟨#[]⟩, .slice none 0 0, .slice none 0 0, .slice none 0 0, .int .i64 0, .int .i64 0, .int .i64 0, .string ⟨#[]⟩, .slice none 0 0, .int .i64 0]) rfl (fun _ => by kernel_rfl) ?_)
  refine sr_op rfl rfl (ow_box H (v := .agg #[.slice s0A l.length s0c, .int .i64 e, .string ⟨#[]⟩, .slice none 0 0, .slice none 0 0, .slice none 0 0, .int .i64 0, .int .i64 0, .int .i64 0, .string ⟨#[]⟩, .slice none 0 0, .int .i64 0]) rfl [.slice s0A l.length s0c, .int .i64 e, .string ⟨#[]⟩, .slice none 0 0, .slice none 0 0, .slice none 0 0, .int .i64 0, .int .i64 0, .int .i64 0, .string ⟨#[]⟩, .slice none 0 0, .int .i64 0] rfl (fun gP _ H => ?_))
  refine sr_op rfl rfl (ow_assign (v := .pointer (some ⟨gP, 0, none⟩)) rfl ?_)
  refine sr_nil ?_
  refine st_seq ?_
  refine st_seq ?_
  refine st_region ?_
  refine sr_op rfl rfl (ow_move (v := .pointer (some ⟨gP, 0, none⟩)) rfl ?_)
  refine sr_op rfl rfl (ow_makeFunc (fv := [.pointer (some ⟨gP, 0, none⟩)]) (cv := []) rfl rfl ?_)
  refine sr_op rfl rfl (ow_move (v := .pointer (some ⟨gP, 0, none⟩)) rfl ?_)
  refine sr_op rfl rfl (ow_makeFunc (fv := [.pointer (some ⟨gP, 0, none⟩)]) (cv := []) rfl rfl ?_)
  refine sr_op rfl rfl (ow_move (v := .pointer (some ⟨gP, 0, none⟩)) rfl ?_)
  refine sr_op rfl rfl (ow_makeFunc (fv := [.pointer (some ⟨gP, 0, none⟩)]) (cv := []) rfl rfl ?_)
  refine sr_op rfl rfl (ow_buildSlice H (e := 1) (ps := [(0, .func (.func 130) #[.pointer (some ⟨gP, 0, none⟩)] #[]), (1, .func (.func 131) #[.pointer (some ⟨gP, 0, none⟩)] #[]), (2, .func (.func 132) #[.pointer (some ⟨gP, 0, none⟩)] #[])]) rfl [.func (.func 130) #[.pointer (some ⟨gP, 0, none⟩)] #[], .func (.func 131) #[.pointer (some ⟨gP, 0, none⟩)] #[], .func (.func 132) #[.pointer (some ⟨gP, 0, none⟩)] #[]] (fun _ => by kernel_rfl) (fun g4 _ H => ?_))
  refine sr_op rfl rfl (ow_lenS sl183 rfl rfl ?_)
  refine sr_op rfl rfl (ow_move (v := .int .i64 0) rfl ?_)
  refine sr_nil ?_
  refine st_block ?_
  refine st_loop ?_
  refine st_seq ?_
  refine st_region ?_
  refine sr_op rfl rfl (ow_lss rfl rfl ?_)
  refine sr_nil ?_
  refine st_seq ?_
  refine st_yes rfl ?_
  refine st_skip ?_
  refine st_seq ?_
  refine st_block ?_
  refine st_seq ?_
  refine st_region ?_
  refine sr_op rfl rfl (ow_indexAddr sl183 ty1 rfl rfl (by decide) (by decide) (r := 0) rfl ?_)
  refine sr_op rfl rfl (ow_load (v := .func (.func 130) #[.pointer (some ⟨gP, 0, none⟩)] #[]) ty1 H rfl 0 rfl rfl rfl rfl ?_)
  refine sr_op rfl rfl (ow_assign (v := .func (.func 130) #[.pointer (some ⟨gP, 0, none⟩)] #[]) rfl ?_)
  refine sr_nil ?_
  refine st_region ?_
  refine sr_op rfl rfl (ow_move (v := .func (.func 130) #[.pointer (some ⟨gP, 0, none⟩)] #[]) rfl ?_)
  have H : Hp B I _ (paB gP (.slice s0A l.length s0c) e (.string ⟨#[]⟩) (.slice none 0 0) (.slice none 0 0) (.slice none 0 0) (.int .i64 0) (.int .i64 0) (.int .i64 0) (.string ⟨#[]⟩) (.slice none 0 0) (.int .i64 0) :: (g4, Ob [.func (.func 130) #[.pointer (some ⟨gP, 0, none⟩)] #[], .func (.func 131) #[.pointer (some ⟨gP, 0, none⟩)] #[], .func (.func 132) #[.pointer (some ⟨gP, 0, none⟩)] #[]] 1) :: (g3, Ob [.int .i64 0] 31) :: (g2, Ob [.int .i64 0] 3) :: (g1, Ob [.string ⟨#[]⟩, .slice none 0 0, .slice none 0 0, .slice none 0 0, .int .i64 0, .int .i64 0, .int .i64 0, .string ⟨#[]⟩, .slice none 0 0, .int .i64 0] 28) :: L) := Hp.front 1 rfl H
  refine sr_op rfl rfl (ow_enter (run_callV en130 (first := [.pointer (some ⟨gP, 0, none⟩)]) (cap := []) rfl rfl) (head_c H s0) ?_ ?_ (fun _ h_ => h_))
  rotate_left
  · rintro ch_ w_ ⟨lb, csb, hk_, rfl, Hb⟩
    rw [hk_] at hT
    have hT : policyT fuelN l = .bad lb := hT
    have Hz := readSort (Hb.drop 2)
    refine pk_defer en129 (u' := .panicking [{ v := .iface 178 (.agg #[.int .i64 (placeT lb e)]), recovered := true }]) rfl (CallsD.mono' (read_pan (placeT lb e) Hz) ?_)
    rintro _ _ w8 ⟨v8, rfl, rfl, H⟩
    exact ⟨v8, rfl, rfl, hR _ _ (.tuple #[.agg #[.string ⟨#[]⟩, .slice none 0 0, .slice none 0 0, .slice none 0 0, .int .i64 0, .int .i64 0, .int .i64 0, .string ⟨#[]⟩, .slice none 0 0, .int .i64 0], .int .i64 (placeT lb e), .int .i64 190]) (res_run (vs := [.agg #[.string ⟨#[]⟩, .slice none 0 0, .slice none 0 0, .slice none 0 0, .int .i64 0, .int .i64 0, .int .i64 0, .string ⟨#[]⟩, .slice none 0 0, .int .i64 0], .int .i64 (placeT lb e), .int .i64 190]) Tryz.results48 ⟨_, _, rfl, resV_own (v := .agg #[.string ⟨#[]⟩, .slice none 0 0, .slice none 0 0, .slice none 0 0, .int .i64 0, .int .i64 0, .int .i64 0, .string ⟨#[]⟩, .slice none 0 0, .int .i64 0]) ty28 H rfl 0 rfl rfl rfl rfl, ⟨_, _, rfl, resV_own (v := .int .i64 (placeT lb e)) ty3 H rfl 1 rfl rfl rfl rfl, ⟨_, _, rfl, resV_own (v := .int .i64 190) ty31 H rfl 2 rfl rfl rfl rfl, rfl⟩⟩⟩) ⟨_, rfl, I, _, zeroP, (placeT lb e), 190, (Le.refl _), H.drop 3, rfl, by rw [readE, hT]; rfl, zeroP_rep _⟩⟩
  rintro _ _ ⟨I5, s5, m5, l5, v5, hI5, hk_, hs5, hm5, hl5, H⟩
  rw [hk_, go_ok_] at hT
  have hk5 := hk_
  have hz1 := gp_head.lok hk_
  refine sr_nil ?_
  refine st_inBlock ?_
  refine st_region ?_
  refine sr_op rfl rfl (ow_add (r := 1) rfl rfl (by decide) ?_)
  refine sr_op rfl rfl (ow_move (v := .int .i64 1) rfl ?_)
  refine sr_nil ?_
  refine st_inLoop ?_
  refine st_seq ?_
  refine st_region ?_
  refine sr_op rfl rfl (ow_lss rfl rfl ?_)
  refine sr_nil ?_
  refine st_seq ?_
  refine st_yes rfl ?_
  refine st_skip ?_
  refine st_seq ?_
  refine st_block ?_
  refine st_seq ?_
  refine st_region ?_
  refine sr_op rfl rfl (ow_indexAddr sl183 ty1 rfl rfl (by decide) (by decide) (r := 1) rfl ?_)
  refine sr_op rfl rfl (ow_load (v := .func (.func 131) #[.pointer (some ⟨gP, 0, none⟩)] #[]) ty1 H rfl 1 rfl rfl rfl rfl ?_)
  refine sr_op rfl rfl (ow_assign (v := .func (.func 131) #[.pointer (some ⟨gP, 0, none⟩)] #[]) rfl ?_)
  refine sr_nil ?_
  refine st_region ?_
  refine sr_op rfl rfl (ow_move (v := .func (.func 131) #[.pointer (some ⟨gP, 0, none⟩)] #[]) rfl ?_)
  refine sr_op rfl rfl (ow_enter (run_callV en131 (first := [.pointer (some ⟨gP, 0, none⟩)]) (cap := []) rfl rfl) (names_pc (f := fuelN) H hl5 (by unfold fuelN; omega) (by unfold fuelN; omega)) ?_ ?_ (fun _ h_ => h_))
  rotate_left
  · rintro ch_ w_ ⟨lb, csb, hk_, rfl, Hb⟩
    rw [hk_] at hT
    have hT : policyT fuelN l = .bad lb := hT
    have Hz := readSort (Hb.drop 2)
    refine pk_defer en129 (u' := .panicking [{ v := .iface 178 (.agg #[.int .i64 (placeT lb e)]), recovered := true }]) rfl (CallsD.mono' (read_pan (placeT lb e) Hz) ?_)
    rintro _ _ w8 ⟨v8, rfl, rfl, H⟩
    exact ⟨v8, rfl, rfl, hR _ _ (.tuple #[.agg #[.string ⟨#[]⟩, .slice none 0 0, .slice none 0 0, .slice none 0 0, .int .i64 0, .int .i64 0, .int .i64 0, .string ⟨#[]⟩, .slice none 0 0, .int .i64 0], .int .i64 (placeT lb e), .int .i64 190]) (res_run (vs := [.agg #[.string ⟨#[]⟩, .slice none 0 0, .slice none 0 0, .slice none 0 0, .int .i64 0, .int .i64 0, .int .i64 0, .string ⟨#[]⟩, .slice none 0 0, .int .i64 0], .int .i64 (placeT lb e), .int .i64 190]) Tryz.results48 ⟨_, _, rfl, resV_own (v := .agg #[.string ⟨#[]⟩, .slice none 0 0, .slice none 0 0, .slice none 0 0, .int .i64 0, .int .i64 0, .int .i64 0, .string ⟨#[]⟩, .slice none 0 0, .int .i64 0]) ty28 H rfl 0 rfl rfl rfl rfl, ⟨_, _, rfl, resV_own (v := .int .i64 (placeT lb e)) ty3 H rfl 1 rfl rfl rfl rfl, ⟨_, _, rfl, resV_own (v := .int .i64 190) ty31 H rfl 2 rfl rfl rfl rfl, rfl⟩⟩⟩) ⟨_, rfl, I5, _, zeroP, (placeT lb e), 190, hI5, H.drop 3, rfl, by rw [readE, hT]; rfl, zeroP_rep _⟩⟩
  rintro _ _ ⟨I6, o6, k6, l6, v6, vo6, vk6, hI6, hk_, ho6, hk26, hl6, H⟩
  rw [hk_, go_ok_] at hT
  have hk6 := hk_
  have hz2 := (gp_names fuelN).lok hk_
  obtain ⟨sk6A, sk6c, rfl, sk6m, sk6M, sk6⟩ := RepS.open_ hk26
  obtain ⟨so6A, so6c, rfl, so6m, so6M, so6⟩ := RepS.open_ ho6
  refine sr_nil ?_
  refine st_inBlock ?_
  refine st_region ?_
  refine sr_op rfl rfl (ow_add (r := 2) rfl rfl (by decide) ?_)
  refine sr_op rfl rfl (ow_move (v := .int .i64 2) rfl ?_)
  refine sr_nil ?_
  refine st_inLoop ?_
  refine st_seq ?_
  refine st_region ?_
  refine sr_op rfl rfl (ow_lss rfl rfl ?_)
  refine sr_nil ?_
  refine st_seq ?_
  refine st_yes rfl ?_
  refine st_skip ?_
  refine st_seq ?_
  refine st_block ?_
  refine st_seq ?_
  refine st_region ?_
  refine sr_op rfl rfl (ow_indexAddr sl183 ty1 rfl rfl (by decide) (by decide) (r := 2) rfl ?_)
  refine sr_op rfl rfl (ow_load (v := .func (.func 132) #[.pointer (some ⟨gP, 0, none⟩)] #[]) ty1 H rfl 1 rfl rfl rfl rfl ?_)
  refine sr_op rfl rfl (ow_assign (v := .func (.func 132) #[.pointer (some ⟨gP, 0, none⟩)] #[]) rfl ?_)
  refine sr_nil ?_
  refine st_region ?_
  refine sr_op rfl rfl (ow_move (v := .func (.func 132) #[.pointer (some ⟨gP, 0, none⟩)] #[]) rfl ?_)
  refine sr_op rfl rfl (ow_enter (run_callV en132 (first := [.pointer (some ⟨gP, 0, none⟩)]) (cap := []) rfl rfl) (rules_c (f := fuelN) H hl6 (by unfold fuelN; omega) (by unfold fuelN; omega)) ?_ ?_ (fun _ h_ => h_))
  rotate_left
  · rintro ch_ w_ ⟨lb, csb, hk_, rfl, Hb⟩
    rw [hk_] at hT
    have hT : policyT fuelN l = .bad lb := hT
    have Hz := readSort (Hb.drop 2)
    refine pk_defer en129 (u' := .panicking [{ v := .iface 178 (.agg #[.int .i64 (placeT lb e)]), recovered := true }]) rfl (CallsD.mono' (read_pan (placeT lb e) Hz) ?_)
    rintro _ _ w8 ⟨v8, rfl, rfl, H⟩
    exact ⟨v8, rfl, rfl, hR _ _ (.tuple #[.agg #[.string ⟨#[]⟩, .slice none 0 0, .slice none 0 0, .slice none 0 0, .int .i64 0, .int .i64 0, .int .i64 0, .string ⟨#[]⟩, .slice none 0 0, .int .i64 0], .int .i64 (placeT lb e), .int .i64 190]) (res_run (vs := [.agg #[.string ⟨#[]⟩, .slice none 0 0, .slice none 0 0, .slice none 0 0, .int .i64 0, .int .i64 0, .int .i64 0, .string ⟨#[]⟩, .slice none 0 0, .int .i64 0], .int .i64 (placeT lb e), .int .i64 190]) Tryz.results48 ⟨_, _, rfl, resV_own (v := .agg #[.string ⟨#[]⟩, .slice none 0 0, .slice none 0 0, .slice none 0 0, .int .i64 0, .int .i64 0, .int .i64 0, .string ⟨#[]⟩, .slice none 0 0, .int .i64 0]) ty28 H rfl 0 rfl rfl rfl rfl, ⟨_, _, rfl, resV_own (v := .int .i64 (placeT lb e)) ty3 H rfl 1 rfl rfl rfl rfl, ⟨_, _, rfl, resV_own (v := .int .i64 190) ty31 H rfl 2 rfl rfl rfl rfl, rfl⟩⟩⟩) ⟨_, rfl, I6, _, zeroP, (placeT lb e), 190, (hI5.trans hI6), H.drop 3, rfl, by rw [readE, hT]; rfl, zeroP_rep _⟩⟩
  rintro _ _ ⟨I7, rs7, c7, l7, v7, vr7, c07, c17, c27, c37, c47, hI7, hk_, hr7, hc7, hl7, H⟩
  rw [hk_, go_ok_] at hT
  have hk7 := hk_
  have hz3 := (gp_rules fuelN).lok hk_
  obtain ⟨sr7A, sr7c, rfl, sr7m, sr7M, sr7⟩ := RepS.open_ hr7
  obtain ⟨vcl7, hceq, _, _, _, _, hcl7⟩ := ex_iff.1 hc7
  cases hceq
  obtain ⟨sc7A, sc7c, rfl, sc7m, sc7M, sc7⟩ := RepS.open_ hcl7
  refine sr_nil ?_
  refine st_inBlock ?_
  refine st_region ?_
  refine sr_op rfl rfl (ow_add (r := 3) rfl rfl (by decide) ?_)
  refine sr_op rfl rfl (ow_move (v := .int .i64 3) rfl ?_)
  refine sr_nil ?_
  refine st_inLoop ?_
  refine st_seq ?_
  refine st_region ?_
  refine sr_op rfl rfl (ow_lss rfl rfl ?_)
  refine sr_nil ?_
  refine st_seq ?_
  refine st_no rfl ?_
  refine st_exit rfl ?_
  refine st_seq ?_
  refine st_seq ?_
  refine st_region ?_
  refine sr_op rfl rfl (ow_move (v := .pointer (some ⟨gP, 0, none⟩)) rfl ?_)
  refine sr_op rfl rfl (ow_nilCheck rfl ?_)
  refine sr_op rfl rfl (ow_fieldAddr fd182_0 ty67 rfl rfl (r := 0) rfl ?_)
  obtain ⟨s8A, s8c, rfl, s8m, s8M, s8⟩ := RepS.open_ hl7
  refine sr_op rfl rfl (ow_load (v := .slice s8A l7.length s8c) ty67 H rfl 0 rfl rfl rfl rfl ?_)
  refine sr_op rfl rfl (ow_lenS sl67 rfl rfl ?_)
  refine sr_op rfl rfl (ow_gtr rfl rfl ?_)
  refine sr_nil ?_
  refine st_cond (decide (0 < (l7.length : Int))) rfl (fun hc9 => ?_) (fun hc9 => ?_)
  · have hc9 := of_decide_eq_true hc9
    have hne : l7 ≠ [] := fun h_ => by rw [h_] at hc9; simp at hc9
    refine st_region ?_
    refine sr_op rfl rfl (ow_move (v := .pointer (some ⟨gP, 0, none⟩)) rfl ?_)
    refine sr_op rfl rfl (ow_callp en133 rfl (fail_c H s8) (fun _ _ h_ => h_.elim) ?_)
    have hT : policyT fuelN l = .bad l7 := by
      rw [hT, endT, if_neg hne]
      rfl
    rintro ch_ w_ ⟨rfl, Hb⟩
    have Hz := readSort (Hb.drop 2)
    refine pk_defer en129 (u' := .panicking [{ v := .iface 178 (.agg #[.int .i64 (placeT l7 e)]), recovered := true }]) rfl (CallsD.mono' (read_pan (placeT l7 e) Hz) ?_)
    rintro _ _ w8 ⟨v8, rfl, rfl, H⟩
    exact ⟨v8, rfl, rfl, hR _ _ (.tuple #[.agg #[.string ⟨#[]⟩, .slice none 0 0, .slice none 0 0, .slice none 0 0, .int .i64 0, .int .i64 0, .int .i64 0, .string ⟨#[]⟩, .slice none 0 0, .int .i64 0], .int .i64 (placeT l7 e), .int .i64 190]) (res_run (vs := [.agg #[.string ⟨#[]⟩, .slice none 0 0, .slice none 0 0, .slice none 0 0, .int .i64 0, .int .i64 0, .int .i64 0, .string ⟨#[]⟩, .slice none 0 0, .int .i64 0], .int .i64 (placeT l7 e), .int .i64 190]) Tryz.results48 ⟨_, _, rfl, resV_own (v := .agg #[.string ⟨#[]⟩, .slice none 0 0, .slice none 0 0, .slice none 0 0, .int .i64 0, .int .i64 0, .int .i64 0, .string ⟨#[]⟩, .slice none 0 0, .int .i64 0]) ty28 H rfl 0 rfl rfl rfl rfl, ⟨_, _, rfl, resV_own (v := .int .i64 (placeT l7 e)) ty3 H rfl 1 rfl rfl rfl rfl, ⟨_, _, rfl, resV_own (v := .int .i64 190) ty31 H rfl 2 rfl rfl rfl rfl, rfl⟩⟩⟩) ⟨_, rfl, I7, _, zeroP, (placeT l7 e), 190, ((hI5.trans hI6).trans hI7), H.drop 3, rfl, by rw [readE, hT]; rfl, zeroP_rep _⟩⟩
  · have hc9 := of_decide_eq_false hc9
    have he_ : l7 = [] := List.eq_nil_of_length_eq_zero (by omega)
    refine st_skip ?_
    refine st_seq ?_
    refine st_region ?_
    refine sr_op rfl rfl (ow_move (v := .pointer (some ⟨gP, 0, none⟩)) rfl ?_)
    refine sr_op rfl rfl (ow_nilCheck rfl ?_)
    refine sr_op rfl rfl (ow_fieldAddr fd182_2 ty28 rfl rfl (r := 2) rfl ?_)
    refine sr_op rfl rfl (ow_load (v := .agg #[.string s5, .slice sk6A k6.length sk6c, .slice so6A o6.length so6c, .slice sr7A rs7.length sr7c, .int .i64 c7.kind, .int .i64 c7.n, .int .i64 c7.no, .string c7.name, .slice sc7A c7.l.length sc7c, .int .i64 m5]) ty28 H rfl 0 rfl rfl rfl rfl ?_)
    refine sr_op rfl rfl (ow_store ty28 H rfl (v := .agg #[.string s5, .slice sk6A k6.length sk6c, .slice so6A o6.length so6c, .slice sr7A rs7.length sr7c, .int .i64 c7.kind, .int .i64 c7.n, .int .i64 c7.no, .string c7.name, .slice sc7A c7.l.length sc7c, .int .i64 m5]) rfl [.string s5, .slice sk6A k6.length sk6c, .slice so6A o6.length so6c, .slice sr7A rs7.length sr7c, .int .i64 c7.kind, .int .i64 c7.n, .int .i64 c7.no, .string c7.name, .slice sc7A c7.l.length sc7c, .int .i64 m5] rfl rfl rfl 4 rfl rfl (fun _ H => ?_))
    refine sr_op rfl rfl (ow_store ty3 H rfl (v := .int .i64 0) rfl [.int .i64 0] rfl rfl rfl 3 rfl rfl (fun _ H => ?_))
    refine sr_op rfl rfl (ow_store ty31 H rfl (v := .int .i64 0) rfl [.int .i64 0] rfl rfl rfl 2 rfl rfl (fun _ H => ?_))
    refine sr_nil ?_
    have hT : policyT fuelN l = .ok ⟨s5, k6, o6, rs7, c7, m5⟩ [] := by
      rw [hT, he_]
      rfl
    have Hz := readSort (H.drop 2)
    have hk26 := (hk26.mono hI7)
    have ho6 := (ho6.mono hI7)
    refine st_ret hb (rn_defer en129 (CallsD.mono' (read_ret Hz) ?_))
    rintro _ _ w8 ⟨v8, rfl, rfl, H⟩
    exact ⟨v8, rfl, rfl, hR _ _ (.tuple #[.agg #[.string s5, .slice sk6A k6.length sk6c, .slice so6A o6.length so6c, .slice sr7A rs7.length sr7c, .int .i64 c7.kind, .int .i64 c7.n, .int .i64 c7.no, .string c7.name, .slice sc7A c7.l.length sc7c, .int .i64 m5], .int .i64 0, .int .i64 0]) (res_run (vs := [.agg #[.string s5, .slice sk6A k6.length sk6c, .slice so6A o6.length so6c, .slice sr7A rs7.length sr7c, .int .i64 c7.kind, .int .i64 c7.n, .int .i64 c7.no, .string c7.name, .slice sc7A c7.l.length sc7c, .int .i64 m5], .int .i64 0, .int .i64 0]) Tryz.results48 ⟨_, _, rfl, resV_own (v := .agg #[.string s5, .slice sk6A k6.length sk6c, .slice so6A o6.length so6c, .slice sr7A rs7.length sr7c, .int .i64 c7.kind, .int .i64 c7.n, .int .i64 c7.no, .string c7.name, .slice sc7A c7.l.length sc7c, .int .i64 m5]) ty28 H rfl 0 rfl rfl rfl rfl, ⟨_, _, rfl, resV_own (v := .int .i64 0) ty3 H rfl 1 rfl rfl rfl rfl, ⟨_, _, rfl, resV_own (v := .int .i64 0) ty31 H rfl 2 rfl rfl rfl rfl, rfl⟩⟩⟩) ⟨_, rfl, I7, _, _, 0, 0, ((hI5.trans hI6).trans hI7), H.drop 3, rfl, by rw [readE, hT]; rfl, po_of hs5 hk26 ho6 hr7 hc7 hm5⟩⟩
theorem Parse_c {B I L w} (H : Hp B I w L) (src : ByteArray) (hS : S63 src) (hlib : LibAt I) : Calls Tryz.prog 18 #[.string src] w (Rt fun r w' => ∃ I' us x a k, Le I I' ∧ Hp B I' w' L ∧ r = .tuple #[.agg us.toArray, .int .i64 a, .int .i64 k] ∧ parseE src = (x, a, k) ∧ RepL I' (encPo x) us) := by
  refine calls_st (n := 24) Tryz.func18 rfl rfl rfl ?_
  intro G bF cs hb hfn hR hP
  simp only [ini]
  refine st_seq ?_
  refine st_region ?_
  refine sr_op rfl rfl (ow_alloc ty28 H [.string ⟨#[]⟩, .slice none 0 0, .slice none 0 0, .slice none 0 0, .int .i64 0, .int .i64 0, .int .i64 0, .string ⟨#[]⟩, .slice none 0 0, .int .i64 0] rfl (fun g1 _ H => ?_))
  refine sr_op rfl rfl (ow_assign (v := .int .i64 0) rfl ?_)
  refine sr_op rfl rfl (ow_assign (v := .int .i64 0) rfl ?_)
  refine sr_nil ?_
  refine st_seq ?_
  refine st_region ?_
  refine sr_op rfl rfl (ow_move (v := .string src) rfl ?_)
  refine sr_op rfl rfl (ow_call en35 rfl (Lex_c H src hS hlib) ?_)
  rintro _ _ ⟨I2, v2, hI2, H, rfl, hl2⟩
  obtain ⟨s2A, s2c, rfl, s2m, s2M, s2⟩ := RepS.open_ hl2
  refine sr_op rfl rfl (ow_move (v := .tuple #[.slice s2A (((lexE src).1).length) s2c, .int .i64 ((lexE src).2.1), .int .i64 ((lexE src).2.2)]) rfl ?_)
  refine sr_op rfl rfl (ow_extract (v := .slice s2A (((lexE src).1).length) s2c) rfl rfl ?_)
  refine sr_op rfl rfl (ow_extract (v := .int .i64 ((lexE src).2.1)) rfl rfl ?_)
  refine sr_op rfl rfl (ow_extract (v := .int .i64 ((lexE src).2.2)) rfl rfl ?_)
  refine sr_op rfl rfl (ow_assign (v := .slice s2A (((lexE src).1).length) s2c) rfl ?_)
  refine sr_op rfl rfl (ow_assign (v := .int .i64 ((lexE src).2.1)) rfl ?_)
  refine sr_op rfl rfl (ow_assign (v := .int .i64 ((lexE src).2.2)) rfl ?_)
  refine sr_nil ?_
  refine st_seq ?_
  refine st_seq ?_
  refine st_region ?_
  refine sr_op rfl rfl (ow_move (v := .int .i64 ((lexE src).2.2)) rfl ?_)
  refine sr_op rfl rfl (ow_neq rfl rfl ?_)
  refine sr_nil ?_
  refine st_cond (!decide (((lexE src).2.2) = 0)) rfl (fun hc3 => ?_) (fun hc3 => ?_)
  · have hbad := of_decide_eq_false (bnt hc3)
    refine st_seq ?_
    refine st_region ?_
    refine sr_op rfl rfl (ow_build (ps := []) (v := .agg #[.string ⟨#[]⟩, .slice none 0 0, .slice none 0 0, .slice none 0 0, .int .i64 0, .int .i64 0, .int .i64 0, .string ⟨#[]⟩, .slice none 0 0, .int .i64 0]) rfl (fun _ => by kernel_rfl) ?_)
    refine sr_op rfl rfl (ow_move (v := .int .i64 ((lexE src).2.1)) rfl ?_)
    refine sr_op rfl rfl (ow_move (v := .int .i64 ((lexE src).2.2)) rfl ?_)
    refine sr_op rfl rfl (ow_store ty28 H rfl (v := .agg #[.string ⟨#[]⟩, .slice none 0 0, .slice none 0 0, .slice none 0 0, .int .i64 0, .int .i64 0, .int .i64 0, .string ⟨#[]⟩, .slice none 0 0, .int .i64 0]) rfl [.string ⟨#[]⟩, .slice none 0 0, .slice none 0 0, .slice none 0 0, .int .i64 0, .int .i64 0, .int .i64 0, .string ⟨#[]⟩, .slice none 0 0, .int .i64 0] rfl rfl rfl 0 rfl rfl (fun _ H => ?_))
    refine sr_op rfl rfl (ow_assign (v := .int .i64 ((lexE src).2.1)) rfl ?_)
    refine sr_op rfl rfl (ow_assign (v := .int .i64 ((lexE src).2.2)) rfl ?_)
    refine sr_nil ?_
    refine st_ret hb (hR _ _ (.tuple #[.agg #[.string ⟨#[]⟩, .slice none 0 0, .slice none 0 0, .slice none 0 0, .int .i64 0, .int .i64 0, .int .i64 0, .string ⟨#[]⟩, .slice none 0 0, .int .i64 0], .int .i64 ((lexE src).2.1), .int .i64 ((lexE src).2.2)]) (res_run (vs := [.agg #[.string ⟨#[]⟩, .slice none 0 0, .slice none 0 0, .slice none 0 0, .int .i64 0, .int .i64 0, .int .i64 0, .string ⟨#[]⟩, .slice none 0 0, .int .i64 0], .int .i64 ((lexE src).2.1), .int .i64 ((lexE src).2.2)]) Tryz.results18 ⟨_, _, rfl, resV_own (v := .agg #[.string ⟨#[]⟩, .slice none 0 0, .slice none 0 0, .slice none 0 0, .int .i64 0, .int .i64 0, .int .i64 0, .string ⟨#[]⟩, .slice none 0 0, .int .i64 0]) ty28 H rfl 0 rfl rfl rfl rfl, ⟨_, _, rfl, rfl, ⟨_, _, rfl, rfl, rfl⟩⟩⟩) ?_)
    exact ⟨_, rfl, I2, _, zeroP, (lexE src).2.1, (lexE src).2.2, hI2, H.drop 1, rfl, by rw [parseE, if_neg hbad], zeroP_rep _⟩
  · have hgood := of_decide_eq_true (bnf hc3)
    have hlg := lex_good hgood
    refine st_skip ?_
    refine st_seq ?_
    refine st_region ?_
    refine sr_op rfl rfl (ow_move (v := .slice s2A (((lexE src).1).length) s2c) rfl ?_)
    refine sr_op rfl rfl (ow_move (v := .string src) rfl ?_)
    refine sr_op rfl rfl (ow_lenT un9 rfl rfl ?_)
    refine sr_op rfl rfl (ow_call en48 rfl (read_c H s2 (by omega)) ?_)
    rintro _ _ ⟨Ir, usr, xr, ar, kr, hIr, H, rfl, hkr, hxr⟩
    have dr := hxr
    obtain ⟨drv1, drv2, drv3, drv8, rfl, dr_0, dr_1, dr_2, dr_3, dr_4, dr_5, dr_6, dr_7, dr_8, dr_9⟩ := po_iff.1 hxr
    obtain ⟨drA1, drc1, rfl, drm1, drM1, dr_1⟩ := RepS.open_ dr_1
    obtain ⟨drA2, drc2, rfl, drm2, drM2, dr_2⟩ := RepS.open_ dr_2
    obtain ⟨drA3, drc3, rfl, drm3, drM3, dr_3⟩ := RepS.open_ dr_3
    obtain ⟨drA8, drc8, rfl, drm8, drM8, dr_8⟩ := RepS.open_ dr_8
    refine sr_op rfl rfl (ow_extract (v := .agg #[.string xr.name, .slice drA1 xr.kinds.length drc1, .slice drA2 xr.offices.length drc2, .slice drA3 xr.rules.length drc3, .int .i64 xr.change.kind, .int .i64 xr.change.n, .int .i64 xr.change.no, .string xr.change.name, .slice drA8 xr.change.l.length drc8, .int .i64 xr.mode]) rfl rfl ?_)
    refine sr_op rfl rfl (ow_extract (v := .int .i64 ar) rfl rfl ?_)
    refine sr_op rfl rfl (ow_extract (v := .int .i64 kr) rfl rfl ?_)
    refine sr_op rfl rfl (ow_store ty28 H rfl (v := .agg #[.string xr.name, .slice drA1 xr.kinds.length drc1, .slice drA2 xr.offices.length drc2, .slice drA3 xr.rules.length drc3, .int .i64 xr.change.kind, .int .i64 xr.change.n, .int .i64 xr.change.no, .string xr.change.name, .slice drA8 xr.change.l.length drc8, .int .i64 xr.mode]) rfl [.string xr.name, .slice drA1 xr.kinds.length drc1, .slice drA2 xr.offices.length drc2, .slice drA3 xr.rules.length drc3, .int .i64 xr.change.kind, .int .i64 xr.change.n, .int .i64 xr.change.no, .string xr.change.name, .slice drA8 xr.change.l.length drc8, .int .i64 xr.mode] rfl rfl rfl 0 rfl rfl (fun _ H => ?_))
    refine sr_op rfl rfl (ow_assign (v := .int .i64 ar) rfl ?_)
    refine sr_op rfl rfl (ow_assign (v := .int .i64 kr) rfl ?_)
    refine sr_nil ?_
    refine st_ret hb (hR _ _ (.tuple #[.agg #[.string xr.name, .slice drA1 xr.kinds.length drc1, .slice drA2 xr.offices.length drc2, .slice drA3 xr.rules.length drc3, .int .i64 xr.change.kind, .int .i64 xr.change.n, .int .i64 xr.change.no, .string xr.change.name, .slice drA8 xr.change.l.length drc8, .int .i64 xr.mode], .int .i64 ar, .int .i64 kr]) (res_run (vs := [.agg #[.string xr.name, .slice drA1 xr.kinds.length drc1, .slice drA2 xr.offices.length drc2, .slice drA3 xr.rules.length drc3, .int .i64 xr.change.kind, .int .i64 xr.change.n, .int .i64 xr.change.no, .string xr.change.name, .slice drA8 xr.change.l.length drc8, .int .i64 xr.mode], .int .i64 ar, .int .i64 kr]) Tryz.results18 ⟨_, _, rfl, resV_own (v := .agg #[.string xr.name, .slice drA1 xr.kinds.length drc1, .slice drA2 xr.offices.length drc2, .slice drA3 xr.rules.length drc3, .int .i64 xr.change.kind, .int .i64 xr.change.n, .int .i64 xr.change.no, .string xr.change.name, .slice drA8 xr.change.l.length drc8, .int .i64 xr.mode]) ty28 H rfl 0 rfl rfl rfl rfl, ⟨_, _, rfl, rfl, ⟨_, _, rfl, rfl, rfl⟩⟩⟩) ?_)
    exact ⟨_, rfl, Ir, _, xr, ar, kr, (hI2.trans hIr), H.drop 1, rfl, by rw [parseE, if_pos hgood, hkr], dr⟩
end Go.Proofs.YtghmjnbpkobooaaGreatDoor
