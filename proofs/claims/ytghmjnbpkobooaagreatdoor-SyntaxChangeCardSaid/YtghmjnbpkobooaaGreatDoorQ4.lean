/-
  Walks: Lex.
-/
import Derived.Test.YtghmjnbpkobooaaGreatDoorL3
set_option linter.unusedVariables false
set_option linter.unusedSimpArgs false
set_option maxRecDepth 10000
set_option maxHeartbeats 4000000
namespace Go.Proofs.YtghmjnbpkobooaaGreatDoor
open Go Go.RowKit

theorem lexSort {B : World} {I : Im} {w : World} {L : List (Nat × Obj)} {p5 p4 p3 p2 : Nat × Obj} (h : Hp B I w (p5 :: p4 :: p3 :: p2 :: L)) : Hp B I w (p2 :: p3 :: p4 :: p5 :: L) :=
  h.perm ((List.reverse_perm [p5, p4, p3, p2]).append_right L)
theorem lexSort2 {B : World} {I : Im} {w : World} {L : List (Nat × Obj)} {pS p5 p4 p3 p2 : Nat × Obj} (h : Hp B I w (pS :: p5 :: p4 :: p3 :: p2 :: L)) : Hp B I w (p2 :: p3 :: p4 :: pS :: p5 :: L) :=
  h.perm ((((List.perm_append_comm (l₁ := [p2, p3, p4]) (l₂ := [pS, p5])).trans ((List.reverse_perm [p4, p3, p2]).append_left [pS, p5]))).append_right L)
theorem step2y {src : ByteArray} {a : Nat} (h : byteC src a = 2) (hn : nameB (wordS src a [2, 3, 5]) = true) : stepO src a = some ([mkTk 1 (wordS src a [2, 3, 5]) 0 (a : Int)], a + spanS src a [2, 3, 5]) := by rw [step2 h, if_pos hn]
theorem step3y {src : ByteArray} {a : Nat} {v : Int} (h : byteC src a = 3) (hn : numO (wordS src a [3]) = some v) : stepO src a = some ([mkTk 2 ⟨#[]⟩ v (a : Int)], a + spanS src a [3]) := by rw [step3 h, hn]
theorem lex_ret {B I L w} {g2 g3 g4 : Nat} {A : Option Addr} {n c : Nat} {x e : Int} (H : Hp B I w ((g2, Ob [.slice A n c] 67) :: (g3, Ob [.int .i64 x] 3) :: (g4, Ob [.int .i64 e] 31) :: L)) : CallsD Tryz.prog 93 #[.pointer (some ⟨g2, 0, none⟩), .pointer (some ⟨g3, 0, none⟩), .pointer (some ⟨g4, 0, none⟩)] .returning w (fun q u w' => ∃ v, q = .returned v ∧ u = .returning ∧ Hp B I w' ((g2, Ob [.slice A n c] 67) :: (g3, Ob [.int .i64 x] 3) :: (g4, Ob [.int .i64 e] 31) :: L)) := by
  refine callsD_st (n := 9) Tryz.func93 rfl rfl rfl ?_
  intro G bF c0 cs hb hk hR
  simp only [ini]
  refine st_seq ?_
  refine st_region ?_
  refine sr_recover_none hb hk ?_
  refine sr_op rfl rfl (ow_assign (v := .nilIface) rfl ?_)
  refine sr_nil ?_
  refine st_seq ?_
  refine st_region ?_
  refine sr_op rfl rfl (ow_move (v := .nilIface) rfl ?_)
  refine sr_op rfl rfl (ow_neqNil0 Tryz.underlying20 rfl ?_)
  refine sr_nil ?_
  refine st_no rfl ?_
  refine st_skip ?_
  exact st_end hb (hR _ _ _ _ (res_run (vs := []) Tryz.results93 rfl) ⟨_, rfl, rfl, H⟩)
theorem lex_pan {B I L w} {g2 g3 g4 : Nat} (a : Nat) (H : Hp B I w ((g2, Ob [.slice none 0 0] 67) :: (g3, Ob [.int .i64 0] 3) :: (g4, Ob [.int .i64 0] 31) :: L)) : CallsD Tryz.prog 93 #[.pointer (some ⟨g2, 0, none⟩), .pointer (some ⟨g3, 0, none⟩), .pointer (some ⟨g4, 0, none⟩)] (.panicking (placeV a)) w (fun q u w' => ∃ v, q = .returned v ∧ u = .panicking [{ v := .iface 145 (.int .i64 (a : Int)), recovered := true }] ∧ Hp B I w' ((g2, Ob [.slice none 0 0] 67) :: (g3, Ob [.int .i64 (a : Int)] 3) :: (g4, Ob [.int .i64 30] 31) :: L)) := by
  unfold placeV
  refine callsD_st (n := 9) Tryz.func93 rfl rfl rfl ?_
  intro G bF c0 cs hb hk hR
  simp only [ini]
  refine st_seq ?_
  refine st_region ?_
  refine sr_recover hb hk ?_
  refine sr_op rfl rfl (ow_assign (v := .iface 145 (.int .i64 (a : Int))) rfl ?_)
  refine sr_nil ?_
  refine st_seq ?_
  refine st_region ?_
  refine sr_op rfl rfl (ow_move (v := .iface 145 (.int .i64 (a : Int))) rfl ?_)
  refine sr_op rfl rfl (ow_neqNil1 Tryz.underlying20 rfl ?_)
  refine sr_nil ?_
  refine st_yes rfl ?_
  refine st_draw (F := (fun w_ => ∃ I2, Le I I2 ∧ Hp B I2 w_ [(g2, Ob [.slice none 0 0] 67), (g3, Ob [.int .i64 0] 3), (g4, Ob [.int .i64 0] 31)])) (p0 := [0, 1]) (plan := [(2, [], [0, 1]), (3, [], []), (4, [], [])]) [0, 1, 2, 3, 4] [0, 1, 2, 3, 4] [(8, .int .i64 (a : Int)), (7, .iface 145 (.int .i64 (a : Int)))] (by kernel_rfl) rfl ?_ ⟨_, Le.refl _, H.drew.pick [0, 1, 2] (by decide)⟩ ?_
  · refine ⟨kn_op rfl rfl (wantB_none rfl) fun _ hF2 => ?_, ?_⟩
    · obtain ⟨_, hle2, H2⟩ := hF2
      refine  (ow_move (v := .iface 145 (.int .i64 (a : Int))) rfl ?_)
      exact ⟨rfl, rfl⟩
    refine ⟨kn_op rfl rfl (wantB_none rfl) fun _ hF2 => ?_, ?_⟩
    · obtain ⟨_, hle2, H2⟩ := hF2
      refine  (ow_assert1 Tryz.underlying145 rfl rfl ?_)
      exact ⟨rfl, rfl⟩
    exact trivial
  have H := H.drew
  refine cw_op rfl (wantB_none rfl) (ow_store ty67 H rfl (v := .slice none 0 0) rfl [.slice none 0 0] rfl rfl rfl 0 rfl rfl (fun _ H => ?_))
  refine af_some [] (fun w_ => ∃ I2, Le I I2 ∧ Hp B I2 w_ [(g2, Ob [.slice none 0 0] 67), (g3, Ob [.int .i64 0] 3), (g4, Ob [.int .i64 0] 31)]) rfl ⟨_, Le.refl _, H.pick [0, 1, 2] (by decide)⟩ ?_ ?_
  · refine ⟨kn_op rfl rfl (wantB_none rfl) fun _ hF2 => ?_, ?_⟩
    · obtain ⟨_, hle2, H2⟩ := hF2
      refine  (ow_move (v := .iface 145 (.int .i64 (a : Int))) rfl ?_)
      exact ⟨rfl, rfl⟩
    refine ⟨kn_op rfl rfl (wantB_none rfl) fun _ hF2 => ?_, ?_⟩
    · obtain ⟨_, hle2, H2⟩ := hF2
      refine  (ow_assert1 Tryz.underlying145 rfl rfl ?_)
      exact ⟨rfl, rfl⟩
    exact trivial
  refine cw_op rfl (wantB_none rfl) (ow_store ty3 H rfl (v := .int .i64 (a : Int)) rfl [.int .i64 (a : Int)] rfl rfl rfl 1 rfl rfl (fun _ H => ?_))
  refine af_none ?_
  refine cw_op rfl (wantB_none rfl) (ow_store ty31 H rfl (v := .int .i64 30) rfl [.int .i64 30] rfl rfl rfl 2 rfl rfl (fun _ H => ?_))
  refine af_none ?_
  refine cw_nil ?_
  exact st_end hb (hR _ _ _ _ (res_run (vs := []) Tryz.results93 rfl) ⟨_, rfl, rfl, H⟩)
theorem Lex_c {B I L w} (H : Hp B I w L) (src : ByteArray) (hS : S63 src) (hlib : LibAt I) : Calls Tryz.prog 35 #[.string src] w (Rt fun r w' => ∃ I' v, Le I I' ∧ Hp B I' w' L ∧ r = .tuple #[v, .int .i64 (lexE src).2.1, .int .i64 (lexE src).2.2] ∧ RepS encTk I' 4 (lexE src).1 v) := by
  refine calls_st (n := 39) Tryz.func35 rfl rfl rfl ?_
  intro G bF cs hb hfn hR hP
  simp only [ini]
  refine st_seq ?_
  refine st_region ?_
  refine sr_op rfl rfl (ow_alloc ty67 H [.slice none 0 0] rfl (fun g1 _ H => ?_))
  refine sr_op rfl rfl (ow_alloc ty3 H [.int .i64 0] rfl (fun g2 _ H => ?_))
  refine sr_op rfl rfl (ow_alloc ty31 H [.int .i64 0] rfl (fun g3 _ H => ?_))
  refine sr_nil ?_
  refine st_seq ?_
  refine st_seq ?_
  refine st_region ?_
  refine sr_op rfl rfl (ow_move (v := .string src) rfl ?_)
  refine sr_op rfl rfl (ow_lenT un9 rfl rfl ?_)
  refine sr_op rfl rfl (ow_gtr rfl rfl ?_)
  refine sr_nil ?_
  refine st_cond (decide (65536 < (src.size : Int))) rfl (fun hc4 => ?_) (fun hc4 => ?_)
  · have hbig := of_decide_eq_true hc4
    refine st_seq ?_
    refine st_region ?_
    refine sr_op rfl rfl (ow_store ty67 H rfl (v := .slice none 0 0) rfl [.slice none 0 0] rfl rfl rfl 2 rfl rfl (fun _ H => ?_))
    refine sr_op rfl rfl (ow_store ty3 H rfl (v := .int .i64 0) rfl [.int .i64 0] rfl rfl rfl 1 rfl rfl (fun _ H => ?_))
    refine sr_op rfl rfl (ow_store ty31 H rfl (v := .int .i64 2) rfl [.int .i64 2] rfl rfl rfl 0 rfl rfl (fun _ H => ?_))
    refine sr_nil ?_
    exact st_ret hb (hR _ _ (.tuple #[.slice none 0 0, .int .i64 0, .int .i64 2]) (res_run (vs := [.slice none 0 0, .int .i64 0, .int .i64 2]) Tryz.results35 ⟨_, _, rfl, resV_own (v := .slice none 0 0) ty67 H rfl 2 rfl rfl rfl rfl, ⟨_, _, rfl, resV_own (v := .int .i64 0) ty3 H rfl 1 rfl rfl rfl rfl, ⟨_, _, rfl, resV_own (v := .int .i64 2) ty31 H rfl 0 rfl rfl rfl rfl, rfl⟩⟩⟩) ⟨_, rfl, I, _, Le.refl _, H.drop 3, by rw [lexE, if_pos hbig], by rw [lexE, if_pos hbig]; exact RepS.nil _ _ _⟩)
  · have hsz := of_decide_eq_false hc4
    refine st_skip ?_
    refine st_seq ?_
    refine st_region ?_
    refine sr_op rfl rfl (ow_makeFunc (fv := []) (cv := [.pointer (some ⟨g1, 0, none⟩), .pointer (some ⟨g2, 0, none⟩), .pointer (some ⟨g3, 0, none⟩)]) rfl rfl ?_)
    refine sr_defer hb (cap := [.pointer (some ⟨g1, 0, none⟩), .pointer (some ⟨g2, 0, none⟩), .pointer (some ⟨g3, 0, none⟩)]) rfl ?_
    refine sr_nil ?_
    refine st_seq ?_
    refine st_region ?_
    refine sr_op rfl rfl (ow_alloc ty149 H [.nilFunc, .nilFunc, .nilFunc, .nilFunc, .nilFunc, .nilFunc] rfl (fun g5 _ H => ?_))
    refine sr_nil ?_
    refine st_seq ?_
    refine st_region ?_
    refine sr_op rfl rfl (ow_build (ps := [(0, .func (.func 94) #[] #[]), (1, .func (.func 95) #[] #[]), (2, .func (.func 96) #[] #[]), (3, .func (.func 97) #[] #[]), (4, .func (.func 98) #[] #[]), (5, .func (.func 94) #[] #[])]) (v := .agg #[.func (.func 94) #[] #[], .func (.func 95) #[] #[], .func (.func 96) #[] #[], .func (.func 97) #[] #[], .func (.func 98) #[] #[], .func (.func 94) #[] #[]]) rfl (fun _ => by kernel_rfl) ?_)
    refine sr_op rfl rfl (ow_fieldAddr fd149_0 ty147 rfl rfl (r := 0) rfl ?_)
    refine sr_op rfl rfl (ow_store ty147 H rfl (v := .agg #[.func (.func 94) #[] #[], .func (.func 95) #[] #[], .func (.func 96) #[] #[], .func (.func 97) #[] #[], .func (.func 98) #[] #[], .func (.func 94) #[] #[]]) rfl [.func (.func 94) #[] #[], .func (.func 95) #[] #[], .func (.func 96) #[] #[], .func (.func 97) #[] #[], .func (.func 98) #[] #[], .func (.func 94) #[] #[]] rfl rfl rfl 0 rfl rfl (fun _ H => ?_))
    refine sr_nil ?_
    refine st_seq ?_
    refine st_region ?_
    refine sr_op rfl rfl (ow_move (v := .string src) rfl ?_)
    refine sr_op rfl rfl (ow_build (ps := [(0, .string src)]) (v := .agg #[.string src, .int .i64 0, .slice none 0 0]) rfl (fun _ => by kernel_rfl) ?_)
    refine sr_op rfl rfl (ow_box H (v := .agg #[.string src, .int .i64 0, .slice none 0 0]) rfl [.string src, .int .i64 0, .slice none 0 0] rfl (fun g6 _ H => ?_))
    refine sr_op rfl rfl (ow_assign (v := .pointer (some ⟨g6, 0, none⟩)) rfl ?_)
    refine sr_nil ?_
    refine st_seq ?_
    refine st_block ?_
    refine st_loop ?_
    refine st_live [0, 2, 3, 4, 5, 6] ?_
    refine st_ind (fun d_ m_ w_ => ∃ (a : Nat) (toks : List Tk) (J7 : Im) (Aa_ : Option Addr) (na_ ca_ : Nat) (cs_ : List Value) (r_ : Sl), d_ = src.size - a ∧ m_ = (0, .string src) :: (2, .pointer (some ⟨g1, 0, none⟩)) :: (3, .pointer (some ⟨g2, 0, none⟩)) :: (4, .pointer (some ⟨g3, 0, none⟩)) :: (5, .pointer (some ⟨g5, 0, none⟩)) :: (6, .pointer (some ⟨g6, 0, none⟩)) :: r_ ∧ Hp B J7 w_ ((g6, Ob [.string src, .int .i64 (a : Int), .slice Aa_ na_ ca_] 152) :: (g5, Ob [.func (.func 94) #[] #[], .func (.func 95) #[] #[], .func (.func 96) #[] #[], .func (.func 97) #[] #[], .func (.func 98) #[] #[], .func (.func 94) #[] #[]] 149) :: (g3, Ob [.int .i64 0] 31) :: (g2, Ob [.int .i64 0] 3) :: (g1, Ob [.slice none 0 0] 67) :: (rowL (.slice Aa_ na_ ca_) cs_ 71 ++ L)) ∧ Le I J7 ∧ Acc J7 4 (.slice Aa_ na_ ca_) cs_ ((toks).map encTk) ∧ a ≤ src.size ∧ toks.length ≤ a ∧ lexFrom src 0 [] = lexFrom src a toks) _ ⟨0, [], I, none, 0, 0, [], _, rfl, rfl, H, Le.refl _, Acc.none_ _ _ _, Nat.zero_le _, Nat.le_refl _, rfl⟩ ?_
    rintro _ _ _ ⟨a, toks, J7, Aa_, na_, ca_, cs_, r8, rfl, rfl, H, hJ7, ha_, haS, hT, hfr⟩ ih9
    obtain ⟨u, hu⟩ := byte_of src a
    refine st_seq ?_
    refine st_seq ?_
    refine st_region ?_
    refine sr_op rfl rfl (ow_move (v := .pointer (some ⟨g6, 0, none⟩)) rfl ?_)
    refine sr_op rfl rfl (ow_nilCheck rfl ?_)
    refine sr_op rfl rfl (ow_fieldAddr fd152_1 ty3 rfl rfl (r := 1) rfl ?_)
    refine sr_op rfl rfl (ow_load (v := .int .i64 (a : Int)) ty3 H rfl 0 rfl rfl rfl rfl ?_)
    refine sr_op rfl rfl (ow_move (v := .string src) rfl ?_)
    refine sr_op rfl rfl (ow_lenT un9 rfl rfl ?_)
    refine sr_op rfl rfl (ow_lss rfl rfl ?_)
    refine sr_nil ?_
    refine st_cond (decide ((a : Int) < (src.size : Int))) rfl (fun hc10 => ?_) (fun hc10 => ?_)
    · have hlt : a < src.size := by have := of_decide_eq_true hc10; omega
      refine st_skip ?_
      refine st_block ?_
      refine st_region ?_
      refine sr_op rfl rfl (ow_move (v := .string src) rfl ?_)
      refine sr_op rfl rfl (ow_move (v := .pointer (some ⟨g6, 0, none⟩)) rfl ?_)
      refine sr_op rfl rfl (ow_nilCheck rfl ?_)
      refine sr_op rfl rfl (ow_fieldAddr fd152_1 ty3 rfl rfl (r := 1) rfl ?_)
      refine sr_op rfl rfl (ow_load (v := .int .i64 (a : Int)) ty3 H rfl 0 rfl rfl rfl rfl ?_)
      refine sr_op rfl rfl (ow_indexT un9 rfl rfl (by omega) (u := u) (hu hlt).1 ?_)
      refine sr_op rfl rfl (ow_call en99 rfl (class_c H (u.toNat : Int)) ?_)
      rintro _ _ ⟨rfl, H⟩
      have hcr := class_range u
      have hbc := byteC_at (hu hlt).2
      rcases hcr with hk | hk | hk | hk | hk | hk
      · rw [hk]
        rw [hk] at hbc
        refine sr_op rfl rfl (ow_fieldAddr fd149_0 ty147 rfl rfl (r := 0) rfl ?_)
        refine sr_op rfl rfl (ow_indexAddrP un147 ty146 rfl rfl (by omega) (by omega) (r := 0) rfl ?_)
        refine sr_op rfl rfl (ow_load (v := .func (.func 94) #[] #[]) ty146 H rfl 1 rfl rfl rfl rfl ?_)
        refine sr_op rfl rfl (ow_move (v := .pointer (some ⟨g6, 0, none⟩)) rfl ?_)
        have Hq : Hp B J7 _ ((g6, Ob [.string src, .int .i64 (a : Int), .slice Aa_ na_ ca_] 152) :: (rowL (.slice Aa_ na_ ca_) cs_ 71 ++ ([(g5, Ob [.func (.func 94) #[] #[], .func (.func 95) #[] #[], .func (.func 96) #[] #[], .func (.func 97) #[] #[], .func (.func 98) #[] #[], .func (.func 94) #[] #[]] 149), (g3, Ob [.int .i64 0] 31), (g2, Ob [.int .i64 0] 3), (g1, Ob [.slice none 0 0] 67)] ++ L))) := Hp.perm H ((rowL_back [(g5, Ob [.func (.func 94) #[] #[], .func (.func 95) #[] #[], .func (.func 96) #[] #[], .func (.func 97) #[] #[], .func (.func 98) #[] #[], .func (.func 94) #[] #[]] 149), (g3, Ob [.int .i64 0] 31), (g2, Ob [.int .i64 0] 3), (g1, Ob [.slice none 0 0] 67)] (.slice Aa_ na_ ca_) cs_ 71).symm.cons _)
        refine sr_op rfl rfl (ow_enter (run_callV en94 (first := []) (cap := []) rfl rfl) (wrong_c Hq) ?_ ?_ (fun _ h_ => h_))
        · rintro _ _ h_
          exact h_.elim
        rintro ch_ w_ ⟨rfl, Hq⟩
        have Hz := (Hq.tail.perm (rowL_back [(g5, Ob [.func (.func 94) #[] #[], .func (.func 95) #[] #[], .func (.func 96) #[] #[], .func (.func 97) #[] #[], .func (.func 98) #[] #[], .func (.func 94) #[] #[]] 149), (g3, Ob [.int .i64 0] 31), (g2, Ob [.int .i64 0] 3), (g1, Ob [.slice none 0 0] 67)] (.slice Aa_ na_ ca_) cs_ 71)).sub (List.Sublist.append (List.Sublist.refl [(g5, Ob [.func (.func 94) #[] #[], .func (.func 95) #[] #[], .func (.func 96) #[] #[], .func (.func 97) #[] #[], .func (.func 98) #[] #[], .func (.func 94) #[] #[]] 149), (g3, Ob [.int .i64 0] 31), (g2, Ob [.int .i64 0] 3), (g1, Ob [.slice none 0 0] 67)]) (List.sublist_append_right (rowL (.slice Aa_ na_ ca_) cs_ 71) L))
        have Hz2 := lexSort Hz
        refine pk_defer en93 (u' := .panicking [{ v := .iface 145 (.int .i64 (a : Int)), recovered := true }]) rfl (CallsD.mono' (lex_pan a Hz2) ?_)
        rintro _ _ w8 ⟨v8, rfl, rfl, H⟩
        exact ⟨v8, rfl, rfl, hR _ _ (.tuple #[.slice none 0 0, .int .i64 (a : Int), .int .i64 30]) (res_run (vs := [.slice none 0 0, .int .i64 (a : Int), .int .i64 30]) Tryz.results35 ⟨_, _, rfl, resV_own (v := .slice none 0 0) ty67 H rfl 0 rfl rfl rfl rfl, ⟨_, _, rfl, resV_own (v := .int .i64 (a : Int)) ty3 H rfl 1 rfl rfl rfl rfl, ⟨_, _, rfl, resV_own (v := .int .i64 30) ty31 H rfl 2 rfl rfl rfl rfl, rfl⟩⟩⟩) ⟨_, rfl, J7, _, hJ7, H.drop 4, by rw [lexE, if_neg hsz, hfr, lex_bad hlt (step0 (by omega))], by rw [lexE, if_neg hsz, hfr, lex_bad hlt (step0 (by omega))]; exact RepS.nil _ _ _⟩⟩
      · rw [hk]
        rw [hk] at hbc
        refine sr_op rfl rfl (ow_fieldAddr fd149_0 ty147 rfl rfl (r := 0) rfl ?_)
        refine sr_op rfl rfl (ow_indexAddrP un147 ty146 rfl rfl (by omega) (by omega) (r := 1) rfl ?_)
        refine sr_op rfl rfl (ow_load (v := .func (.func 95) #[] #[]) ty146 H rfl 1 rfl rfl rfl rfl ?_)
        refine sr_op rfl rfl (ow_move (v := .pointer (some ⟨g6, 0, none⟩)) rfl ?_)
        have Hq : Hp B J7 _ ((g6, Ob [.string src, .int .i64 (a : Int), .slice Aa_ na_ ca_] 152) :: (rowL (.slice Aa_ na_ ca_) cs_ 71 ++ ([(g5, Ob [.func (.func 94) #[] #[], .func (.func 95) #[] #[], .func (.func 96) #[] #[], .func (.func 97) #[] #[], .func (.func 98) #[] #[], .func (.func 94) #[] #[]] 149), (g3, Ob [.int .i64 0] 31), (g2, Ob [.int .i64 0] 3), (g1, Ob [.slice none 0 0] 67)] ++ L))) := Hp.perm H ((rowL_back [(g5, Ob [.func (.func 94) #[] #[], .func (.func 95) #[] #[], .func (.func 96) #[] #[], .func (.func 97) #[] #[], .func (.func 98) #[] #[], .func (.func 94) #[] #[]] 149), (g3, Ob [.int .i64 0] 31), (g2, Ob [.int .i64 0] 3), (g1, Ob [.slice none 0 0] 67)] (.slice Aa_ na_ ca_) cs_ 71).symm.cons _)
        refine sr_op rfl rfl (ow_enter (run_callV en95 (first := []) (cap := []) rfl rfl) (space_c Hq (Nat.le_of_lt hlt) (by omega)) ?_ ?_ (fun _ h_ => by obtain ⟨_, e_, _⟩ := h_; cases e_))
        rotate_left
        · rintro _ _ ⟨_, e_, _⟩
          cases e_
        rintro vq _ ⟨_, e_, Hq⟩
        cases e_
        have H : Hp B J7 _ ((g6, Ob [.string src, .int .i64 (a + spanS src a [1] : Int), .slice Aa_ na_ ca_] 152) :: (g5, Ob [.func (.func 94) #[] #[], .func (.func 95) #[] #[], .func (.func 96) #[] #[], .func (.func 97) #[] #[], .func (.func 98) #[] #[], .func (.func 94) #[] #[]] 149) :: (g3, Ob [.int .i64 0] 31) :: (g2, Ob [.int .i64 0] 3) :: (g1, Ob [.slice none 0 0] 67) :: (rowL (.slice Aa_ na_ ca_) cs_ 71 ++ L)) := Hp.perm Hq ((rowL_back [(g5, Ob [.func (.func 94) #[] #[], .func (.func 95) #[] #[], .func (.func 96) #[] #[], .func (.func 97) #[] #[], .func (.func 98) #[] #[], .func (.func 94) #[] #[]] 149), (g3, Ob [.int .i64 0] 31), (g2, Ob [.int .i64 0] 3), (g1, Ob [.slice none 0 0] 67)] (.slice Aa_ na_ ca_) cs_ 71).cons _)
        refine sr_nil ?_
        refine st_inBlock ?_
        exact st_inLoop (st_live [0, 2, 3, 4, 5, 6] (ih9 _ _ _ (by have h_ := step_prog hlt (step1 hbc); (try simp only at h_); omega) ⟨a + spanS src a [1], toks ++ [], J7, _, _, _, _, _, rfl, rfl, H, (hJ7), by simpa using ha_, (step_prog hlt (step1 hbc)).2.1, by
            have h1_ := step_prog hlt (step1 hbc)
            rw [List.length_append]
            have h2_ := h1_.1
            have h3_ := h1_.2.2
            try simp only at h2_
            try simp only at h3_
            try simp only
            omega, hfr.trans (lex_step hlt (step1 hbc))⟩))
      · rw [hk]
        rw [hk] at hbc
        refine sr_op rfl rfl (ow_fieldAddr fd149_0 ty147 rfl rfl (r := 0) rfl ?_)
        refine sr_op rfl rfl (ow_indexAddrP un147 ty146 rfl rfl (by omega) (by omega) (r := 2) rfl ?_)
        refine sr_op rfl rfl (ow_load (v := .func (.func 96) #[] #[]) ty146 H rfl 1 rfl rfl rfl rfl ?_)
        refine sr_op rfl rfl (ow_move (v := .pointer (some ⟨g6, 0, none⟩)) rfl ?_)
        have Hq : Hp B J7 _ ((g6, Ob [.string src, .int .i64 (a : Int), .slice Aa_ na_ ca_] 152) :: (rowL (.slice Aa_ na_ ca_) cs_ 71 ++ ([(g5, Ob [.func (.func 94) #[] #[], .func (.func 95) #[] #[], .func (.func 96) #[] #[], .func (.func 97) #[] #[], .func (.func 98) #[] #[], .func (.func 94) #[] #[]] 149), (g3, Ob [.int .i64 0] 31), (g2, Ob [.int .i64 0] 3), (g1, Ob [.slice none 0 0] 67)] ++ L))) := Hp.perm H ((rowL_back [(g5, Ob [.func (.func 94) #[] #[], .func (.func 95) #[] #[], .func (.func 96) #[] #[], .func (.func 97) #[] #[], .func (.func 98) #[] #[], .func (.func 94) #[] #[]] 149), (g3, Ob [.int .i64 0] 31), (g2, Ob [.int .i64 0] 3), (g1, Ob [.slice none 0 0] 67)] (.slice Aa_ na_ ca_) cs_ 71).symm.cons _)
        refine sr_op rfl rfl (ow_enter (run_callV en96 (first := []) (cap := []) rfl rfl) (name_c Hq ha_ (Nat.le_of_lt hlt) (by omega) (by omega)) ?_ ?_ (fun _ h_ => h_))
        rotate_left
        · rintro ch_ w_ ⟨hn_, rfl, Hq⟩
          have Hz := (Hq.tail.perm (rowL_back [(g5, Ob [.func (.func 94) #[] #[], .func (.func 95) #[] #[], .func (.func 96) #[] #[], .func (.func 97) #[] #[], .func (.func 98) #[] #[], .func (.func 94) #[] #[]] 149), (g3, Ob [.int .i64 0] 31), (g2, Ob [.int .i64 0] 3), (g1, Ob [.slice none 0 0] 67)] (.slice Aa_ na_ ca_) cs_ 71)).sub (List.Sublist.append (List.Sublist.refl [(g5, Ob [.func (.func 94) #[] #[], .func (.func 95) #[] #[], .func (.func 96) #[] #[], .func (.func 97) #[] #[], .func (.func 98) #[] #[], .func (.func 94) #[] #[]] 149), (g3, Ob [.int .i64 0] 31), (g2, Ob [.int .i64 0] 3), (g1, Ob [.slice none 0 0] 67)]) (List.sublist_append_right (rowL (.slice Aa_ na_ ca_) cs_ 71) L))
          have Hz2 := lexSort Hz
          refine pk_defer en93 (u' := .panicking [{ v := .iface 145 (.int .i64 (a : Int)), recovered := true }]) rfl (CallsD.mono' (lex_pan a Hz2) ?_)
          rintro _ _ w8 ⟨v8, rfl, rfl, H⟩
          exact ⟨v8, rfl, rfl, hR _ _ (.tuple #[.slice none 0 0, .int .i64 (a : Int), .int .i64 30]) (res_run (vs := [.slice none 0 0, .int .i64 (a : Int), .int .i64 30]) Tryz.results35 ⟨_, _, rfl, resV_own (v := .slice none 0 0) ty67 H rfl 0 rfl rfl rfl rfl, ⟨_, _, rfl, resV_own (v := .int .i64 (a : Int)) ty3 H rfl 1 rfl rfl rfl rfl, ⟨_, _, rfl, resV_own (v := .int .i64 30) ty31 H rfl 2 rfl rfl rfl rfl, rfl⟩⟩⟩) ⟨_, rfl, J7, _, hJ7, H.drop 4, by rw [lexE, if_neg hsz, hfr, lex_bad hlt (by rw [step2 hbc, if_neg (by rw [hn_]; decide)])], by rw [lexE, if_neg hsz, hfr, lex_bad hlt (by rw [step2 hbc, if_neg (by rw [hn_]; decide)])]; exact RepS.nil _ _ _⟩⟩
        rintro vq _ ⟨Ab13, nb13, cb13, csb13, hn_, Hq, ha_⟩
        have H : Hp B J7 _ ((g6, Ob [.string src, .int .i64 (a + spanS src a [2, 3, 5] : Int), .slice Ab13 nb13 cb13] 152) :: (g5, Ob [.func (.func 94) #[] #[], .func (.func 95) #[] #[], .func (.func 96) #[] #[], .func (.func 97) #[] #[], .func (.func 98) #[] #[], .func (.func 94) #[] #[]] 149) :: (g3, Ob [.int .i64 0] 31) :: (g2, Ob [.int .i64 0] 3) :: (g1, Ob [.slice none 0 0] 67) :: (rowL (.slice Ab13 nb13 cb13) csb13 71 ++ L)) := Hp.perm Hq ((rowL_back [(g5, Ob [.func (.func 94) #[] #[], .func (.func 95) #[] #[], .func (.func 96) #[] #[], .func (.func 97) #[] #[], .func (.func 98) #[] #[], .func (.func 94) #[] #[]] 149), (g3, Ob [.int .i64 0] 31), (g2, Ob [.int .i64 0] 3), (g1, Ob [.slice none 0 0] 67)] (.slice Ab13 nb13 cb13) csb13 71).cons _)
        refine sr_nil ?_
        refine st_inBlock ?_
        exact st_inLoop (st_live [0, 2, 3, 4, 5, 6] (ih9 _ _ _ (by have h_ := step_prog hlt (step2y hbc hn_); (try simp only at h_); omega) ⟨a + spanS src a [2, 3, 5], toks ++ [mkTk 1 (wordS src a [2, 3, 5]) 0 (a : Int)], J7, _, _, _, _, _, rfl, rfl, H, (hJ7), ha_, (step_prog hlt (step2y hbc hn_)).2.1, by
            have h1_ := step_prog hlt (step2y hbc hn_)
            rw [List.length_append]
            have h2_ := h1_.1
            have h3_ := h1_.2.2
            try simp only at h2_
            try simp only at h3_
            try simp only
            omega, hfr.trans (lex_step hlt (step2y hbc hn_))⟩))
      · rw [hk]
        rw [hk] at hbc
        refine sr_op rfl rfl (ow_fieldAddr fd149_0 ty147 rfl rfl (r := 0) rfl ?_)
        refine sr_op rfl rfl (ow_indexAddrP un147 ty146 rfl rfl (by omega) (by omega) (r := 3) rfl ?_)
        refine sr_op rfl rfl (ow_load (v := .func (.func 97) #[] #[]) ty146 H rfl 1 rfl rfl rfl rfl ?_)
        refine sr_op rfl rfl (ow_move (v := .pointer (some ⟨g6, 0, none⟩)) rfl ?_)
        have Hq : Hp B J7 _ ((g6, Ob [.string src, .int .i64 (a : Int), .slice Aa_ na_ ca_] 152) :: (rowL (.slice Aa_ na_ ca_) cs_ 71 ++ ([(g5, Ob [.func (.func 94) #[] #[], .func (.func 95) #[] #[], .func (.func 96) #[] #[], .func (.func 97) #[] #[], .func (.func 98) #[] #[], .func (.func 94) #[] #[]] 149), (g3, Ob [.int .i64 0] 31), (g2, Ob [.int .i64 0] 3), (g1, Ob [.slice none 0 0] 67)] ++ L))) := Hp.perm H ((rowL_back [(g5, Ob [.func (.func 94) #[] #[], .func (.func 95) #[] #[], .func (.func 96) #[] #[], .func (.func 97) #[] #[], .func (.func 98) #[] #[], .func (.func 94) #[] #[]] 149), (g3, Ob [.int .i64 0] 31), (g2, Ob [.int .i64 0] 3), (g1, Ob [.slice none 0 0] 67)] (.slice Aa_ na_ ca_) cs_ 71).symm.cons _)
        have hlib := (hlib.mono hJ7)
        refine sr_op rfl rfl (ow_enter (run_callV en97 (first := []) (cap := []) rfl rfl) (number_c Hq ha_ (Nat.le_of_lt hlt) (by omega) (by omega) hlib) ?_ ?_ (fun _ h_ => h_))
        rotate_left
        · rintro ch_ w_ ⟨hn_, rfl, Hq⟩
          have Hz := (Hq.tail.perm (rowL_back [(g5, Ob [.func (.func 94) #[] #[], .func (.func 95) #[] #[], .func (.func 96) #[] #[], .func (.func 97) #[] #[], .func (.func 98) #[] #[], .func (.func 94) #[] #[]] 149), (g3, Ob [.int .i64 0] 31), (g2, Ob [.int .i64 0] 3), (g1, Ob [.slice none 0 0] 67)] (.slice Aa_ na_ ca_) cs_ 71)).sub (List.Sublist.append (List.Sublist.refl [(g5, Ob [.func (.func 94) #[] #[], .func (.func 95) #[] #[], .func (.func 96) #[] #[], .func (.func 97) #[] #[], .func (.func 98) #[] #[], .func (.func 94) #[] #[]] 149), (g3, Ob [.int .i64 0] 31), (g2, Ob [.int .i64 0] 3), (g1, Ob [.slice none 0 0] 67)]) (List.sublist_append_right (rowL (.slice Aa_ na_ ca_) cs_ 71) L))
          have Hz2 := lexSort Hz
          refine pk_defer en93 (u' := .panicking [{ v := .iface 145 (.int .i64 (a : Int)), recovered := true }]) rfl (CallsD.mono' (lex_pan a Hz2) ?_)
          rintro _ _ w8 ⟨v8, rfl, rfl, H⟩
          exact ⟨v8, rfl, rfl, hR _ _ (.tuple #[.slice none 0 0, .int .i64 (a : Int), .int .i64 30]) (res_run (vs := [.slice none 0 0, .int .i64 (a : Int), .int .i64 30]) Tryz.results35 ⟨_, _, rfl, resV_own (v := .slice none 0 0) ty67 H rfl 0 rfl rfl rfl rfl, ⟨_, _, rfl, resV_own (v := .int .i64 (a : Int)) ty3 H rfl 1 rfl rfl rfl rfl, ⟨_, _, rfl, resV_own (v := .int .i64 30) ty31 H rfl 2 rfl rfl rfl rfl, rfl⟩⟩⟩) ⟨_, rfl, J7, _, hJ7, H.drop 4, by rw [lexE, if_neg hsz, hfr, lex_bad hlt (by rw [step3 hbc, hn_])], by rw [lexE, if_neg hsz, hfr, lex_bad hlt (by rw [step3 hbc, hn_])]; exact RepS.nil _ _ _⟩⟩
        rintro vq _ ⟨nu, Ab14, nb14, cb14, csb14, hn_, Hq, ha_⟩
        have H : Hp B J7 _ ((g6, Ob [.string src, .int .i64 (a + spanS src a [3] : Int), .slice Ab14 nb14 cb14] 152) :: (g5, Ob [.func (.func 94) #[] #[], .func (.func 95) #[] #[], .func (.func 96) #[] #[], .func (.func 97) #[] #[], .func (.func 98) #[] #[], .func (.func 94) #[] #[]] 149) :: (g3, Ob [.int .i64 0] 31) :: (g2, Ob [.int .i64 0] 3) :: (g1, Ob [.slice none 0 0] 67) :: (rowL (.slice Ab14 nb14 cb14) csb14 71 ++ L)) := Hp.perm Hq ((rowL_back [(g5, Ob [.func (.func 94) #[] #[], .func (.func 95) #[] #[], .func (.func 96) #[] #[], .func (.func 97) #[] #[], .func (.func 98) #[] #[], .func (.func 94) #[] #[]] 149), (g3, Ob [.int .i64 0] 31), (g2, Ob [.int .i64 0] 3), (g1, Ob [.slice none 0 0] 67)] (.slice Ab14 nb14 cb14) csb14 71).cons _)
        refine sr_nil ?_
        refine st_inBlock ?_
        exact st_inLoop (st_live [0, 2, 3, 4, 5, 6] (ih9 _ _ _ (by have h_ := step_prog hlt (step3y hbc hn_); (try simp only at h_); omega) ⟨a + spanS src a [3], toks ++ [mkTk 2 ⟨#[]⟩ nu (a : Int)], J7, _, _, _, _, _, rfl, rfl, H, (hJ7), ha_, (step_prog hlt (step3y hbc hn_)).2.1, by
            have h1_ := step_prog hlt (step3y hbc hn_)
            rw [List.length_append]
            have h2_ := h1_.1
            have h3_ := h1_.2.2
            try simp only at h2_
            try simp only at h3_
            try simp only
            omega, hfr.trans (lex_step hlt (step3y hbc hn_))⟩))
      · rw [hk]
        rw [hk] at hbc
        refine sr_op rfl rfl (ow_fieldAddr fd149_0 ty147 rfl rfl (r := 0) rfl ?_)
        refine sr_op rfl rfl (ow_indexAddrP un147 ty146 rfl rfl (by omega) (by omega) (r := 4) rfl ?_)
        refine sr_op rfl rfl (ow_load (v := .func (.func 98) #[] #[]) ty146 H rfl 1 rfl rfl rfl rfl ?_)
        refine sr_op rfl rfl (ow_move (v := .pointer (some ⟨g6, 0, none⟩)) rfl ?_)
        have Hq : Hp B J7 _ ((g6, Ob [.string src, .int .i64 (a : Int), .slice Aa_ na_ ca_] 152) :: (rowL (.slice Aa_ na_ ca_) cs_ 71 ++ ([(g5, Ob [.func (.func 94) #[] #[], .func (.func 95) #[] #[], .func (.func 96) #[] #[], .func (.func 97) #[] #[], .func (.func 98) #[] #[], .func (.func 94) #[] #[]] 149), (g3, Ob [.int .i64 0] 31), (g2, Ob [.int .i64 0] 3), (g1, Ob [.slice none 0 0] 67)] ++ L))) := Hp.perm H ((rowL_back [(g5, Ob [.func (.func 94) #[] #[], .func (.func 95) #[] #[], .func (.func 96) #[] #[], .func (.func 97) #[] #[], .func (.func 98) #[] #[], .func (.func 94) #[] #[]] 149), (g3, Ob [.int .i64 0] 31), (g2, Ob [.int .i64 0] 3), (g1, Ob [.slice none 0 0] 67)] (.slice Aa_ na_ ca_) cs_ 71).symm.cons _)
        refine sr_op rfl rfl (ow_enter (run_callV en98 (first := []) (cap := []) rfl rfl) (sign_c Hq ha_ (Nat.le_of_lt hlt) (by omega) (by omega) hlt (hu hlt).2 hk) ?_ ?_ (fun _ h_ => by obtain ⟨_, e_, _⟩ := h_; cases e_))
        rotate_left
        · rintro _ _ ⟨_, e_, _⟩
          cases e_
        rintro vq _ ⟨_, e_, Ab15, nb15, cb15, csb15, Hq, ha_⟩
        cases e_
        have H : Hp B J7 _ ((g6, Ob [.string src, .int .i64 ((signR src a).2 : Int), .slice Ab15 nb15 cb15] 152) :: (g5, Ob [.func (.func 94) #[] #[], .func (.func 95) #[] #[], .func (.func 96) #[] #[], .func (.func 97) #[] #[], .func (.func 98) #[] #[], .func (.func 94) #[] #[]] 149) :: (g3, Ob [.int .i64 0] 31) :: (g2, Ob [.int .i64 0] 3) :: (g1, Ob [.slice none 0 0] 67) :: (rowL (.slice Ab15 nb15 cb15) csb15 71 ++ L)) := Hp.perm Hq ((rowL_back [(g5, Ob [.func (.func 94) #[] #[], .func (.func 95) #[] #[], .func (.func 96) #[] #[], .func (.func 97) #[] #[], .func (.func 98) #[] #[], .func (.func 94) #[] #[]] 149), (g3, Ob [.int .i64 0] 31), (g2, Ob [.int .i64 0] 3), (g1, Ob [.slice none 0 0] 67)] (.slice Ab15 nb15 cb15) csb15 71).cons _)
        refine sr_nil ?_
        refine st_inBlock ?_
        exact st_inLoop (st_live [0, 2, 3, 4, 5, 6] (ih9 _ _ _ (by have h_ := step_prog hlt (step4 hbc); (try simp only at h_); omega) ⟨(signR src a).2, toks ++ (signR src a).1, J7, _, _, _, _, _, rfl, rfl, H, (hJ7), ha_, (step_prog hlt (step4 hbc)).2.1, by
            have h1_ := step_prog hlt (step4 hbc)
            rw [List.length_append]
            have h2_ := h1_.1
            have h3_ := h1_.2.2
            try simp only at h2_
            try simp only at h3_
            try simp only
            omega, hfr.trans (lex_step hlt (step4 hbc))⟩))
      · rw [hk]
        rw [hk] at hbc
        refine sr_op rfl rfl (ow_fieldAddr fd149_0 ty147 rfl rfl (r := 0) rfl ?_)
        refine sr_op rfl rfl (ow_indexAddrP un147 ty146 rfl rfl (by omega) (by omega) (r := 5) rfl ?_)
        refine sr_op rfl rfl (ow_load (v := .func (.func 94) #[] #[]) ty146 H rfl 1 rfl rfl rfl rfl ?_)
        refine sr_op rfl rfl (ow_move (v := .pointer (some ⟨g6, 0, none⟩)) rfl ?_)
        have Hq : Hp B J7 _ ((g6, Ob [.string src, .int .i64 (a : Int), .slice Aa_ na_ ca_] 152) :: (rowL (.slice Aa_ na_ ca_) cs_ 71 ++ ([(g5, Ob [.func (.func 94) #[] #[], .func (.func 95) #[] #[], .func (.func 96) #[] #[], .func (.func 97) #[] #[], .func (.func 98) #[] #[], .func (.func 94) #[] #[]] 149), (g3, Ob [.int .i64 0] 31), (g2, Ob [.int .i64 0] 3), (g1, Ob [.slice none 0 0] 67)] ++ L))) := Hp.perm H ((rowL_back [(g5, Ob [.func (.func 94) #[] #[], .func (.func 95) #[] #[], .func (.func 96) #[] #[], .func (.func 97) #[] #[], .func (.func 98) #[] #[], .func (.func 94) #[] #[]] 149), (g3, Ob [.int .i64 0] 31), (g2, Ob [.int .i64 0] 3), (g1, Ob [.slice none 0 0] 67)] (.slice Aa_ na_ ca_) cs_ 71).symm.cons _)
        refine sr_op rfl rfl (ow_enter (run_callV en94 (first := []) (cap := []) rfl rfl) (wrong_c Hq) ?_ ?_ (fun _ h_ => h_))
        · rintro _ _ h_
          exact h_.elim
        rintro ch_ w_ ⟨rfl, Hq⟩
        have Hz := (Hq.tail.perm (rowL_back [(g5, Ob [.func (.func 94) #[] #[], .func (.func 95) #[] #[], .func (.func 96) #[] #[], .func (.func 97) #[] #[], .func (.func 98) #[] #[], .func (.func 94) #[] #[]] 149), (g3, Ob [.int .i64 0] 31), (g2, Ob [.int .i64 0] 3), (g1, Ob [.slice none 0 0] 67)] (.slice Aa_ na_ ca_) cs_ 71)).sub (List.Sublist.append (List.Sublist.refl [(g5, Ob [.func (.func 94) #[] #[], .func (.func 95) #[] #[], .func (.func 96) #[] #[], .func (.func 97) #[] #[], .func (.func 98) #[] #[], .func (.func 94) #[] #[]] 149), (g3, Ob [.int .i64 0] 31), (g2, Ob [.int .i64 0] 3), (g1, Ob [.slice none 0 0] 67)]) (List.sublist_append_right (rowL (.slice Aa_ na_ ca_) cs_ 71) L))
        have Hz2 := lexSort Hz
        refine pk_defer en93 (u' := .panicking [{ v := .iface 145 (.int .i64 (a : Int)), recovered := true }]) rfl (CallsD.mono' (lex_pan a Hz2) ?_)
        rintro _ _ w8 ⟨v8, rfl, rfl, H⟩
        exact ⟨v8, rfl, rfl, hR _ _ (.tuple #[.slice none 0 0, .int .i64 (a : Int), .int .i64 30]) (res_run (vs := [.slice none 0 0, .int .i64 (a : Int), .int .i64 30]) Tryz.results35 ⟨_, _, rfl, resV_own (v := .slice none 0 0) ty67 H rfl 0 rfl rfl rfl rfl, ⟨_, _, rfl, resV_own (v := .int .i64 (a : Int)) ty3 H rfl 1 rfl rfl rfl rfl, ⟨_, _, rfl, resV_own (v := .int .i64 30) ty31 H rfl 2 rfl rfl rfl rfl, rfl⟩⟩⟩) ⟨_, rfl, J7, _, hJ7, H.drop 4, by rw [lexE, if_neg hsz, hfr, lex_bad hlt (step0 (by omega))], by rw [lexE, if_neg hsz, hfr, lex_bad hlt (step0 (by omega))]; exact RepS.nil _ _ _⟩⟩
    · have hge := of_decide_eq_false hc10
      refine st_exit rfl ?_
      refine st_seq ?_
      refine st_region ?_
      refine sr_op rfl rfl (ow_move (v := .pointer (some ⟨g6, 0, none⟩)) rfl ?_)
      refine sr_op rfl rfl (ow_nilCheck rfl ?_)
      refine sr_op rfl rfl (ow_fieldAddr fd152_2 ty67 rfl rfl (r := 2) rfl ?_)
      refine sr_op rfl rfl (ow_load (v := .slice Aa_ na_ ca_) ty67 H rfl 0 rfl rfl rfl rfl ?_)
      refine sr_op rfl rfl (ow_store ty67 H rfl (v := .slice Aa_ na_ ca_) rfl [.slice Aa_ na_ ca_] rfl rfl rfl 4 rfl rfl (fun _ H => ?_))
      refine sr_op rfl rfl (ow_store ty3 H rfl (v := .int .i64 0) rfl [.int .i64 0] rfl rfl rfl 3 rfl rfl (fun _ H => ?_))
      refine sr_op rfl rfl (ow_store ty31 H rfl (v := .int .i64 0) rfl [.int .i64 0] rfl rfl rfl 2 rfl rfl (fun _ H => ?_))
      refine sr_nil ?_
      obtain ⟨I9, hI9, H9, hr_⟩ := Acc.done ha_ (H.perm (rowL_back [(g6, Ob [.string src, .int .i64 (a : Int), .slice Aa_ na_ ca_] 152), (g5, Ob [.func (.func 94) #[] #[], .func (.func 95) #[] #[], .func (.func 96) #[] #[], .func (.func 97) #[] #[], .func (.func 98) #[] #[], .func (.func 94) #[] #[]] 149), (g3, Ob [.int .i64 0] 31), (g2, Ob [.int .i64 0] 3), (g1, Ob [.slice Aa_ na_ ca_] 67)] (.slice Aa_ na_ ca_) cs_ 71).symm)
      have H : Hp B I9 _ ((g6, Ob [.string src, .int .i64 (a : Int), .slice Aa_ na_ ca_] 152) :: (g5, Ob [.func (.func 94) #[] #[], .func (.func 95) #[] #[], .func (.func 96) #[] #[], .func (.func 97) #[] #[], .func (.func 98) #[] #[], .func (.func 94) #[] #[]] 149) :: (g3, Ob [.int .i64 0] 31) :: (g2, Ob [.int .i64 0] 3) :: (g1, Ob [.slice Aa_ na_ ca_] 67) :: L) := H9
      have Hz2 := lexSort2 H
      refine st_ret hb (rn_defer en93 (CallsD.mono' (lex_ret Hz2) ?_))
      rintro _ _ w8 ⟨v8, rfl, rfl, H⟩
      exact ⟨v8, rfl, rfl, hR _ _ (.tuple #[.slice Aa_ na_ ca_, .int .i64 0, .int .i64 0]) (res_run (vs := [.slice Aa_ na_ ca_, .int .i64 0, .int .i64 0]) Tryz.results35 ⟨_, _, rfl, resV_own (v := .slice Aa_ na_ ca_) ty67 H rfl 0 rfl rfl rfl rfl, ⟨_, _, rfl, resV_own (v := .int .i64 0) ty3 H rfl 1 rfl rfl rfl rfl, ⟨_, _, rfl, resV_own (v := .int .i64 0) ty31 H rfl 2 rfl rfl rfl rfl, rfl⟩⟩⟩) ⟨_, rfl, I9, _, (hJ7.trans hI9), H.drop 5, by rw [lexE, if_neg hsz, hfr, lex_end toks (by omega)], by rw [lexE, if_neg hsz, hfr, lex_end toks (by omega)]; exact hr_⟩⟩
end Go.Proofs.YtghmjnbpkobooaaGreatDoor
