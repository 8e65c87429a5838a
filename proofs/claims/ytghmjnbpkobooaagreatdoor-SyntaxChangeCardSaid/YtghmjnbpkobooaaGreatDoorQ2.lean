/-
  Walks: what the scanner does at a byte of each class.
-/
import Derived.Test.YtghmjnbpkobooaaGreatDoorQ1
set_option linter.unusedVariables false
set_option linter.unusedSimpArgs false
set_option maxRecDepth 10000
set_option maxHeartbeats 4000000
namespace Go.Proofs.YtghmjnbpkobooaaGreatDoor
open Go Go.RowKit

def placeV (a : Nat) : List PanicEntry := [{ v := .iface 145 (.int .i64 (a : Int)), recovered := false }]
abbrev scB (gS : Nat) (src : ByteArray) (a : Nat) (A : Option Addr) (n c : Nat) : Nat × Obj := (gS, Ob [.string src, .int .i64 (a : Int), .slice A n c] 152)
/-- Tokens read alike in whatever memory. -/
theorem Acc_tk {I I' : Im} {v : Value} {cs : List Value} {l : List Tk} (h : Acc I 4 v cs (l.map encTk)) : Acc I' 4 v cs (l.map encTk) := by
  rcases h with h0 | ⟨g, cap, hv, h1, h2, h3, h4⟩
  · exact .inl h0
  · refine .inr ⟨g, cap, hv, h1, h2, h3, fun j x hx => ?_⟩
    have h5 := h4 j x hx
    rw [List.getElem?_map] at hx
    cases hl : l[j]? with
    | none => rw [hl] at hx; cases hx
    | some t =>
      rw [hl] at hx
      cases hx
      exact tk_iff.2 (tk_iff.1 h5)
def restL (s : ByteArray) (a : Nat) : List UInt8 := s.data.toList.drop a
def spanS (s : ByteArray) (a : Nat) (ks : List Int) : Nat := spanL (clsK ks) (restL s a)
theorem spanS_le (s : ByteArray) (a : Nat) (ks : List Int) (h : a ≤ s.size) : a + spanS s a ks ≤ s.size := by
  have := spanL_le (clsK ks) (restL s a)
  rw [restL, List.length_drop, ← size_data] at this
  unfold spanS restL
  omega
def wordS (s : ByteArray) (a : Nat) (ks : List Int) : ByteArray := s.extract a (a + spanS s a ks)
theorem word_size (s : ByteArray) (a : Nat) (ks : List Int) (h : a ≤ s.size) : (wordS s a ks).size = spanS s a ks := by
  have := spanS_le s a ks h
  unfold wordS
  rw [ByteArray.size_extract]
  omega
theorem I64_nat {a : Nat} (h : a ≤ 1000000) : I64 (a : Int) := by constructor <;> omega
theorem run_c {B I L w} {gS : Nat} {src : ByteArray} {a : Nat} {A : Option Addr} {n c : Nat} {ks : List Int} {v : Value} (H : Hp B I w (scB gS src a A n c :: L)) (hk : RepS encI I 1 ks v) (haS : a ≤ src.size) (hs : src.size ≤ 70000) : Calls Tryz.prog 191 #[.pointer (some ⟨gS, 0, none⟩), v] w (Rt fun r w' => r = .string (wordS src a ks) ∧ Hp B I w' (scB gS src a A n c :: L)) := by
  obtain ⟨s0A, s0c, rfl, s0m, s0M, s0⟩ := RepS.open_ hk
  refine calls_st (n := 40) Tryz.func191 rfl rfl rfl ?_
  intro G bF cs hb hfn hR hP
  simp only [ini]
  refine st_seq ?_
  refine st_region ?_
  refine sr_op rfl rfl (ow_assign (v := .string ⟨#[]⟩) rfl ?_)
  refine sr_nil ?_
  refine st_seq ?_
  refine st_region ?_
  refine sr_op rfl rfl (ow_move (v := .pointer (some ⟨gS, 0, none⟩)) rfl ?_)
  refine sr_op rfl rfl (ow_nilCheck rfl ?_)
  refine sr_op rfl rfl (ow_fieldAddr fd152_1 ty3 rfl rfl (r := 1) rfl ?_)
  refine sr_op rfl rfl (ow_load (v := .int .i64 (a : Int)) ty3 H rfl 0 rfl rfl rfl rfl ?_)
  refine sr_op rfl rfl (ow_assign (v := .int .i64 (a : Int)) rfl ?_)
  refine sr_nil ?_
  refine st_seq ?_
  refine st_block ?_
  refine st_loop ?_
  refine st_live [0, 1, 4, 5] ?_
  refine st_ind (fun d_ m_ w_ => ∃ (i : Nat) (r_ : Sl), d_ = src.size - i ∧ m_ = (0, .pointer (some ⟨gS, 0, none⟩)) :: (1, .slice s0A ks.length s0c) :: (4, .string ⟨#[]⟩) :: (5, .int .i64 (i : Int)) :: r_ ∧ Hp B I w_ ((gS, Ob [.string src, .int .i64 (a : Int), .slice A n c] 152) :: L) ∧ a ≤ i ∧ i ≤ src.size ∧ spanL (clsK ks) (src.data.toList.drop a) = (i - a) + spanL (clsK ks) (src.data.toList.drop i)) _ ⟨a, _, rfl, rfl, H, Nat.le_refl _, haS, by simp⟩ ?_
  rintro _ _ _ ⟨i, r2, rfl, rfl, H, hai, hi, hsp⟩ ih3
  obtain ⟨u, hu⟩ := byte_of src i
  refine st_seq ?_
  refine st_seq ?_
  refine st_region ?_
  refine sr_op rfl rfl (ow_move (v := .int .i64 (i : Int)) rfl ?_)
  refine sr_op rfl rfl (ow_move (v := .pointer (some ⟨gS, 0, none⟩)) rfl ?_)
  refine sr_op rfl rfl (ow_nilCheck rfl ?_)
  refine sr_op rfl rfl (ow_fieldAddr fd152_0 ty9 rfl rfl (r := 0) rfl ?_)
  refine sr_op rfl rfl (ow_load (v := .string src) ty9 H rfl 0 rfl rfl rfl rfl ?_)
  refine sr_op rfl rfl (ow_lenT un9 rfl rfl ?_)
  refine sr_op rfl rfl (ow_lss rfl rfl ?_)
  refine sr_op rfl rfl (ow_move (v := .bool (decide ((i : Int) < (src.size : Int)))) rfl ?_)
  refine sr_cut 10 (fun m_ w_ => ∃ (r_ : Sl) (v_ : Bool), m_ = (27, .bool v_) :: (0, .pointer (some ⟨gS, 0, none⟩)) :: (1, .slice s0A ks.length s0c) :: (4, .string ⟨#[]⟩) :: (5, .int .i64 (i : Int)) :: r_ ∧ Hp B I w_ ((gS, Ob [.string src, .int .i64 (a : Int), .slice A n c] 152) :: L) ∧ v_ = ((decide ((i : Int) < (src.size : Int))) && (inK ks (classI (u.toNat : Int))))) (fun again => ?_) ?_
  · rcases hg : decide ((i : Int) < (src.size : Int)) with _ | _
    · refine sr_pass rfl (j := 7) (d := 17) rfl rfl rfl (u := false) (v := true) rfl rfl ?_
      refine sr_pass rfl (j := 7) (d := 17) rfl rfl rfl (u := false) (v := true) rfl rfl ?_
      refine sr_pass rfl (j := 7) (d := 17) rfl rfl rfl (u := false) (v := true) rfl rfl ?_
      refine sr_pass rfl (j := 7) (d := 17) rfl rfl rfl (u := false) (v := true) rfl rfl ?_
      refine sr_pass rfl (j := 7) (d := 17) rfl rfl rfl (u := false) (v := true) rfl rfl ?_
      refine sr_pass rfl (j := 7) (d := 17) rfl rfl rfl (u := false) (v := true) rfl rfl ?_
      refine sr_pass rfl (j := 7) (d := 17) rfl rfl rfl (u := false) (v := true) rfl rfl ?_
      refine sr_pass rfl (j := 7) (d := 17) rfl rfl rfl (u := false) (v := true) rfl rfl ?_
      refine sr_pass rfl (j := 7) (d := 17) rfl rfl rfl (u := false) (v := true) rfl rfl ?_
      refine sr_op rfl rfl (ow_pick (v := .bool false) rfl rfl ?_)
      exact sr_live [27, 0, 1, 4, 5] (again _ _ ⟨_, _, rfl, H, by rw [hg] <;> rfl⟩)
    · refine sr_want rfl (j := 7) (d := 17) rfl rfl rfl (v := true) rfl rfl (ow_move (v := .slice s0A ks.length s0c) rfl ?_)
      refine sr_want rfl (j := 7) (d := 17) rfl rfl rfl (v := true) rfl rfl (ow_move (v := .pointer (some ⟨gS, 0, none⟩)) rfl ?_)
      refine sr_want rfl (j := 7) (d := 17) rfl rfl rfl (v := true) rfl rfl (ow_nilCheck rfl ?_)
      refine sr_want rfl (j := 7) (d := 17) rfl rfl rfl (v := true) rfl rfl (ow_fieldAddr fd152_0 ty9 rfl rfl (r := 0) rfl ?_)
      refine sr_want rfl (j := 7) (d := 17) rfl rfl rfl (v := true) rfl rfl (ow_load (v := .string src) ty9 H rfl 0 rfl rfl rfl rfl ?_)
      refine sr_want rfl (j := 7) (d := 17) rfl rfl rfl (v := true) rfl rfl (ow_move (v := .int .i64 (i : Int)) rfl ?_)
      refine sr_want rfl (j := 7) (d := 17) rfl rfl rfl (v := true) rfl rfl (ow_indexT un9 rfl rfl (by omega) (u := u) (hu (by simp at hg; omega)).1 ?_)
      refine sr_want rfl (j := 7) (d := 17) rfl rfl rfl (v := true) rfl rfl (ow_call en99 rfl (class_c H (u.toNat : Int)) ?_)
      rintro _ _ ⟨rfl, H⟩
      refine sr_want rfl (j := 7) (d := 17) rfl rfl rfl (v := true) rfl rfl (ow_call en234 rfl (containsI_c H s0 (classI (u.toNat : Int))) ?_)
      rintro _ _ ⟨rfl, H⟩
      refine sr_op rfl rfl (ow_pick (v := .bool (inK ks (classI (u.toNat : Int)))) rfl rfl ?_)
      exact sr_live [27, 0, 1, 4, 5] (again _ _ ⟨_, _, rfl, H, by rw [hg] <;> rfl⟩)
  rintro _ _ ⟨r, _, rfl, H, rfl⟩
  refine sr_nil ?_
  refine st_cond ((decide ((i : Int) < (src.size : Int))) && (inK ks (classI (u.toNat : Int)))) rfl (fun hc4 => ?_) (fun hc4 => ?_)
  · obtain ⟨hi2, hst⟩ := span_step hc4 hu
    refine st_skip ?_
    refine st_block ?_
    refine st_region ?_
    refine sr_op rfl rfl (ow_move (v := .int .i64 (i : Int)) rfl ?_)
    refine sr_op rfl rfl (ow_add (r := ((i + 1 : Nat) : Int)) rfl rfl (inc_i64 (by omega)) ?_)
    refine sr_op rfl rfl (ow_assign (v := .int .i64 ((i + 1 : Nat) : Int)) rfl ?_)
    refine sr_nil ?_
    refine st_inBlock ?_
    exact st_inLoop (st_live [0, 1, 4, 5] (ih3 _ _ _ (by omega) ⟨i + 1, _, rfl, rfl, H, by omega, by omega, by rw [hsp, hst]; omega⟩))
  · have hend := span_end hc4 hu
    refine st_exit rfl ?_
    refine st_seq ?_
    refine st_draw (F := (fun w_ => ∃ I2, Le I I2 ∧ Hp B I2 w_ [(gS, Ob [.string src, .int .i64 (a : Int), .slice A n c] 152)])) (p0 := [0, 1, 2, 3, 4, 5, 6, 7, 8, 9, 10]) (plan := []) [] [] [(4, .string (src.extract a i)), (39, .string (src.extract a i)), (38, .int .i64 (i : Int)), (37, .int .i64 (a : Int)), (36, .pointer (some ⟨gS, 1, none⟩)), (35, .pointer (some ⟨gS, 0, none⟩)), (34, .pointer (some ⟨gS, 0, none⟩)), (33, .string src), (32, .pointer (some ⟨gS, 0, none⟩)), (31, .pointer (some ⟨gS, 0, none⟩)), (30, .pointer (some ⟨gS, 0, none⟩))] (by kernel_rfl) rfl ?_ ⟨_, Le.refl _, H.drew.pick [0] (by decide)⟩ ?_
    · refine ⟨kn_op rfl rfl (wantB_none rfl) fun _ hF2 => ?_, ?_⟩
      · obtain ⟨_, hle2, H2⟩ := hF2
        refine  (ow_move (v := .pointer (some ⟨gS, 0, none⟩)) rfl ?_)
        exact ⟨rfl, rfl⟩
      refine ⟨kn_op rfl rfl (wantB_none rfl) fun _ hF2 => ?_, ?_⟩
      · obtain ⟨_, hle2, H2⟩ := hF2
        refine  (ow_nilCheck rfl ?_)
        exact ⟨rfl, rfl⟩
      refine ⟨kn_op rfl rfl (wantB_none rfl) fun _ hF2 => ?_, ?_⟩
      · obtain ⟨_, hle2, H2⟩ := hF2
        refine  (ow_fieldAddr fd152_0 ty9 rfl rfl (r := 0) rfl ?_)
        exact ⟨rfl, rfl⟩
      refine ⟨kn_op rfl rfl (wantB_none rfl) fun _ hF2 => ?_, ?_⟩
      · obtain ⟨_, hle2, H2⟩ := hF2
        refine  (ow_load (v := .string src) ty9 H2 rfl 0 rfl rfl rfl rfl ?_)
        exact ⟨rfl, rfl⟩
      refine ⟨kn_op rfl rfl (wantB_none rfl) fun _ hF2 => ?_, ?_⟩
      · obtain ⟨_, hle2, H2⟩ := hF2
        refine  (ow_move (v := .pointer (some ⟨gS, 0, none⟩)) rfl ?_)
        exact ⟨rfl, rfl⟩
      refine ⟨kn_op rfl rfl (wantB_none rfl) fun _ hF2 => ?_, ?_⟩
      · obtain ⟨_, hle2, H2⟩ := hF2
        refine  (ow_nilCheck rfl ?_)
        exact ⟨rfl, rfl⟩
      refine ⟨kn_op rfl rfl (wantB_none rfl) fun _ hF2 => ?_, ?_⟩
      · obtain ⟨_, hle2, H2⟩ := hF2
        refine  (ow_fieldAddr fd152_1 ty3 rfl rfl (r := 1) rfl ?_)
        exact ⟨rfl, rfl⟩
      refine ⟨kn_op rfl rfl (wantB_none rfl) fun _ hF2 => ?_, ?_⟩
      · obtain ⟨_, hle2, H2⟩ := hF2
        refine  (ow_load (v := .int .i64 (a : Int)) ty3 H2 rfl 0 rfl rfl rfl rfl ?_)
        exact ⟨rfl, rfl⟩
      refine ⟨kn_op rfl rfl (wantB_none rfl) fun _ hF2 => ?_, ?_⟩
      · obtain ⟨_, hle2, H2⟩ := hF2
        refine  (ow_move (v := .int .i64 (i : Int)) rfl ?_)
        exact ⟨rfl, rfl⟩
      refine ⟨kn_op rfl rfl (wantB_none rfl) fun _ hF2 => ?_, ?_⟩
      · obtain ⟨_, hle2, H2⟩ := hF2
        refine  (ow_cutT (a := a) (c := i) un9 rfl (.inr ⟨_, rfl⟩) (.inr ⟨_, rfl⟩) (by omega) (by omega) ?_)
        exact ⟨rfl, rfl⟩
      refine ⟨kn_op rfl rfl (wantB_none rfl) fun _ hF2 => ?_, ?_⟩
      · obtain ⟨_, hle2, H2⟩ := hF2
        refine  (ow_assign (v := .string (src.extract a i)) rfl ?_)
        exact ⟨rfl, rfl⟩
      exact trivial
    have H := H.drew
    refine cw_nil ?_
    refine st_ret hb (hR _ _ (.string (src.extract a i)) (res_run (vs := [.string (src.extract a i)]) Tryz.results191 ⟨_, _, rfl, rfl, rfl⟩) ?_)
    exact ⟨_, rfl, congrArg Value.string (by unfold wordS spanS restL; rw [hsp, hend]; congr 1; omega), H⟩
theorem wrong_c {B I L w} {gS : Nat} {src : ByteArray} {a : Nat} {A : Option Addr} {n c : Nat} (H : Hp B I w (scB gS src a A n c :: L)) : Calls Tryz.prog 94 #[.pointer (some ⟨gS, 0, none⟩)] w (Rp (fun _ _ => False) (fun ch w' => ch = placeV a ∧ Hp B I w' (scB gS src a A n c :: L))) := by
  refine calls_st (n := 7) Tryz.func94 rfl rfl rfl ?_
  intro G bF cs hb hfn hR hP
  simp only [ini]
  refine st_region ?_
  refine sr_op rfl rfl (ow_move (v := .pointer (some ⟨gS, 0, none⟩)) rfl ?_)
  refine sr_op rfl rfl (ow_nilCheck rfl ?_)
  refine sr_op rfl rfl (ow_fieldAddr fd152_1 ty3 rfl rfl (r := 1) rfl ?_)
  refine sr_op rfl rfl (ow_load (v := .int .i64 (a : Int)) ty3 H rfl 0 rfl rfl rfl rfl ?_)
  refine sr_op rfl rfl (ow_iface (v := .int .i64 (a : Int)) Tryz.underlying145 rfl rfl ?_)
  refine sr_op rfl rfl (ow_panic rfl ?_)
  exact (hP _ _ ⟨rfl, H⟩).one
theorem space_c {B I L w} {gS : Nat} {src : ByteArray} {a : Nat} {A : Option Addr} {n c : Nat} (H : Hp B I w (scB gS src a A n c :: L)) (haS : a ≤ src.size) (hs : src.size ≤ 70000) : Calls Tryz.prog 95 #[.pointer (some ⟨gS, 0, none⟩)] w (Rt fun r w' => Hp B I w' (scB gS src (a + spanS src a [1]) A n c :: L)) := by
  have hle := spanS_le src a [1] haS
  refine calls_st (n := 13) Tryz.func95 rfl rfl rfl ?_
  intro G bF cs hb hfn hR hP
  simp only [ini]
  refine st_draw (F := (fun w_ => ∃ I2, Le I I2 ∧ Hp B I2 w_ [(gS, Ob [.string src, .int .i64 (a : Int), .slice A n c] 152)])) (p0 := [0, 1, 2, 3, 4]) (plan := [(5, [], [0, 1, 2, 3, 4]), (6, [7, 8, 9, 10], [0, 1, 2, 3]), (11, [], [])]) [] [] [(6, .pointer (some ⟨gS, 0, none⟩)), (5, .int .i64 (a : Int)), (4, .pointer (some ⟨gS, 1, none⟩)), (3, .pointer (some ⟨gS, 0, none⟩)), (2, .pointer (some ⟨gS, 0, none⟩))] (by kernel_rfl) rfl ?_ ⟨_, Le.refl _, H.drew.pick [0] (by decide)⟩ ?_
  · refine ⟨kn_op rfl rfl (wantB_none rfl) fun _ hF2 => ?_, ?_⟩
    · obtain ⟨_, hle2, H2⟩ := hF2
      refine  (ow_move (v := .pointer (some ⟨gS, 0, none⟩)) rfl ?_)
      exact ⟨rfl, rfl⟩
    refine ⟨kn_op rfl rfl (wantB_none rfl) fun _ hF2 => ?_, ?_⟩
    · obtain ⟨_, hle2, H2⟩ := hF2
      refine  (ow_nilCheck rfl ?_)
      exact ⟨rfl, rfl⟩
    refine ⟨kn_op rfl rfl (wantB_none rfl) fun _ hF2 => ?_, ?_⟩
    · obtain ⟨_, hle2, H2⟩ := hF2
      refine  (ow_fieldAddr fd152_1 ty3 rfl rfl (r := 1) rfl ?_)
      exact ⟨rfl, rfl⟩
    refine ⟨kn_op rfl rfl (wantB_none rfl) fun _ hF2 => ?_, ?_⟩
    · obtain ⟨_, hle2, H2⟩ := hF2
      refine  (ow_load (v := .int .i64 (a : Int)) ty3 H2 rfl 0 rfl rfl rfl rfl ?_)
      exact ⟨rfl, rfl⟩
    refine ⟨kn_op rfl rfl (wantB_none rfl) fun _ hF2 => ?_, ?_⟩
    · obtain ⟨_, hle2, H2⟩ := hF2
      refine  (ow_move (v := .pointer (some ⟨gS, 0, none⟩)) rfl ?_)
      exact ⟨rfl, rfl⟩
    exact trivial
  have H := H.drew
  refine cw_op rfl (wantB_none rfl) (ow_buildSlice H (e := 3) (ps := [(0, .int .i64 1)]) rfl [.int .i64 1] (fun _ => by kernel_rfl) (fun g1 _ H => ?_))
  obtain ⟨I2, hI2, H, hl2⟩ := lit_done (enc := encI) (sz := 1) (n := 1) [1] rfl (by omega) H ⟨(i_iff.2 ⟨rfl, by constructor <;> decide⟩), rfl, rfl⟩
  refine af_some [] (fun w_ => ∃ I2, Le I2 I2 ∧ Hp B I2 w_ [(gS, Ob [.string src, .int .i64 (a : Int), .slice A n c] 152)]) rfl ⟨_, Le.refl _, H.pick [0] (by decide)⟩ ?_ ?_
  · refine ⟨kn_op rfl rfl (wantB_none rfl) fun _ hF2 => ?_, ?_⟩
    · obtain ⟨_, hle2, H2⟩ := hF2
      refine  (ow_move (v := .pointer (some ⟨gS, 0, none⟩)) rfl ?_)
      exact ⟨rfl, rfl⟩
    refine ⟨kn_op rfl rfl (wantB_none rfl) fun _ hF2 => ?_, ?_⟩
    · obtain ⟨_, hle2, H2⟩ := hF2
      refine  (ow_nilCheck rfl ?_)
      exact ⟨rfl, rfl⟩
    refine ⟨kn_op rfl rfl (wantB_none rfl) fun _ hF2 => ?_, ?_⟩
    · obtain ⟨_, hle2, H2⟩ := hF2
      refine  (ow_fieldAddr fd152_1 ty3 rfl rfl (r := 1) rfl ?_)
      exact ⟨rfl, rfl⟩
    refine ⟨kn_op rfl rfl (wantB_none rfl) fun _ hF2 => ?_, ?_⟩
    · obtain ⟨_, hle2, H2⟩ := hF2
      refine  (ow_load (v := .int .i64 (a : Int)) ty3 H2 rfl 0 rfl rfl rfl rfl ?_)
      exact ⟨rfl, rfl⟩
    refine ⟨kn_op rfl rfl (wantB_none rfl) fun _ hF2 => ?_, ?_⟩
    · obtain ⟨_, hle2, H2⟩ := hF2
      refine  (ow_move (v := .pointer (some ⟨gS, 0, none⟩)) rfl ?_)
      exact ⟨rfl, rfl⟩
    exact trivial
  refine cw_op rfl (wantB_none rfl) (ow_call en191 rfl (run_c H hl2 haS hs) ?_)
  rintro _ _ ⟨rfl, H⟩
  refine af_some [(12, .pointer (some ⟨gS, 1, none⟩)), (11, .pointer (some ⟨gS, 0, none⟩)), (10, .int .i64 ((a + (wordS src a [1]).size : Nat) : Int)), (9, .int .i64 ((wordS src a [1]).size : Int))] (fun w_ => ∃ I2, Le I2 I2 ∧ Hp B I2 w_ [(gS, Ob [.string src, .int .i64 (a : Int), .slice A n c] 152)]) rfl ⟨_, Le.refl _, H.pick [0] (by decide)⟩ ?_ ?_
  · refine ⟨kn_op rfl rfl (wantB_none rfl) fun _ hF2 => ?_, ?_⟩
    · obtain ⟨_, hle2, H2⟩ := hF2
      refine  (ow_move (v := .pointer (some ⟨gS, 0, none⟩)) rfl ?_)
      exact ⟨rfl, rfl⟩
    refine ⟨kn_op rfl rfl (wantB_none rfl) fun _ hF2 => ?_, ?_⟩
    · obtain ⟨_, hle2, H2⟩ := hF2
      refine  (ow_nilCheck rfl ?_)
      exact ⟨rfl, rfl⟩
    refine ⟨kn_op rfl rfl (wantB_none rfl) fun _ hF2 => ?_, ?_⟩
    · obtain ⟨_, hle2, H2⟩ := hF2
      refine  (ow_fieldAddr fd152_1 ty3 rfl rfl (r := 1) rfl ?_)
      exact ⟨rfl, rfl⟩
    refine ⟨kn_op rfl rfl (wantB_none rfl) fun _ hF2 => ?_, ?_⟩
    · obtain ⟨_, hle2, H2⟩ := hF2
      refine  (ow_load (v := .int .i64 (a : Int)) ty3 H2 rfl 0 rfl rfl rfl rfl ?_)
      exact ⟨rfl, rfl⟩
    refine ⟨kn_op rfl rfl (wantB_none rfl) fun _ hF2 => ?_, ?_⟩
    · obtain ⟨_, hle2, H2⟩ := hF2
      refine  (ow_lenT un9 rfl rfl ?_)
      exact ⟨rfl, rfl⟩
    refine ⟨kn_op rfl rfl (wantB_none rfl) fun _ hF2 => ?_, ?_⟩
    · obtain ⟨_, hle2, H2⟩ := hF2
      refine  (ow_add (r := ((a + (wordS src a [1]).size : Nat) : Int)) rfl rfl (by rw [wrap_i64 (by have := word_size src a [1] haS; omega) (by have := word_size src a [1] haS; omega)]; rfl) ?_)
      exact ⟨rfl, rfl⟩
    refine ⟨kn_op rfl rfl (wantB_none rfl) fun _ hF2 => ?_, ?_⟩
    · obtain ⟨_, hle2, H2⟩ := hF2
      refine  (ow_nilCheck rfl ?_)
      exact ⟨rfl, rfl⟩
    refine ⟨kn_op rfl rfl (wantB_none rfl) fun _ hF2 => ?_, ?_⟩
    · obtain ⟨_, hle2, H2⟩ := hF2
      refine  (ow_fieldAddr fd152_1 ty3 rfl rfl (r := 1) rfl ?_)
      exact ⟨rfl, rfl⟩
    exact trivial
  refine cw_op rfl (wantB_none rfl) (ow_store ty3 H rfl (v := .int .i64 ((a + (wordS src a [1]).size : Nat) : Int)) rfl [.int .i64 ((a + (wordS src a [1]).size : Nat) : Int)] rfl rfl rfl 0 rfl rfl (fun _ H => ?_))
  refine af_none ?_
  refine cw_nil ?_
  refine st_end hb (hR _ _ (.tuple #[]) (res_run (vs := []) Tryz.results95 rfl) ?_)
  exact ⟨_, rfl, by rw [← word_size src a [1] haS]; exact Hp.back H hI2⟩
theorem add_c {B I L w} {gS : Nat} {src : ByteArray} {a : Nat} {Aa : Option Addr} {na ca : Nat} {cs_ : List Value} {toks : List Tk} {t : Tk} {us : List Value} (tx : ByteArray) (H : Hp B I w (scB gS src a Aa na ca :: (rowL (.slice Aa na ca) cs_ 71 ++ L))) (ha : Acc I 4 (.slice Aa na ca) cs_ (toks.map encTk)) (htk : RepL I (encTk t) us) (hT : toks.length ≤ 1000000) (hA : a + tx.size ≤ 1000000) :
    Calls Tryz.prog 192 #[.pointer (some ⟨gS, 0, none⟩), .string tx, .agg us.toArray] w (Rp (fun r w' => validB t = true ∧ ∃ Aa' na' ca' cs', Hp B I w' (scB gS src (a + tx.size) Aa' na' ca' :: (rowL (.slice Aa' na' ca') cs' 71 ++ L)) ∧ Acc I 4 (.slice Aa' na' ca') cs' ((toks ++ [mkTk t.kind t.text t.n (a : Int)]).map encTk)) (fun ch w' => validB t = false ∧ ch = placeV a ∧ Hp B I w' (scB gS src a Aa na ca :: (rowL (.slice Aa na ca) cs_ 71 ++ L)))) := by
  have d0 := htk
  obtain ⟨rfl, d0_0, d0_1, d0_2, d0_3⟩ := tk_iff.1 htk
  refine calls_st (n := 38) Tryz.func192 rfl rfl rfl ?_
  intro G bF cs hb hfn hR hP
  simp only [ini]
  refine st_seq ?_
  refine st_region ?_
  refine sr_op rfl rfl (ow_box H (v := .agg #[.int .i64 t.kind, .string t.text, .int .i64 t.n, .int .i64 t.at_]) rfl [.int .i64 t.kind, .string t.text, .int .i64 t.n, .int .i64 t.at_] rfl (fun g1 _ H => ?_))
  refine sr_nil ?_
  refine st_seq ?_
  refine st_seq ?_
  refine st_region ?_
  refine sr_op rfl rfl (ow_load (v := .agg #[.int .i64 t.kind, .string t.text, .int .i64 t.n, .int .i64 t.at_]) ty71 H rfl 0 rfl rfl rfl rfl ?_)
  refine sr_op rfl rfl (ow_call en100 rfl (valid_c H d0) ?_)
  rintro _ _ ⟨rfl, H⟩
  refine sr_op rfl rfl (ow_not rfl ?_)
  refine sr_nil ?_
  refine st_cond (!(validB t)) rfl (fun hc2 => ?_) (fun hc2 => ?_)
  · have hv := bnt hc2
    refine st_region ?_
    refine sr_op rfl rfl (ow_move (v := .pointer (some ⟨gS, 0, none⟩)) rfl ?_)
    refine sr_op rfl rfl (ow_nilCheck rfl ?_)
    refine sr_op rfl rfl (ow_fieldAddr fd152_1 ty3 rfl rfl (r := 1) rfl ?_)
    refine sr_op rfl rfl (ow_load (v := .int .i64 (a : Int)) ty3 H rfl 1 rfl rfl rfl rfl ?_)
    refine sr_op rfl rfl (ow_iface (v := .int .i64 (a : Int)) Tryz.underlying145 rfl rfl ?_)
    refine sr_op rfl rfl (ow_panic rfl ?_)
    exact (hP _ _ ⟨hv, rfl, H.drop 1⟩).one
  · have hv := bnf hc2
    refine st_skip ?_
    refine st_seq ?_
    refine st_region ?_
    refine sr_op rfl rfl (ow_move (v := .pointer (some ⟨gS, 0, none⟩)) rfl ?_)
    refine sr_op rfl rfl (ow_nilCheck rfl ?_)
    refine sr_op rfl rfl (ow_fieldAddr fd152_1 ty3 rfl rfl (r := 1) rfl ?_)
    refine sr_op rfl rfl (ow_load (v := .int .i64 (a : Int)) ty3 H rfl 1 rfl rfl rfl rfl ?_)
    refine sr_op rfl rfl (ow_fieldAddr fd71_3 ty3 rfl rfl (r := 3) rfl ?_)
    refine sr_op rfl rfl (ow_store ty3 H rfl (v := .int .i64 (a : Int)) rfl [.int .i64 (a : Int)] rfl rfl rfl 0 rfl rfl (fun _ H => ?_))
    refine sr_nil ?_
    refine st_seq ?_
    refine st_draw (F := (fun w_ => ∃ I2, Le I I2 ∧ Hp B I2 w_ [(g1, Ob [.int .i64 t.kind, .string t.text, .int .i64 t.n, .int .i64 (a : Int)] 71), (gS, Ob [.string src, .int .i64 (a : Int), .slice Aa na ca] 152)])) (p0 := [0, 1, 2, 3, 4, 5]) (plan := [(6, [], [0, 1, 2, 3, 4]), (7, [8, 9], [0]), (10, [], [])]) [] [] [(24, .agg #[.int .i64 t.kind, .string t.text, .int .i64 t.n, .int .i64 (a : Int)]), (23, .slice Aa na ca), (22, .pointer (some ⟨gS, 2, none⟩)), (21, .pointer (some ⟨gS, 0, none⟩)), (20, .pointer (some ⟨gS, 0, none⟩)), (19, .pointer (some ⟨gS, 0, none⟩))] (by kernel_rfl) rfl ?_ ⟨_, Le.refl _, H.drew.pick [0, 1] (by decide)⟩ ?_
    · refine ⟨kn_op rfl rfl (wantB_none rfl) fun _ hF2 => ?_, ?_⟩
      · obtain ⟨_, hle2, H2⟩ := hF2
        refine  (ow_move (v := .pointer (some ⟨gS, 0, none⟩)) rfl ?_)
        exact ⟨rfl, rfl⟩
      refine ⟨kn_op rfl rfl (wantB_none rfl) fun _ hF2 => ?_, ?_⟩
      · obtain ⟨_, hle2, H2⟩ := hF2
        refine  (ow_move (v := .pointer (some ⟨gS, 0, none⟩)) rfl ?_)
        exact ⟨rfl, rfl⟩
      refine ⟨kn_op rfl rfl (wantB_none rfl) fun _ hF2 => ?_, ?_⟩
      · obtain ⟨_, hle2, H2⟩ := hF2
        refine  (ow_nilCheck rfl ?_)
        exact ⟨rfl, rfl⟩
      refine ⟨kn_op rfl rfl (wantB_none rfl) fun _ hF2 => ?_, ?_⟩
      · obtain ⟨_, hle2, H2⟩ := hF2
        refine  (ow_fieldAddr fd152_2 ty67 rfl rfl (r := 2) rfl ?_)
        exact ⟨rfl, rfl⟩
      refine ⟨kn_op rfl rfl (wantB_none rfl) fun _ hF2 => ?_, ?_⟩
      · obtain ⟨_, hle2, H2⟩ := hF2
        refine  (ow_load (v := .slice Aa na ca) ty67 H2 rfl 1 rfl rfl rfl rfl ?_)
        exact ⟨rfl, rfl⟩
      refine ⟨kn_op rfl rfl (wantB_none rfl) fun _ hF2 => ?_, ?_⟩
      · obtain ⟨_, hle2, H2⟩ := hF2
        refine  (ow_load (v := .agg #[.int .i64 t.kind, .string t.text, .int .i64 t.n, .int .i64 (a : Int)]) ty71 H2 rfl 0 rfl rfl rfl rfl ?_)
        exact ⟨rfl, rfl⟩
      exact trivial
    have H := H.drew
    refine cw_op rfl (wantB_none rfl) (ow_buildSlice H (e := 71) (ps := [(0, .agg #[.int .i64 t.kind, .string t.text, .int .i64 t.n, .int .i64 (a : Int)])]) rfl [.int .i64 t.kind, .string t.text, .int .i64 t.n, .int .i64 (a : Int)] (fun _ => by kernel_rfl) (fun g3 _ H => ?_))
    refine af_some [] (fun w_ => ∃ I2, Le I I2 ∧ Hp B I2 w_ [(g3, Ob [.int .i64 t.kind, .string t.text, .int .i64 t.n, .int .i64 (a : Int)] 71), (g1, Ob [.int .i64 t.kind, .string t.text, .int .i64 t.n, .int .i64 (a : Int)] 71), (gS, Ob [.string src, .int .i64 (a : Int), .slice Aa na ca] 152)]) rfl ⟨_, Le.refl _, H.pick [0, 1, 2] (by decide)⟩ ?_ ?_
    · refine ⟨kn_op rfl rfl (wantB_none rfl) fun _ hF2 => ?_, ?_⟩
      · obtain ⟨_, hle2, H2⟩ := hF2
        refine  (ow_move (v := .pointer (some ⟨gS, 0, none⟩)) rfl ?_)
        exact ⟨rfl, rfl⟩
      refine ⟨kn_op rfl rfl (wantB_none rfl) fun _ hF2 => ?_, ?_⟩
      · obtain ⟨_, hle2, H2⟩ := hF2
        refine  (ow_move (v := .pointer (some ⟨gS, 0, none⟩)) rfl ?_)
        exact ⟨rfl, rfl⟩
      refine ⟨kn_op rfl rfl (wantB_none rfl) fun _ hF2 => ?_, ?_⟩
      · obtain ⟨_, hle2, H2⟩ := hF2
        refine  (ow_nilCheck rfl ?_)
        exact ⟨rfl, rfl⟩
      refine ⟨kn_op rfl rfl (wantB_none rfl) fun _ hF2 => ?_, ?_⟩
      · obtain ⟨_, hle2, H2⟩ := hF2
        refine  (ow_fieldAddr fd152_2 ty67 rfl rfl (r := 2) rfl ?_)
        exact ⟨rfl, rfl⟩
      refine ⟨kn_op rfl rfl (wantB_none rfl) fun _ hF2 => ?_, ?_⟩
      · obtain ⟨_, hle2, H2⟩ := hF2
        refine  (ow_load (v := .slice Aa na ca) ty67 H2 rfl 2 rfl rfl rfl rfl ?_)
        exact ⟨rfl, rfl⟩
      exact trivial
    refine cw_op rfl (wantB_none rfl) (ow_append1 sl67 ty71 rfl rfl [(g1, Ob [.int .i64 t.kind, .string t.text, .int .i64 t.n, .int .i64 (a : Int)] 71), (gS, Ob [.string src, .int .i64 (a : Int), .slice Aa na ca] 152)] (v := .slice Aa na ca) (cs := cs_) (L := L) H ha rfl rfl (((tk_iff (t := mkTk t.kind t.text t.n (a : Int))).2 ⟨rfl, d0_0, d0_1, d0_2, I64_nat (by omega)⟩)) (rfl) (rfl) (by simp only [List.length_map]; omega) (by simp only [List.length_map]; omega) (fun va4 cs5 _ H ha => ?_))
    obtain ⟨Aa6, na6, ca6, rfl⟩ := Acc.form ha
    refine af_some [(28, .pointer (some ⟨gS, 2, none⟩)), (27, .pointer (some ⟨gS, 0, none⟩))] (fun w_ => ∃ I2, Le I I2 ∧ Hp B I2 w_ [(g1, Ob [.int .i64 t.kind, .string t.text, .int .i64 t.n, .int .i64 (a : Int)] 71), (gS, Ob [.string src, .int .i64 (a : Int), .slice Aa na ca] 152)]) rfl ⟨_, Le.refl _, H.pick [0, 1] (by decide)⟩ ?_ ?_
    · refine ⟨kn_op rfl rfl (wantB_none rfl) fun _ hF2 => ?_, ?_⟩
      · obtain ⟨_, hle2, H2⟩ := hF2
        refine  (ow_move (v := .pointer (some ⟨gS, 0, none⟩)) rfl ?_)
        exact ⟨rfl, rfl⟩
      refine ⟨kn_op rfl rfl (wantB_none rfl) fun _ hF2 => ?_, ?_⟩
      · obtain ⟨_, hle2, H2⟩ := hF2
        refine  (ow_nilCheck rfl ?_)
        exact ⟨rfl, rfl⟩
      refine ⟨kn_op rfl rfl (wantB_none rfl) fun _ hF2 => ?_, ?_⟩
      · obtain ⟨_, hle2, H2⟩ := hF2
        refine  (ow_fieldAddr fd152_2 ty67 rfl rfl (r := 2) rfl ?_)
        exact ⟨rfl, rfl⟩
      exact trivial
    refine cw_op rfl (wantB_none rfl) (ow_store ty67 H rfl (v := .slice Aa6 na6 ca6) rfl [.slice Aa6 na6 ca6] rfl rfl rfl 1 rfl rfl (fun _ H => ?_))
    refine af_none ?_
    refine cw_nil ?_
    refine st_region ?_
    refine sr_op rfl rfl (ow_move (v := .pointer (some ⟨gS, 0, none⟩)) rfl ?_)
    refine sr_op rfl rfl (ow_nilCheck rfl ?_)
    refine sr_op rfl rfl (ow_fieldAddr fd152_1 ty3 rfl rfl (r := 1) rfl ?_)
    refine sr_op rfl rfl (ow_load (v := .int .i64 (a : Int)) ty3 H rfl 1 rfl rfl rfl rfl ?_)
    refine sr_op rfl rfl (ow_move (v := .string tx) rfl ?_)
    refine sr_op rfl rfl (ow_lenT un9 rfl rfl ?_)
    refine sr_op rfl rfl (ow_add (r := ((a + tx.size : Nat) : Int)) rfl rfl (by rw [wrap_i64 (by have := hA; omega) (by have := hA; omega)]; rfl) ?_)
    refine sr_op rfl rfl (ow_nilCheck rfl ?_)
    refine sr_op rfl rfl (ow_fieldAddr fd152_1 ty3 rfl rfl (r := 1) rfl ?_)
    refine sr_op rfl rfl (ow_store ty3 H rfl (v := .int .i64 ((a + tx.size : Nat) : Int)) rfl [.int .i64 ((a + tx.size : Nat) : Int)] rfl rfl rfl 1 rfl rfl (fun _ H => ?_))
    refine sr_nil ?_
    refine st_end hb (hR _ _ (.tuple #[]) (res_run (vs := []) Tryz.results192 rfl) ?_)
    refine ⟨hv, _, _, _, _, H.drop 1, ?_⟩
    rw [List.map_append]
    exact ha
end Go.Proofs.YtghmjnbpkobooaaGreatDoor
