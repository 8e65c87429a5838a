/-
  Walks: the examples with which the statements begin.
-/
import Derived.Test.YtbbflenaeihmeaaDoorP18
set_option linter.unusedVariables false
set_option linter.unusedSimpArgs false
set_option maxRecDepth 10000
set_option maxHeartbeats 4000000
namespace Go.Proofs.YtbbflenaeihmeaaDoor
open Go Go.RowKit

def headS : ByteArray := ⟨#[104, 101, 97, 100]⟩
def boardS : ByteArray := ⟨#[98, 111, 97, 114, 100]⟩
def letterS : ByteArray := ⟨#[108, 101, 116, 116, 101, 114]⟩
def houseS : ByteArray := ⟨#[104, 111, 117, 115, 101]⟩
def someE : Ex := ⟨1, 0, 0, headS, []⟩
def weightE : Ex := ⟨2, 5, 0, boardS, []⟩
def uptoE : Ex := ⟨4, 100, 0, ⟨#[]⟩, [someE, weightE]⟩
def ofE : Ex := ⟨3, 2, 0, ⟨#[]⟩, [someE, weightE]⟩
def smallP : Po := ⟨houseS, [letterS], [headS, boardS], [⟨letterS, 0, 7, uptoE⟩], ofE, 3⟩
theorem some_rep (I : Im) : RepL I (encEx someE) [.int .i64 1, .int .i64 0, .int .i64 0, .string headS, .slice none 0 0] :=
  ex_iff.2 ⟨_, rfl, by unfold I64 someE; decide, by unfold I64 someE; decide, by unfold I64 someE; decide, by unfold S63 someE headS; decide, RepS.nil _ _ _⟩
theorem weight_rep (I : Im) : RepL I (encEx weightE) [.int .i64 2, .int .i64 5, .int .i64 0, .string boardS, .slice none 0 0] :=
  ex_iff.2 ⟨_, rfl, by unfold I64 weightE; decide, by unfold I64 weightE; decide, by unfold I64 weightE; decide, by unfold S63 weightE boardS; decide, RepS.nil _ _ _⟩
theorem small_c {B I L w} (H : Hp B I w L) : Calls Tryd.prog 46 #[] w (Rt fun r w' => ∃ I' us, Le I I' ∧ Hp B I' w' L ∧ r = .agg us.toArray ∧ RepL I' (encPo smallP) us) := by
  refine calls_st (n := 20) Tryd.func46 rfl rfl rfl ?_
  intro G bF cs hb hfn hR hP
  simp only [ini]
  refine st_seq ?_
  refine st_region ?_
  refine sr_op rfl rfl (ow_alloc ty28 H [.string ⟨#[]⟩, .slice none 0 0, .slice none 0 0, .slice none 0 0, .int .i64 0, .int .i64 0, .int .i64 0, .string ⟨#[]⟩, .slice none 0 0, .int .i64 0] rfl (fun g1 _ H => ?_))
  refine sr_nil ?_
  refine st_seq ?_
  refine st_region ?_
  refine sr_op rfl rfl (ow_build (ps := [(0, .int .i64 2), (1, .int .i64 5), (3, .string ⟨#[98, 111, 97, 114, 100]⟩)]) (v := .agg #[.int .i64 2, .int .i64 5, .int .i64 0, .string ⟨#[98, 111, 97, 114, 100]⟩, .slice none 0 0]) rfl (fun _ => by kernel_rfl) ?_)
  refine sr_op rfl rfl (ow_alloc ty26 H [.int .i64 0, .int .i64 0, .int .i64 0, .string ⟨#[]⟩, .slice none 0 0] rfl (fun g2 _ H => ?_))
  refine sr_op rfl rfl (ow_store ty26 H rfl (v := .agg #[.int .i64 2, .int .i64 5, .int .i64 0, .string ⟨#[98, 111, 97, 114, 100]⟩, .slice none 0 0]) rfl [.int .i64 2, .int .i64 5, .int .i64 0, .string ⟨#[98, 111, 97, 114, 100]⟩, .slice none 0 0] rfl rfl rfl 0 rfl rfl (fun _ H => ?_))
  refine sr_nil ?_
  refine st_seq ?_
  refine st_region ?_
  refine sr_op rfl rfl (ow_build (ps := [(0, .int .i64 1), (3, .string ⟨#[104, 101, 97, 100]⟩)]) (v := .agg #[.int .i64 1, .int .i64 0, .int .i64 0, .string ⟨#[104, 101, 97, 100]⟩, .slice none 0 0]) rfl (fun _ => by kernel_rfl) ?_)
  refine sr_op rfl rfl (ow_alloc ty26 H [.int .i64 0, .int .i64 0, .int .i64 0, .string ⟨#[]⟩, .slice none 0 0] rfl (fun g3 _ H => ?_))
  refine sr_op rfl rfl (ow_store ty26 H rfl (v := .agg #[.int .i64 1, .int .i64 0, .int .i64 0, .string ⟨#[104, 101, 97, 100]⟩, .slice none 0 0]) rfl [.int .i64 1, .int .i64 0, .int .i64 0, .string ⟨#[104, 101, 97, 100]⟩, .slice none 0 0] rfl rfl rfl 0 rfl rfl (fun _ H => ?_))
  refine sr_nil ?_
  refine st_seq ?_
  refine st_region ?_
  refine sr_op rfl rfl (ow_load (v := .agg #[.int .i64 1, .int .i64 0, .int .i64 0, .string ⟨#[104, 101, 97, 100]⟩, .slice none 0 0]) ty26 H rfl 0 rfl rfl rfl rfl ?_)
  refine sr_op rfl rfl (ow_load (v := .agg #[.int .i64 2, .int .i64 5, .int .i64 0, .string ⟨#[98, 111, 97, 114, 100]⟩, .slice none 0 0]) ty26 H rfl 1 rfl rfl rfl rfl ?_)
  refine sr_op rfl rfl (ow_buildSlice H (e := 26) (ps := [(0, .agg #[.int .i64 1, .int .i64 0, .int .i64 0, .string ⟨#[104, 101, 97, 100]⟩, .slice none 0 0]), (1, .agg #[.int .i64 2, .int .i64 5, .int .i64 0, .string ⟨#[98, 111, 97, 114, 100]⟩, .slice none 0 0])]) rfl [.int .i64 1, .int .i64 0, .int .i64 0, .string ⟨#[104, 101, 97, 100]⟩, .slice none 0 0, .int .i64 2, .int .i64 5, .int .i64 0, .string ⟨#[98, 111, 97, 114, 100]⟩, .slice none 0 0] (fun _ => by kernel_rfl) (fun g4 _ H => ?_))
  obtain ⟨I2, hI2, H, hl1⟩ := lit_done (enc := encEx) (sz := 5) (n := 2) [someE, weightE] rfl (by omega) H ⟨some_rep _, rfl, weight_rep _, rfl, rfl⟩
  refine sr_op rfl rfl (ow_build (ps := [(0, .int .i64 4), (1, .int .i64 100), (4, .slice (some ⟨g4, 0, none⟩) 2 2)]) (v := .agg #[.int .i64 4, .int .i64 100, .int .i64 0, .string ⟨#[]⟩, .slice (some ⟨g4, 0, none⟩) 2 2]) rfl (fun _ => by kernel_rfl) ?_)
  refine sr_op rfl rfl (ow_alloc ty26 H [.int .i64 0, .int .i64 0, .int .i64 0, .string ⟨#[]⟩, .slice none 0 0] rfl (fun g5 _ H => ?_))
  refine sr_op rfl rfl (ow_store ty26 H rfl (v := .agg #[.int .i64 4, .int .i64 100, .int .i64 0, .string ⟨#[]⟩, .slice (some ⟨g4, 0, none⟩) 2 2]) rfl [.int .i64 4, .int .i64 100, .int .i64 0, .string ⟨#[]⟩, .slice (some ⟨g4, 0, none⟩) 2 2] rfl rfl rfl 0 rfl rfl (fun _ H => ?_))
  refine sr_nil ?_
  refine st_seq ?_
  refine st_region ?_
  refine sr_op rfl rfl (ow_buildSlice H (e := 9) (ps := [(0, .string ⟨#[104, 101, 97, 100]⟩), (1, .string ⟨#[98, 111, 97, 114, 100]⟩)]) rfl [.string ⟨#[104, 101, 97, 100]⟩, .string ⟨#[98, 111, 97, 114, 100]⟩] (fun _ => by kernel_rfl) (fun g6 _ H => ?_))
  obtain ⟨I3, hI3, H, hl2⟩ := lit_done (enc := encS) (sz := 1) (n := 2) [headS, boardS] rfl (by omega) H ⟨s_iff.2 ⟨rfl, by unfold S63 headS; decide⟩, rfl, s_iff.2 ⟨rfl, by unfold S63 boardS; decide⟩, rfl, rfl⟩
  have hl1 := hl1.mono hI3
  refine sr_op rfl rfl (ow_buildSlice H (e := 9) (ps := [(0, .string ⟨#[108, 101, 116, 116, 101, 114]⟩)]) rfl [.string ⟨#[108, 101, 116, 116, 101, 114]⟩] (fun _ => by kernel_rfl) (fun g7 _ H => ?_))
  obtain ⟨I4, hI4, H, hl3⟩ := lit_done (enc := encS) (sz := 1) (n := 1) [letterS] rfl (by omega) H ⟨s_iff.2 ⟨rfl, by unfold S63 letterS; decide⟩, rfl, rfl⟩
  have hl1 := hl1.mono hI4
  have hl2 := hl2.mono hI4
  refine sr_op rfl rfl (ow_load (v := .agg #[.int .i64 4, .int .i64 100, .int .i64 0, .string ⟨#[]⟩, .slice (some ⟨g4, 0, none⟩) 2 2]) ty26 H rfl 0 rfl rfl rfl rfl ?_)
  refine sr_op rfl rfl (ow_build (ps := [(0, .string ⟨#[108, 101, 116, 116, 101, 114]⟩), (2, .int .i64 7), (3, .agg #[.int .i64 4, .int .i64 100, .int .i64 0, .string ⟨#[]⟩, .slice (some ⟨g4, 0, none⟩) 2 2])]) (v := .agg #[.string ⟨#[108, 101, 116, 116, 101, 114]⟩, .int .i64 0, .int .i64 7, .int .i64 4, .int .i64 100, .int .i64 0, .string ⟨#[]⟩, .slice (some ⟨g4, 0, none⟩) 2 2]) rfl (fun _ => by kernel_rfl) ?_)
  refine sr_op rfl rfl (ow_buildSlice H (e := 43) (ps := [(0, .agg #[.string ⟨#[108, 101, 116, 116, 101, 114]⟩, .int .i64 0, .int .i64 7, .int .i64 4, .int .i64 100, .int .i64 0, .string ⟨#[]⟩, .slice (some ⟨g4, 0, none⟩) 2 2])]) rfl [.string ⟨#[108, 101, 116, 116, 101, 114]⟩, .int .i64 0, .int .i64 7, .int .i64 4, .int .i64 100, .int .i64 0, .string ⟨#[]⟩, .slice (some ⟨g4, 0, none⟩) 2 2] (fun _ => by kernel_rfl) (fun g8 _ H => ?_))
  obtain ⟨I5, hI5, H, hl4⟩ := lit_done (enc := encRu) (sz := 8) (n := 1) [⟨letterS, 0, 7, uptoE⟩] rfl (by omega) H ⟨ru_iff.2 ⟨_, rfl, by unfold S63 letterS; decide, by unfold I64; decide, by unfold I64; decide, by unfold I64 uptoE; decide, by unfold I64 uptoE; decide, by unfold I64 uptoE; decide, by unfold S63 uptoE; decide, hl1⟩, rfl, rfl⟩
  have hl1 := hl1.mono hI5
  have hl2 := hl2.mono hI5
  have hl3 := hl3.mono hI5
  refine sr_op rfl rfl (ow_load (v := .agg #[.int .i64 1, .int .i64 0, .int .i64 0, .string ⟨#[104, 101, 97, 100]⟩, .slice none 0 0]) ty26 H rfl 1 rfl rfl rfl rfl ?_)
  refine sr_op rfl rfl (ow_load (v := .agg #[.int .i64 2, .int .i64 5, .int .i64 0, .string ⟨#[98, 111, 97, 114, 100]⟩, .slice none 0 0]) ty26 H rfl 2 rfl rfl rfl rfl ?_)
  refine sr_op rfl rfl (ow_buildSlice H (e := 26) (ps := [(0, .agg #[.int .i64 1, .int .i64 0, .int .i64 0, .string ⟨#[104, 101, 97, 100]⟩, .slice none 0 0]), (1, .agg #[.int .i64 2, .int .i64 5, .int .i64 0, .string ⟨#[98, 111, 97, 114, 100]⟩, .slice none 0 0])]) rfl [.int .i64 1, .int .i64 0, .int .i64 0, .string ⟨#[104, 101, 97, 100]⟩, .slice none 0 0, .int .i64 2, .int .i64 5, .int .i64 0, .string ⟨#[98, 111, 97, 114, 100]⟩, .slice none 0 0] (fun _ => by kernel_rfl) (fun g9 _ H => ?_))
  obtain ⟨I6, hI6, H, hl5⟩ := lit_done (enc := encEx) (sz := 5) (n := 2) [someE, weightE] rfl (by omega) H ⟨some_rep _, rfl, weight_rep _, rfl, rfl⟩
  have hl1 := hl1.mono hI6
  have hl2 := hl2.mono hI6
  have hl3 := hl3.mono hI6
  have hl4 := hl4.mono hI6
  refine sr_op rfl rfl (ow_build (ps := [(0, .int .i64 3), (1, .int .i64 2), (4, .slice (some ⟨g9, 0, none⟩) 2 2)]) (v := .agg #[.int .i64 3, .int .i64 2, .int .i64 0, .string ⟨#[]⟩, .slice (some ⟨g9, 0, none⟩) 2 2]) rfl (fun _ => by kernel_rfl) ?_)
  refine sr_op rfl rfl (ow_build (ps := [(0, .string ⟨#[104, 111, 117, 115, 101]⟩), (2, .slice (some ⟨g6, 0, none⟩) 2 2), (1, .slice (some ⟨g7, 0, none⟩) 1 1), (3, .slice (some ⟨g8, 0, none⟩) 1 1), (4, .agg #[.int .i64 3, .int .i64 2, .int .i64 0, .string ⟨#[]⟩, .slice (some ⟨g9, 0, none⟩) 2 2]), (5, .int .i64 3)]) (v := .agg #[.string ⟨#[104, 111, 117, 115, 101]⟩, .slice (some ⟨g7, 0, none⟩) 1 1, .slice (some ⟨g6, 0, none⟩) 2 2, .slice (some ⟨g8, 0, none⟩) 1 1, .int .i64 3, .int .i64 2, .int .i64 0, .string ⟨#[]⟩, .slice (some ⟨g9, 0, none⟩) 2 2, .int .i64 3]) rfl (fun _ => by kernel_rfl) ?_)
  refine sr_op rfl rfl (ow_store ty28 H rfl (v := .agg #[.string ⟨#[104, 111, 117, 115, 101]⟩, .slice (some ⟨g7, 0, none⟩) 1 1, .slice (some ⟨g6, 0, none⟩) 2 2, .slice (some ⟨g8, 0, none⟩) 1 1, .int .i64 3, .int .i64 2, .int .i64 0, .string ⟨#[]⟩, .slice (some ⟨g9, 0, none⟩) 2 2, .int .i64 3]) rfl [.string ⟨#[104, 111, 117, 115, 101]⟩, .slice (some ⟨g7, 0, none⟩) 1 1, .slice (some ⟨g6, 0, none⟩) 2 2, .slice (some ⟨g8, 0, none⟩) 1 1, .int .i64 3, .int .i64 2, .int .i64 0, .string ⟨#[]⟩, .slice (some ⟨g9, 0, none⟩) 2 2, .int .i64 3] rfl rfl rfl 3 rfl rfl (fun _ H => ?_))
  refine sr_nil ?_
  refine st_ret hb (hR _ _ (.agg #[.string ⟨#[104, 111, 117, 115, 101]⟩, .slice (some ⟨g7, 0, none⟩) 1 1, .slice (some ⟨g6, 0, none⟩) 2 2, .slice (some ⟨g8, 0, none⟩) 1 1, .int .i64 3, .int .i64 2, .int .i64 0, .string ⟨#[]⟩, .slice (some ⟨g9, 0, none⟩) 2 2, .int .i64 3]) (res_run (vs := [.agg #[.string ⟨#[104, 111, 117, 115, 101]⟩, .slice (some ⟨g7, 0, none⟩) 1 1, .slice (some ⟨g6, 0, none⟩) 2 2, .slice (some ⟨g8, 0, none⟩) 1 1, .int .i64 3, .int .i64 2, .int .i64 0, .string ⟨#[]⟩, .slice (some ⟨g9, 0, none⟩) 2 2, .int .i64 3]]) Tryd.results46 ⟨_, _, rfl, resV_own (v := .agg #[.string ⟨#[104, 111, 117, 115, 101]⟩, .slice (some ⟨g7, 0, none⟩) 1 1, .slice (some ⟨g6, 0, none⟩) 2 2, .slice (some ⟨g8, 0, none⟩) 1 1, .int .i64 3, .int .i64 2, .int .i64 0, .string ⟨#[]⟩, .slice (some ⟨g9, 0, none⟩) 2 2, .int .i64 3]) ty28 H rfl 3 rfl rfl rfl rfl, rfl⟩) ?_)
  exact ⟨_, rfl, I6, _, ((((hI2.trans hI3).trans hI4).trans hI5).trans hI6), H.drop 4, rfl, po_iff.2 ⟨_, _, _, _, rfl, by unfold S63 smallP houseS; decide, hl3, hl2, hl4, by unfold I64 smallP ofE; decide, by unfold I64 smallP ofE; decide, by unfold I64 smallP ofE; decide, by unfold S63 smallP ofE; decide, hl5, by unfold I64 smallP; decide⟩⟩
end Go.Proofs.YtbbflenaeihmeaaDoor
