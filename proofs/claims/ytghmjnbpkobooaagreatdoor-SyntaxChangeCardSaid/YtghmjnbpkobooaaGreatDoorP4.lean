/-
  Walks: bytes, names.
-/
import Derived.Test.YtghmjnbpkobooaaGreatDoorP3
set_option linter.unusedVariables false
set_option linter.unusedSimpArgs false
set_option maxRecDepth 10000
set_option maxHeartbeats 4000000
namespace Go.Proofs.YtghmjnbpkobooaaGreatDoor
open Go Go.RowKit

def letterB (c : Int) : Bool := (decide (97 ≤ c) && decide (c ≤ 122)) || (decide (65 ≤ c) && decide (c ≤ 90))
def digitB (c : Int) : Bool := decide (48 ≤ c) && decide (c ≤ 57)
def partB (c : Int) : Bool := (letterB c || digitB c) || decide (c = 95)
def spaceB (c : Int) : Bool := ((decide (c = 32) || decide (c = 9)) || decide (c = 10)) || decide (c = 13)
def signS : ByteArray := ⟨#[123, 125, 40, 41, 59, 44, 61, 58, 46, 60, 62, 33, 43, 45, 42, 47]⟩
def ixByte (s : ByteArray) (c : Int) : Int := Lib.indexByte s.data.toList c.toNat.toUInt8
def signB (c : Int) : Bool := decide (0 ≤ ixByte signS c)
def classI (c : Int) : Int := if letterB c = true then 2 else if digitB c = true then 3 else if decide (c = 95) = true then 5 else if spaceB c = true then 1 else if signB c = true then 4 else 0
def hd : List UInt8 → Int
  | [] => 0
  | u :: _ => u.toNat
def nameB (s : ByteArray) : Bool := !decide ((s.size : Int) < 1) && !decide (32 < (s.size : Int)) && letterB (hd s.data.toList) && s.data.toList.all (fun u => partB u.toNat)
theorem byte_at {s : ByteArray} {i : Nat} (h : i < s.size) : ∃ u, s[i]? = some u ∧ s.data.toList[i]? = some u := by
  refine ⟨s[i], ?_, ?_⟩
  · exact getElem?_pos s i h
  · have : i < s.data.toList.length := by simpa using h
    rw [List.getElem?_eq_getElem this]
    rfl
theorem size_data (s : ByteArray) : s.size = s.data.toList.length := by simp
theorem Letter_c {B I L w} (H : Hp B I w L) (c : Int) : Calls Tryz.prog 200 #[.int .u8 c] w (Rt fun r w' => r = .bool (letterB c) ∧ Hp B I w' L) := by
  refine calls_st (n := 17) Tryz.func200 rfl rfl rfl ?_
  intro G bF cs hb hfn hR hP
  simp only [ini]
  refine st_seq ?_
  refine st_region ?_
  refine sr_op rfl rfl (ow_assign (v := .bool false) rfl ?_)
  refine sr_nil ?_
  refine st_seq ?_
  refine st_region ?_
  refine sr_op rfl rfl (ow_move (v := .int .u8 c) rfl ?_)
  refine sr_op rfl rfl (ow_geq rfl rfl ?_)
  refine sr_op rfl rfl (ow_move (v := .bool (decide (97 ≤ c))) rfl ?_)
  refine sr_cut 3 (fun m_ w_ => ∃ (r_ : Sl) (v_ : Bool), m_ = (8, .bool v_) :: (0, .int .u8 c) :: (2, .bool false) :: r_ ∧ Hp B I w_ (L) ∧ v_ = ((decide (97 ≤ c)) && (decide (c ≤ 122)))) (fun again => ?_) ?_
  · rcases hg : decide (97 ≤ c) with _ | _
    · refine sr_pass rfl (j := 2) (d := 5) rfl rfl rfl (u := false) (v := true) rfl rfl ?_
      refine sr_pass rfl (j := 2) (d := 5) rfl rfl rfl (u := false) (v := true) rfl rfl ?_
      refine sr_op rfl rfl (ow_pick (v := .bool false) rfl rfl ?_)
      exact sr_live [8, 0, 2] (again _ _ ⟨_, _, rfl, H, by rw [hg] <;> rfl⟩)
    · refine sr_want rfl (j := 2) (d := 5) rfl rfl rfl (v := true) rfl rfl (ow_move (v := .int .u8 c) rfl ?_)
      refine sr_want rfl (j := 2) (d := 5) rfl rfl rfl (v := true) rfl rfl (ow_leq rfl rfl ?_)
      refine sr_op rfl rfl (ow_pick (v := .bool (decide (c ≤ 122))) rfl rfl ?_)
      exact sr_live [8, 0, 2] (again _ _ ⟨_, _, rfl, H, by rw [hg] <;> rfl⟩)
  rintro _ _ ⟨r, _, rfl, H, rfl⟩
  refine sr_op rfl rfl (ow_move (v := .bool ((decide (97 ≤ c)) && (decide (c ≤ 122)))) rfl ?_)
  refine sr_cut 7 (fun m_ w_ => ∃ (r_ : Sl) (v_ : Bool), m_ = (16, .bool v_) :: (2, .bool false) :: r_ ∧ Hp B I w_ (L) ∧ v_ = (((decide (97 ≤ c)) && (decide (c ≤ 122))) || ((decide (65 ≤ c)) && (decide (c ≤ 90))))) (fun again => ?_) ?_
  · rcases hg : (decide (97 ≤ c)) && (decide (c ≤ 122)) with _ | _
    · refine sr_want rfl (j := 6) (d := 9) rfl rfl rfl (v := false) rfl rfl (ow_move (v := .int .u8 c) rfl ?_)
      refine sr_want rfl (j := 6) (d := 9) rfl rfl rfl (v := false) rfl rfl (ow_geq rfl rfl ?_)
      refine sr_want rfl (j := 6) (d := 9) rfl rfl rfl (v := false) rfl rfl (ow_move (v := .bool (decide (65 ≤ c))) rfl ?_)
      refine sr_cut 3 (fun m_ w_ => ∃ (r_ : Sl) (v_ : Bool), m_ = (15, .bool v_) :: (2, .bool false) :: (9, .bool false) :: r_ ∧ Hp B I w_ (L) ∧ v_ = ((decide (65 ≤ c)) && (decide (c ≤ 90)))) (fun again => ?_) ?_
      · rcases hg : decide (65 ≤ c) with _ | _
        · refine sr_pass rfl (j := 9) (d := 12) rfl rfl rfl (u := false) (v := true) rfl rfl ?_
          refine sr_pass rfl (j := 9) (d := 12) rfl rfl rfl (u := false) (v := true) rfl rfl ?_
          refine sr_want rfl (j := 6) (d := 9) rfl rfl rfl (v := false) rfl rfl (ow_pick (v := .bool false) rfl rfl ?_)
          exact sr_live [15, 2, 9] (again _ _ ⟨_, _, rfl, H, by rw [hg] <;> rfl⟩)
        · refine sr_want rfl (j := 9) (d := 12) rfl rfl rfl (v := true) rfl rfl (ow_move (v := .int .u8 c) rfl ?_)
          refine sr_want rfl (j := 9) (d := 12) rfl rfl rfl (v := true) rfl rfl (ow_leq rfl rfl ?_)
          refine sr_want rfl (j := 6) (d := 9) rfl rfl rfl (v := false) rfl rfl (ow_pick (v := .bool (decide (c ≤ 90))) rfl rfl ?_)
          exact sr_live [15, 2, 9] (again _ _ ⟨_, _, rfl, H, by rw [hg] <;> rfl⟩)
      rintro _ _ ⟨r, _, rfl, H, rfl⟩
      refine sr_op rfl rfl (ow_pick (v := .bool ((decide (65 ≤ c)) && (decide (c ≤ 90)))) rfl rfl ?_)
      exact sr_live [16, 2] (again _ _ ⟨_, _, rfl, H, by rw [hg] <;> rfl⟩)
    · refine sr_pass rfl (j := 6) (d := 9) rfl rfl rfl (u := true) (v := false) rfl rfl ?_
      refine sr_pass rfl (j := 6) (d := 9) rfl rfl rfl (u := true) (v := false) rfl rfl ?_
      refine sr_pass rfl (j := 6) (d := 9) rfl rfl rfl (u := true) (v := false) rfl rfl ?_
      refine sr_pass_undef rfl (j := 9) (d := 12) rfl rfl rfl rfl ?_
      refine sr_pass_undef rfl (j := 9) (d := 12) rfl rfl rfl rfl ?_
      refine sr_pass rfl (j := 6) (d := 9) rfl rfl rfl (u := true) (v := false) rfl rfl ?_
      refine sr_op rfl rfl (ow_pick (v := .bool true) rfl rfl ?_)
      exact sr_live [16, 2] (again _ _ ⟨_, _, rfl, H, by rw [hg] <;> rfl⟩)
  rintro _ _ ⟨r, _, rfl, H, rfl⟩
  refine sr_op rfl rfl (ow_assign (v := .bool (((decide (97 ≤ c)) && (decide (c ≤ 122))) || ((decide (65 ≤ c)) && (decide (c ≤ 90))))) rfl ?_)
  refine sr_nil ?_
  refine st_ret hb (hR _ _ (.bool (((decide (97 ≤ c)) && (decide (c ≤ 122))) || ((decide (65 ≤ c)) && (decide (c ≤ 90))))) (res_run (vs := [.bool (((decide (97 ≤ c)) && (decide (c ≤ 122))) || ((decide (65 ≤ c)) && (decide (c ≤ 90))))]) Tryz.results200 ⟨_, _, rfl, rfl, rfl⟩) ?_)
  exact ⟨_, rfl, rfl, H⟩
theorem Figure_c {B I L w} (H : Hp B I w L) (c : Int) : Calls Tryz.prog 264 #[.int .u8 c] w (Rt fun r w' => r = .bool (digitB c) ∧ Hp B I w' L) := by
  refine calls_st (n := 9) Tryz.func264 rfl rfl rfl ?_
  intro G bF cs hb hfn hR hP
  simp only [ini]
  refine st_seq ?_
  refine st_region ?_
  refine sr_op rfl rfl (ow_assign (v := .bool false) rfl ?_)
  refine sr_nil ?_
  refine st_seq ?_
  refine st_region ?_
  refine sr_op rfl rfl (ow_move (v := .int .u8 c) rfl ?_)
  refine sr_op rfl rfl (ow_geq rfl rfl ?_)
  refine sr_op rfl rfl (ow_move (v := .bool (decide (48 ≤ c))) rfl ?_)
  refine sr_cut 3 (fun m_ w_ => ∃ (r_ : Sl) (v_ : Bool), m_ = (8, .bool v_) :: (2, .bool false) :: r_ ∧ Hp B I w_ (L) ∧ v_ = ((decide (48 ≤ c)) && (decide (c ≤ 57)))) (fun again => ?_) ?_
  · rcases hg : decide (48 ≤ c) with _ | _
    · refine sr_pass rfl (j := 2) (d := 5) rfl rfl rfl (u := false) (v := true) rfl rfl ?_
      refine sr_pass rfl (j := 2) (d := 5) rfl rfl rfl (u := false) (v := true) rfl rfl ?_
      refine sr_op rfl rfl (ow_pick (v := .bool false) rfl rfl ?_)
      exact sr_live [8, 2] (again _ _ ⟨_, _, rfl, H, by rw [hg] <;> rfl⟩)
    · refine sr_want rfl (j := 2) (d := 5) rfl rfl rfl (v := true) rfl rfl (ow_move (v := .int .u8 c) rfl ?_)
      refine sr_want rfl (j := 2) (d := 5) rfl rfl rfl (v := true) rfl rfl (ow_leq rfl rfl ?_)
      refine sr_op rfl rfl (ow_pick (v := .bool (decide (c ≤ 57))) rfl rfl ?_)
      exact sr_live [8, 2] (again _ _ ⟨_, _, rfl, H, by rw [hg] <;> rfl⟩)
  rintro _ _ ⟨r, _, rfl, H, rfl⟩
  refine sr_op rfl rfl (ow_assign (v := .bool ((decide (48 ≤ c)) && (decide (c ≤ 57)))) rfl ?_)
  refine sr_nil ?_
  refine st_ret hb (hR _ _ (.bool ((decide (48 ≤ c)) && (decide (c ≤ 57)))) (res_run (vs := [.bool ((decide (48 ≤ c)) && (decide (c ≤ 57)))]) Tryz.results264 ⟨_, _, rfl, rfl, rfl⟩) ?_)
  exact ⟨_, rfl, rfl, H⟩
theorem part_c {B I L w} (H : Hp B I w L) (c : Int) : Calls Tryz.prog 201 #[.int .u8 c] w (Rt fun r w' => r = .bool (partB c) ∧ Hp B I w' L) := by
  refine calls_st (n := 13) Tryz.func201 rfl rfl rfl ?_
  intro G bF cs hb hfn hR hP
  simp only [ini]
  refine st_seq ?_
  refine st_region ?_
  refine sr_op rfl rfl (ow_assign (v := .bool false) rfl ?_)
  refine sr_nil ?_
  refine st_seq ?_
  refine st_region ?_
  refine sr_op rfl rfl (ow_move (v := .int .u8 c) rfl ?_)
  refine sr_op rfl rfl (ow_call en200 rfl (Letter_c H c) ?_)
  rintro _ _ ⟨rfl, H⟩
  refine sr_op rfl rfl (ow_move (v := .bool (letterB c)) rfl ?_)
  refine sr_cut 3 (fun m_ w_ => ∃ (r_ : Sl) (v_ : Bool), m_ = (8, .bool v_) :: (0, .int .u8 c) :: (2, .bool false) :: r_ ∧ Hp B I w_ (L) ∧ v_ = ((letterB c) || (digitB c))) (fun again => ?_) ?_
  · rcases hg : letterB c with _ | _
    · refine sr_want rfl (j := 2) (d := 5) rfl rfl rfl (v := false) rfl rfl (ow_move (v := .int .u8 c) rfl ?_)
      refine sr_want rfl (j := 2) (d := 5) rfl rfl rfl (v := false) rfl rfl (ow_call en264 rfl (Figure_c H c) ?_)
      rintro _ _ ⟨rfl, H⟩
      refine sr_op rfl rfl (ow_pick (v := .bool (digitB c)) rfl rfl ?_)
      exact sr_live [8, 0, 2] (again _ _ ⟨_, _, rfl, H, by rw [hg] <;> rfl⟩)
    · refine sr_pass rfl (j := 2) (d := 5) rfl rfl rfl (u := true) (v := false) rfl rfl ?_
      refine sr_pass rfl (j := 2) (d := 5) rfl rfl rfl (u := true) (v := false) rfl rfl ?_
      refine sr_op rfl rfl (ow_pick (v := .bool true) rfl rfl ?_)
      exact sr_live [8, 0, 2] (again _ _ ⟨_, _, rfl, H, by rw [hg] <;> rfl⟩)
  rintro _ _ ⟨r, _, rfl, H, rfl⟩
  refine sr_op rfl rfl (ow_move (v := .bool ((letterB c) || (digitB c))) rfl ?_)
  refine sr_cut 3 (fun m_ w_ => ∃ (r_ : Sl) (v_ : Bool), m_ = (12, .bool v_) :: (2, .bool false) :: r_ ∧ Hp B I w_ (L) ∧ v_ = (((letterB c) || (digitB c)) || (decide (c = 95)))) (fun again => ?_) ?_
  · rcases hg : (letterB c) || (digitB c) with _ | _
    · refine sr_want rfl (j := 6) (d := 9) rfl rfl rfl (v := false) rfl rfl (ow_move (v := .int .u8 c) rfl ?_)
      refine sr_want rfl (j := 6) (d := 9) rfl rfl rfl (v := false) rfl rfl (ow_eql rfl rfl ?_)
      refine sr_op rfl rfl (ow_pick (v := .bool (decide (c = 95))) rfl rfl ?_)
      exact sr_live [12, 2] (again _ _ ⟨_, _, rfl, H, by rw [hg] <;> rfl⟩)
    · refine sr_pass rfl (j := 6) (d := 9) rfl rfl rfl (u := true) (v := false) rfl rfl ?_
      refine sr_pass rfl (j := 6) (d := 9) rfl rfl rfl (u := true) (v := false) rfl rfl ?_
      refine sr_op rfl rfl (ow_pick (v := .bool true) rfl rfl ?_)
      exact sr_live [12, 2] (again _ _ ⟨_, _, rfl, H, by rw [hg] <;> rfl⟩)
  rintro _ _ ⟨r, _, rfl, H, rfl⟩
  refine sr_op rfl rfl (ow_assign (v := .bool (((letterB c) || (digitB c)) || (decide (c = 95)))) rfl ?_)
  refine sr_nil ?_
  refine st_ret hb (hR _ _ (.bool (((letterB c) || (digitB c)) || (decide (c = 95)))) (res_run (vs := [.bool (((letterB c) || (digitB c)) || (decide (c = 95)))]) Tryz.results201 ⟨_, _, rfl, rfl, rfl⟩) ?_)
  exact ⟨_, rfl, rfl, H⟩
theorem IndexByte1_c {B I L w} (H : Hp B I w L) (s : ByteArray) (c : Int) : Calls Tryz.prog 260 #[.string s, .int .u8 c] w (Rt fun r w' => r = .int .i64 (ixByte s c) ∧ Hp B I w' L) := by
  refine calls_st (n := 8) Tryz.func260 rfl rfl rfl ?_
  intro G bF cs hb hfn hR hP
  simp only [ini]
  refine st_seq ?_
  refine st_region ?_
  refine sr_op rfl rfl (ow_assign (v := .int .i64 0) rfl ?_)
  refine sr_nil ?_
  refine st_seq ?_
  refine st_region ?_
  refine sr_op rfl rfl (ow_move (v := .string s) rfl ?_)
  refine sr_op rfl rfl (ow_move (v := .int .u8 c) rfl ?_)
  refine sr_op rfl rfl (ow_ext Tryz.func315 (by kernel_rfl) rfl (by kernel_rfl) (by kernel_rfl) rfl (Lib.run_indexByteString _ _ _) ?_)
  refine sr_op rfl rfl (ow_assign (v := .int .i64 (ixByte s c)) rfl ?_)
  refine sr_nil ?_
  refine st_ret hb (hR _ _ (.int .i64 (ixByte s c)) (res_run (vs := [.int .i64 (ixByte s c)]) Tryz.results260 ⟨_, _, rfl, rfl, rfl⟩) ?_)
  exact ⟨_, rfl, rfl, H⟩
theorem IndexByte_c {B I L w} (H : Hp B I w L) (s : ByteArray) (c : Int) : Calls Tryz.prog 194 #[.string s, .int .u8 c] w (Rt fun r w' => r = .int .i64 (ixByte s c) ∧ Hp B I w' L) := by
  refine calls_st (n := 8) Tryz.func194 rfl rfl rfl ?_
  intro G bF cs hb hfn hR hP
  simp only [ini]
  refine st_seq ?_
  refine st_region ?_
  refine sr_op rfl rfl (ow_assign (v := .int .i64 0) rfl ?_)
  refine sr_nil ?_
  refine st_seq ?_
  refine st_region ?_
  refine sr_op rfl rfl (ow_move (v := .string s) rfl ?_)
  refine sr_op rfl rfl (ow_move (v := .int .u8 c) rfl ?_)
  refine sr_op rfl rfl (ow_call en260 rfl (IndexByte1_c H s c) ?_)
  rintro _ _ ⟨rfl, H⟩
  refine sr_op rfl rfl (ow_assign (v := .int .i64 (ixByte s c)) rfl ?_)
  refine sr_nil ?_
  refine st_ret hb (hR _ _ (.int .i64 (ixByte s c)) (res_run (vs := [.int .i64 (ixByte s c)]) Tryz.results194 ⟨_, _, rfl, rfl, rfl⟩) ?_)
  exact ⟨_, rfl, rfl, H⟩
theorem class_c {B I L w} (H : Hp B I w L) (c : Int) : Calls Tryz.prog 99 #[.int .u8 c] w (Rt fun r w' => r = .int .i64 (classI c) ∧ Hp B I w' L) := by
  refine calls_st (n := 47) Tryz.func99 rfl rfl rfl ?_
  intro G bF cs hb hfn hR hP
  simp only [ini]
  refine st_seq ?_
  refine st_region ?_
  refine sr_op rfl rfl (ow_assign (v := .int .i64 0) rfl ?_)
  refine sr_nil ?_
  refine st_seq ?_
  refine st_block ?_
  refine st_seq ?_
  refine st_region ?_
  refine sr_op rfl rfl (ow_move (v := .int .u8 c) rfl ?_)
  refine sr_op rfl rfl (ow_geq rfl rfl ?_)
  refine sr_op rfl rfl (ow_move (v := .bool (decide (97 ≤ c))) rfl ?_)
  refine sr_cut 3 (fun m_ w_ => ∃ (r_ : Sl) (v_ : Bool), m_ = (9, .bool v_) :: (0, .int .u8 c) :: (2, .int .i64 0) :: r_ ∧ Hp B I w_ (L) ∧ v_ = ((decide (97 ≤ c)) && (decide (c ≤ 122)))) (fun again => ?_) ?_
  · rcases hg : decide (97 ≤ c) with _ | _
    · refine sr_pass rfl (j := 2) (d := 6) rfl rfl rfl (u := false) (v := true) rfl rfl ?_
      refine sr_pass rfl (j := 2) (d := 6) rfl rfl rfl (u := false) (v := true) rfl rfl ?_
      refine sr_op rfl rfl (ow_pick (v := .bool false) rfl rfl ?_)
      exact sr_live [9, 0, 2] (again _ _ ⟨_, _, rfl, H, by rw [hg] <;> rfl⟩)
    · refine sr_want rfl (j := 2) (d := 6) rfl rfl rfl (v := true) rfl rfl (ow_move (v := .int .u8 c) rfl ?_)
      refine sr_want rfl (j := 2) (d := 6) rfl rfl rfl (v := true) rfl rfl (ow_leq rfl rfl ?_)
      refine sr_op rfl rfl (ow_pick (v := .bool (decide (c ≤ 122))) rfl rfl ?_)
      exact sr_live [9, 0, 2] (again _ _ ⟨_, _, rfl, H, by rw [hg] <;> rfl⟩)
  rintro _ _ ⟨r, _, rfl, H, rfl⟩
  refine sr_op rfl rfl (ow_move (v := .bool ((decide (97 ≤ c)) && (decide (c ≤ 122)))) rfl ?_)
  refine sr_cut 7 (fun m_ w_ => ∃ (r_ : Sl) (v_ : Bool), m_ = (17, .bool v_) :: (0, .int .u8 c) :: (2, .int .i64 0) :: r_ ∧ Hp B I w_ (L) ∧ v_ = (((decide (97 ≤ c)) && (decide (c ≤ 122))) || ((decide (65 ≤ c)) && (decide (c ≤ 90))))) (fun again => ?_) ?_
  · rcases hg : (decide (97 ≤ c)) && (decide (c ≤ 122)) with _ | _
    · refine sr_want rfl (j := 6) (d := 10) rfl rfl rfl (v := false) rfl rfl (ow_move (v := .int .u8 c) rfl ?_)
      refine sr_want rfl (j := 6) (d := 10) rfl rfl rfl (v := false) rfl rfl (ow_geq rfl rfl ?_)
      refine sr_want rfl (j := 6) (d := 10) rfl rfl rfl (v := false) rfl rfl (ow_move (v := .bool (decide (65 ≤ c))) rfl ?_)
      refine sr_cut 3 (fun m_ w_ => ∃ (r_ : Sl) (v_ : Bool), m_ = (16, .bool v_) :: (0, .int .u8 c) :: (2, .int .i64 0) :: (10, .bool false) :: r_ ∧ Hp B I w_ (L) ∧ v_ = ((decide (65 ≤ c)) && (decide (c ≤ 90)))) (fun again => ?_) ?_
      · rcases hg : decide (65 ≤ c) with _ | _
        · refine sr_pass rfl (j := 9) (d := 13) rfl rfl rfl (u := false) (v := true) rfl rfl ?_
          refine sr_pass rfl (j := 9) (d := 13) rfl rfl rfl (u := false) (v := true) rfl rfl ?_
          refine sr_want rfl (j := 6) (d := 10) rfl rfl rfl (v := false) rfl rfl (ow_pick (v := .bool false) rfl rfl ?_)
          exact sr_live [16, 0, 2, 10] (again _ _ ⟨_, _, rfl, H, by rw [hg] <;> rfl⟩)
        · refine sr_want rfl (j := 9) (d := 13) rfl rfl rfl (v := true) rfl rfl (ow_move (v := .int .u8 c) rfl ?_)
          refine sr_want rfl (j := 9) (d := 13) rfl rfl rfl (v := true) rfl rfl (ow_leq rfl rfl ?_)
          refine sr_want rfl (j := 6) (d := 10) rfl rfl rfl (v := false) rfl rfl (ow_pick (v := .bool (decide (c ≤ 90))) rfl rfl ?_)
          exact sr_live [16, 0, 2, 10] (again _ _ ⟨_, _, rfl, H, by rw [hg] <;> rfl⟩)
      rintro _ _ ⟨r, _, rfl, H, rfl⟩
      refine sr_op rfl rfl (ow_pick (v := .bool ((decide (65 ≤ c)) && (decide (c ≤ 90)))) rfl rfl ?_)
      exact sr_live [17, 0, 2] (again _ _ ⟨_, _, rfl, H, by rw [hg] <;> rfl⟩)
    · refine sr_pass rfl (j := 6) (d := 10) rfl rfl rfl (u := true) (v := false) rfl rfl ?_
      refine sr_pass rfl (j := 6) (d := 10) rfl rfl rfl (u := true) (v := false) rfl rfl ?_
      refine sr_pass rfl (j := 6) (d := 10) rfl rfl rfl (u := true) (v := false) rfl rfl ?_
      refine sr_pass_undef rfl (j := 9) (d := 13) rfl rfl rfl rfl ?_
      refine sr_pass_undef rfl (j := 9) (d := 13) rfl rfl rfl rfl ?_
      refine sr_pass rfl (j := 6) (d := 10) rfl rfl rfl (u := true) (v := false) rfl rfl ?_
      refine sr_op rfl rfl (ow_pick (v := .bool true) rfl rfl ?_)
      exact sr_live [17, 0, 2] (again _ _ ⟨_, _, rfl, H, by rw [hg] <;> rfl⟩)
  rintro _ _ ⟨r, _, rfl, H, rfl⟩
  refine sr_op rfl rfl (ow_assign (v := .bool (((decide (97 ≤ c)) && (decide (c ≤ 122))) || ((decide (65 ≤ c)) && (decide (c ≤ 90))))) rfl ?_)
  refine sr_nil ?_
  refine st_cond (((decide (97 ≤ c)) && (decide (c ≤ 122))) || ((decide (65 ≤ c)) && (decide (c ≤ 90)))) rfl (fun hc1 => ?_) (fun hc1 => ?_)
  · have hc1 : letterB c = true := hc1
    refine st_seq ?_
    refine st_region ?_
    refine sr_op rfl rfl (ow_assign (v := .int .i64 2) rfl ?_)
    refine sr_nil ?_
    refine st_ret hb (hR _ _ (.int .i64 2) (res_run (vs := [.int .i64 2]) Tryz.results99 ⟨_, _, rfl, rfl, rfl⟩) ?_)
    refine ⟨_, rfl, ?_, H⟩
    simp only [classI, hc1, if_true, if_false, Bool.false_eq_true]
  · have hc1 : letterB c = false := hc1
    refine st_seq ?_
    refine st_region ?_
    refine sr_op rfl rfl (ow_move (v := .int .u8 c) rfl ?_)
    refine sr_op rfl rfl (ow_geq rfl rfl ?_)
    refine sr_op rfl rfl (ow_move (v := .bool (decide (48 ≤ c))) rfl ?_)
    refine sr_cut 3 (fun m_ w_ => ∃ (r_ : Sl) (v_ : Bool), m_ = (24, .bool v_) :: (0, .int .u8 c) :: (2, .int .i64 0) :: r_ ∧ Hp B I w_ (L) ∧ v_ = ((decide (48 ≤ c)) && (decide (c ≤ 57)))) (fun again => ?_) ?_
    · rcases hg : decide (48 ≤ c) with _ | _
      · refine sr_pass rfl (j := 2) (d := 21) rfl rfl rfl (u := false) (v := true) rfl rfl ?_
        refine sr_pass rfl (j := 2) (d := 21) rfl rfl rfl (u := false) (v := true) rfl rfl ?_
        refine sr_op rfl rfl (ow_pick (v := .bool false) rfl rfl ?_)
        exact sr_live [24, 0, 2] (again _ _ ⟨_, _, rfl, H, by rw [hg] <;> rfl⟩)
      · refine sr_want rfl (j := 2) (d := 21) rfl rfl rfl (v := true) rfl rfl (ow_move (v := .int .u8 c) rfl ?_)
        refine sr_want rfl (j := 2) (d := 21) rfl rfl rfl (v := true) rfl rfl (ow_leq rfl rfl ?_)
        refine sr_op rfl rfl (ow_pick (v := .bool (decide (c ≤ 57))) rfl rfl ?_)
        exact sr_live [24, 0, 2] (again _ _ ⟨_, _, rfl, H, by rw [hg] <;> rfl⟩)
    rintro _ _ ⟨r, _, rfl, H, rfl⟩
    refine sr_op rfl rfl (ow_assign (v := .bool ((decide (48 ≤ c)) && (decide (c ≤ 57)))) rfl ?_)
    refine sr_nil ?_
    refine st_cond ((decide (48 ≤ c)) && (decide (c ≤ 57))) rfl (fun hc2 => ?_) (fun hc2 => ?_)
    · have hc2 : digitB c = true := hc2
      refine st_seq ?_
      refine st_region ?_
      refine sr_op rfl rfl (ow_assign (v := .int .i64 3) rfl ?_)
      refine sr_nil ?_
      refine st_ret hb (hR _ _ (.int .i64 3) (res_run (vs := [.int .i64 3]) Tryz.results99 ⟨_, _, rfl, rfl, rfl⟩) ?_)
      refine ⟨_, rfl, ?_, H⟩
      simp only [classI, hc1, hc2, if_true, if_false, Bool.false_eq_true]
    · have hc2 : digitB c = false := hc2
      refine st_seq ?_
      refine st_region ?_
      refine sr_op rfl rfl (ow_move (v := .int .u8 c) rfl ?_)
      refine sr_op rfl rfl (ow_eql rfl rfl ?_)
      refine sr_op rfl rfl (ow_assign (v := .bool (decide (c = 95))) rfl ?_)
      refine sr_nil ?_
      refine st_cond (decide (c = 95)) rfl (fun hc3 => ?_) (fun hc3 => ?_)
      · have hc3 : decide (c = 95) = true := hc3
        refine st_seq ?_
        refine st_region ?_
        refine sr_op rfl rfl (ow_assign (v := .int .i64 5) rfl ?_)
        refine sr_nil ?_
        refine st_ret hb (hR _ _ (.int .i64 5) (res_run (vs := [.int .i64 5]) Tryz.results99 ⟨_, _, rfl, rfl, rfl⟩) ?_)
        refine ⟨_, rfl, ?_, H⟩
        simp only [classI, hc1, hc2, hc3, if_true, if_false, Bool.false_eq_true]
      · have hc3 : decide (c = 95) = false := hc3
        refine st_seq ?_
        refine st_region ?_
        refine sr_op rfl rfl (ow_move (v := .int .u8 c) rfl ?_)
        refine sr_op rfl rfl (ow_eql rfl rfl ?_)
        refine sr_op rfl rfl (ow_move (v := .bool (decide (c = 32))) rfl ?_)
        refine sr_cut 3 (fun m_ w_ => ∃ (r_ : Sl) (v_ : Bool), m_ = (34, .bool v_) :: (0, .int .u8 c) :: (2, .int .i64 0) :: r_ ∧ Hp B I w_ (L) ∧ v_ = ((decide (c = 32)) || (decide (c = 9)))) (fun again => ?_) ?_
        · rcases hg : decide (c = 32) with _ | _
          · refine sr_want rfl (j := 2) (d := 31) rfl rfl rfl (v := false) rfl rfl (ow_move (v := .int .u8 c) rfl ?_)
            refine sr_want rfl (j := 2) (d := 31) rfl rfl rfl (v := false) rfl rfl (ow_eql rfl rfl ?_)
            refine sr_op rfl rfl (ow_pick (v := .bool (decide (c = 9))) rfl rfl ?_)
            exact sr_live [34, 0, 2] (again _ _ ⟨_, _, rfl, H, by rw [hg] <;> rfl⟩)
          · refine sr_pass rfl (j := 2) (d := 31) rfl rfl rfl (u := true) (v := false) rfl rfl ?_
            refine sr_pass rfl (j := 2) (d := 31) rfl rfl rfl (u := true) (v := false) rfl rfl ?_
            refine sr_op rfl rfl (ow_pick (v := .bool true) rfl rfl ?_)
            exact sr_live [34, 0, 2] (again _ _ ⟨_, _, rfl, H, by rw [hg] <;> rfl⟩)
        rintro _ _ ⟨r, _, rfl, H, rfl⟩
        refine sr_op rfl rfl (ow_move (v := .bool ((decide (c = 32)) || (decide (c = 9)))) rfl ?_)
        refine sr_cut 3 (fun m_ w_ => ∃ (r_ : Sl) (v_ : Bool), m_ = (38, .bool v_) :: (0, .int .u8 c) :: (2, .int .i64 0) :: r_ ∧ Hp B I w_ (L) ∧ v_ = (((decide (c = 32)) || (decide (c = 9))) || (decide (c = 10)))) (fun again => ?_) ?_
        · rcases hg : (decide (c = 32)) || (decide (c = 9)) with _ | _
          · refine sr_want rfl (j := 6) (d := 35) rfl rfl rfl (v := false) rfl rfl (ow_move (v := .int .u8 c) rfl ?_)
            refine sr_want rfl (j := 6) (d := 35) rfl rfl rfl (v := false) rfl rfl (ow_eql rfl rfl ?_)
            refine sr_op rfl rfl (ow_pick (v := .bool (decide (c = 10))) rfl rfl ?_)
            exact sr_live [38, 0, 2] (again _ _ ⟨_, _, rfl, H, by rw [hg] <;> rfl⟩)
          · refine sr_pass rfl (j := 6) (d := 35) rfl rfl rfl (u := true) (v := false) rfl rfl ?_
            refine sr_pass rfl (j := 6) (d := 35) rfl rfl rfl (u := true) (v := false) rfl rfl ?_
            refine sr_op rfl rfl (ow_pick (v := .bool true) rfl rfl ?_)
            exact sr_live [38, 0, 2] (again _ _ ⟨_, _, rfl, H, by rw [hg] <;> rfl⟩)
        rintro _ _ ⟨r, _, rfl, H, rfl⟩
        refine sr_op rfl rfl (ow_move (v := .bool (((decide (c = 32)) || (decide (c = 9))) || (decide (c = 10)))) rfl ?_)
        refine sr_cut 3 (fun m_ w_ => ∃ (r_ : Sl) (v_ : Bool), m_ = (42, .bool v_) :: (0, .int .u8 c) :: (2, .int .i64 0) :: r_ ∧ Hp B I w_ (L) ∧ v_ = ((((decide (c = 32)) || (decide (c = 9))) || (decide (c = 10))) || (decide (c = 13)))) (fun again => ?_) ?_
        · rcases hg : ((decide (c = 32)) || (decide (c = 9))) || (decide (c = 10)) with _ | _
          · refine sr_want rfl (j := 10) (d := 39) rfl rfl rfl (v := false) rfl rfl (ow_move (v := .int .u8 c) rfl ?_)
            refine sr_want rfl (j := 10) (d := 39) rfl rfl rfl (v := false) rfl rfl (ow_eql rfl rfl ?_)
            refine sr_op rfl rfl (ow_pick (v := .bool (decide (c = 13))) rfl rfl ?_)
            exact sr_live [42, 0, 2] (again _ _ ⟨_, _, rfl, H, by rw [hg] <;> rfl⟩)
          · refine sr_pass rfl (j := 10) (d := 39) rfl rfl rfl (u := true) (v := false) rfl rfl ?_
            refine sr_pass rfl (j := 10) (d := 39) rfl rfl rfl (u := true) (v := false) rfl rfl ?_
            refine sr_op rfl rfl (ow_pick (v := .bool true) rfl rfl ?_)
            exact sr_live [42, 0, 2] (again _ _ ⟨_, _, rfl, H, by rw [hg] <;> rfl⟩)
        rintro _ _ ⟨r, _, rfl, H, rfl⟩
        refine sr_op rfl rfl (ow_assign (v := .bool ((((decide (c = 32)) || (decide (c = 9))) || (decide (c = 10))) || (decide (c = 13)))) rfl ?_)
        refine sr_nil ?_
        refine st_cond ((((decide (c = 32)) || (decide (c = 9))) || (decide (c = 10))) || (decide (c = 13))) rfl (fun hc4 => ?_) (fun hc4 => ?_)
        · have hc4 : spaceB c = true := hc4
          refine st_seq ?_
          refine st_region ?_
          refine sr_op rfl rfl (ow_assign (v := .int .i64 1) rfl ?_)
          refine sr_nil ?_
          refine st_ret hb (hR _ _ (.int .i64 1) (res_run (vs := [.int .i64 1]) Tryz.results99 ⟨_, _, rfl, rfl, rfl⟩) ?_)
          refine ⟨_, rfl, ?_, H⟩
          simp only [classI, hc1, hc2, hc3, hc4, if_true, if_false, Bool.false_eq_true]
        · have hc4 : spaceB c = false := hc4
          refine st_seq ?_
          refine st_region ?_
          refine sr_op rfl rfl (ow_move (v := .int .u8 c) rfl ?_)
          refine sr_op rfl rfl (ow_call en194 rfl (IndexByte_c H ⟨#[123, 125, 40, 41, 59, 44, 61, 58, 46, 60, 62, 33, 43, 45, 42, 47]⟩ c) ?_)
          rintro _ _ ⟨rfl, H⟩
          refine sr_op rfl rfl (ow_geq rfl rfl ?_)
          refine sr_op rfl rfl (ow_assign (v := .bool (decide (0 ≤ (ixByte ⟨#[123, 125, 40, 41, 59, 44, 61, 58, 46, 60, 62, 33, 43, 45, 42, 47]⟩ c)))) rfl ?_)
          refine sr_nil ?_
          refine st_cond (decide (0 ≤ (ixByte ⟨#[123, 125, 40, 41, 59, 44, 61, 58, 46, 60, 62, 33, 43, 45, 42, 47]⟩ c))) rfl (fun hc5 => ?_) (fun hc5 => ?_)
          · have hc5 : signB c = true := hc5
            refine st_seq ?_
            refine st_region ?_
            refine sr_op rfl rfl (ow_assign (v := .int .i64 4) rfl ?_)
            refine sr_nil ?_
            refine st_ret hb (hR _ _ (.int .i64 4) (res_run (vs := [.int .i64 4]) Tryz.results99 ⟨_, _, rfl, rfl, rfl⟩) ?_)
            refine ⟨_, rfl, ?_, H⟩
            simp only [classI, hc1, hc2, hc3, hc4, hc5, if_true, if_false, Bool.false_eq_true]
          · have hc5 : signB c = false := hc5
            refine st_skip ?_
            refine st_inBlock ?_
            refine st_seq ?_
            refine st_region ?_
            refine sr_op rfl rfl (ow_assign (v := .int .i64 0) rfl ?_)
            refine sr_nil ?_
            refine st_ret hb (hR _ _ (.int .i64 0) (res_run (vs := [.int .i64 0]) Tryz.results99 ⟨_, _, rfl, rfl, rfl⟩) ?_)
            refine ⟨_, rfl, ?_, H⟩
            simp only [classI, hc1, hc2, hc3, hc4, hc5, if_true, if_false, Bool.false_eq_true]
theorem hd_at {s : ByteArray} {u : UInt8} (h : s.data.toList[0]? = some u) : (u.toNat : Int) = hd s.data.toList := by
  cases hl : s.data.toList with
  | nil => rw [hl] at h; simp at h
  | cons a l => rw [hl] at h; simp at h; subst h; rfl
theorem bnt {b : Bool} (h : (!b) = true) : b = false := by simpa using h
theorem bnf {b : Bool} (h : (!b) = false) : b = true := by simpa using h
theorem name_no {a b c d : Bool} (h : ((a || b) || !c) = true) : (!a && !b && c && d) = false := by
  cases a <;> cases b <;> cases c <;> first | rfl | cases h
theorem name_all {a b c d : Bool} (h : ((a || b) || !c) = false) : (!a && !b && c && d) = d := by
  cases a <;> cases b <;> cases c <;> first | rfl | cases h
theorem str_nil (s : ByteArray) : decide (s = ⟨#[]⟩) = decide ((s.size : Int) < 1) := by
  rw [decide_eq_decide]
  constructor
  · rintro rfl
    decide
  · intro h
    have h0 : s.size = 0 := by omega
    obtain ⟨⟨l⟩⟩ := s
    cases l with
    | nil => rfl
    | cons a l => simp [ByteArray.size] at h0
theorem all_next {s : ByteArray} {i : Nat} {u : UInt8} {p : UInt8 → Bool} (hv : s.data.toList[i]? = some u) (h : (s.data.toList.take i).all p = true) (hp : p u = true) : (s.data.toList.take (i + 1)).all p = true := by
  rw [take_some hv, List.all_append, h]
  simp [hp]
theorem all_not {s : ByteArray} {i : Nat} {u : UInt8} {p : UInt8 → Bool} (hv : s.data.toList[i]? = some u) (hp : p u = false) : s.data.toList.all p = false := by
  rw [List.all_eq_false]
  exact ⟨u, List.mem_of_getElem? hv, by simp [hp]⟩
theorem class_letter (c : Int) : decide (classI c = 2) = letterB c := by
  unfold classI
  split
  · simp_all
  · repeat' split
    all_goals simp_all
theorem class_part (c : Int) : ((!decide (classI c = 2) && !decide (classI c = 3)) && !decide (classI c = 5)) = !partB c := by
  unfold classI partB
  repeat' split
  all_goals simp_all
theorem refName_c {B I L w} (H : Hp B I w L) (s : ByteArray) (hs : S63 s) : Calls Tryz.prog 103 #[.string s] w (Rt fun r w' => r = .bool (nameB s) ∧ Hp B I w' L) := by
  unfold S63 at hs
  refine calls_st (n := 29) Tryz.func103 rfl rfl rfl ?_
  intro G bF cs hb hfn hR hP
  simp only [ini]
  refine st_seq ?_
  refine st_region ?_
  refine sr_op rfl rfl (ow_assign (v := .bool false) rfl ?_)
  refine sr_nil ?_
  refine st_seq ?_
  refine st_seq ?_
  refine st_region ?_
  refine sr_op rfl rfl (ow_move (v := .string s) rfl ?_)
  refine sr_op rfl rfl (ow_lenT un9 rfl rfl ?_)
  refine sr_op rfl rfl (ow_lss rfl rfl ?_)
  refine sr_op rfl rfl (ow_move (v := .bool (decide ((s.size : Int) < 1))) rfl ?_)
  refine sr_cut 4 (fun m_ w_ => ∃ (r_ : Sl) (v_ : Bool), m_ = (11, .bool v_) :: (0, .string s) :: (2, .bool false) :: r_ ∧ Hp B I w_ (L) ∧ v_ = ((decide ((s.size : Int) < 1)) || (decide (32 < (s.size : Int))))) (fun again => ?_) ?_
  · rcases hg : decide ((s.size : Int) < 1) with _ | _
    · refine sr_want rfl (j := 3) (d := 7) rfl rfl rfl (v := false) rfl rfl (ow_move (v := .string s) rfl ?_)
      refine sr_want rfl (j := 3) (d := 7) rfl rfl rfl (v := false) rfl rfl (ow_lenT un9 rfl rfl ?_)
      refine sr_want rfl (j := 3) (d := 7) rfl rfl rfl (v := false) rfl rfl (ow_gtr rfl rfl ?_)
      refine sr_op rfl rfl (ow_pick (v := .bool (decide (32 < (s.size : Int)))) rfl rfl ?_)
      exact sr_live [11, 0, 2] (again _ _ ⟨_, _, rfl, H, by rw [hg] <;> rfl⟩)
    · refine sr_pass rfl (j := 3) (d := 7) rfl rfl rfl (u := true) (v := false) rfl rfl ?_
      refine sr_pass rfl (j := 3) (d := 7) rfl rfl rfl (u := true) (v := false) rfl rfl ?_
      refine sr_pass rfl (j := 3) (d := 7) rfl rfl rfl (u := true) (v := false) rfl rfl ?_
      refine sr_op rfl rfl (ow_pick (v := .bool true) rfl rfl ?_)
      exact sr_live [11, 0, 2] (again _ _ ⟨_, _, rfl, H, by rw [hg] <;> rfl⟩)
  rintro _ _ ⟨r, _, rfl, H, rfl⟩
  refine sr_op rfl rfl (ow_move (v := .bool ((decide ((s.size : Int) < 1)) || (decide (32 < (s.size : Int))))) rfl ?_)
  refine sr_cut 5 (fun m_ w_ => ∃ (r_ : Sl) (v_ : Bool), m_ = (17, .bool v_) :: (0, .string s) :: (2, .bool false) :: r_ ∧ Hp B I w_ (L) ∧ v_ = (((decide ((s.size : Int) < 1)) || (decide (32 < (s.size : Int)))) || (!(letterB (hd s.data.toList))))) (fun again => ?_) ?_
  · rcases hg : (decide ((s.size : Int) < 1)) || (decide (32 < (s.size : Int))) with _ | _
    · refine sr_want rfl (j := 8) (d := 12) rfl rfl rfl (v := false) rfl rfl (ow_move (v := .string s) rfl ?_)
      obtain ⟨u1, hu1, hv1⟩ := byte_at (s := s) (i := 0) (by first | omega | (simp at hg; omega) | (rw [str_nil] at hg; simp at hg; omega))
      refine sr_want rfl (j := 8) (d := 12) rfl rfl rfl (v := false) rfl rfl (ow_indexT un9 rfl rfl (by omega) (u := u1) hu1 ?_)
      rw [hd_at hv1]
      refine sr_want rfl (j := 8) (d := 12) rfl rfl rfl (v := false) rfl rfl (ow_call en200 rfl (Letter_c H (hd s.data.toList)) ?_)
      rintro _ _ ⟨rfl, H⟩
      refine sr_want rfl (j := 8) (d := 12) rfl rfl rfl (v := false) rfl rfl (ow_not rfl ?_)
      refine sr_op rfl rfl (ow_pick (v := .bool (!(letterB (hd s.data.toList)))) rfl rfl ?_)
      exact sr_live [17, 0, 2] (again _ _ ⟨_, _, rfl, H, by rw [hg] <;> rfl⟩)
    · refine sr_pass rfl (j := 8) (d := 12) rfl rfl rfl (u := true) (v := false) rfl rfl ?_
      refine sr_pass rfl (j := 8) (d := 12) rfl rfl rfl (u := true) (v := false) rfl rfl ?_
      refine sr_pass rfl (j := 8) (d := 12) rfl rfl rfl (u := true) (v := false) rfl rfl ?_
      refine sr_pass rfl (j := 8) (d := 12) rfl rfl rfl (u := true) (v := false) rfl rfl ?_
      refine sr_op rfl rfl (ow_pick (v := .bool true) rfl rfl ?_)
      exact sr_live [17, 0, 2] (again _ _ ⟨_, _, rfl, H, by rw [hg] <;> rfl⟩)
  rintro _ _ ⟨r, _, rfl, H, rfl⟩
  refine sr_nil ?_
  refine st_cond (((decide ((s.size : Int) < 1)) || (decide (32 < (s.size : Int)))) || (!(letterB (hd s.data.toList)))) rfl (fun hc2 => ?_) (fun hc2 => ?_)
  · refine st_seq ?_
    refine st_region ?_
    refine sr_op rfl rfl (ow_assign (v := .bool false) rfl ?_)
    refine sr_nil ?_
    refine st_ret hb (hR _ _ (.bool false) (res_run (vs := [.bool false]) Tryz.results103 ⟨_, _, rfl, rfl, rfl⟩) ?_)
    exact ⟨_, rfl, by rw [nameB, name_no hc2], H⟩
  · refine st_skip ?_
    refine st_seq ?_
    refine st_seq ?_
    refine st_region ?_
    refine sr_op rfl rfl (ow_assign (v := .int .i64 0) rfl ?_)
    refine sr_nil ?_
    refine st_block ?_
    refine st_loop ?_
    refine st_live [0, 3] ?_
    refine st_ind (fun d_ m_ w_ => ∃ (i : Nat) (r_ : Sl), d_ = s.size - i ∧ m_ = (0, .string s) :: (3, .int .i64 (i : Int)) :: r_ ∧ Hp B I w_ (L) ∧ i ≤ s.size ∧ (s.data.toList.take i).all (fun u : UInt8 => partB (u.toNat : Int)) = true) _ ⟨0, _, rfl, rfl, H, Nat.zero_le _, rfl⟩ ?_
    rintro _ _ _ ⟨i, r3, rfl, rfl, H, hi, ha⟩ ih4
    refine st_seq ?_
    refine st_seq ?_
    refine st_region ?_
    refine sr_op rfl rfl (ow_move (v := .int .i64 (i : Int)) rfl ?_)
    refine sr_op rfl rfl (ow_move (v := .string s) rfl ?_)
    refine sr_op rfl rfl (ow_lenT un9 rfl rfl ?_)
    refine sr_op rfl rfl (ow_lss rfl rfl ?_)
    refine sr_nil ?_
    refine st_cond (decide ((i : Int) < (s.size : Int))) rfl (fun hc5 => ?_) (fun hc5 => ?_)
    · have hc5 := of_decide_eq_true hc5
      refine st_skip ?_
      refine st_seq ?_
      refine st_block ?_
      refine st_seq ?_
      refine st_region ?_
      refine sr_op rfl rfl (ow_move (v := .string s) rfl ?_)
      refine sr_op rfl rfl (ow_move (v := .int .i64 (i : Int)) rfl ?_)
      obtain ⟨u6, hu6, hv6⟩ := byte_at (s := s) (i := i) (by first | omega | (simp at hg; omega) | (rw [str_nil] at hg; simp at hg; omega))
      refine sr_op rfl rfl (ow_indexT un9 rfl rfl (by omega) (u := u6) hu6 ?_)
      refine sr_op rfl rfl (ow_call en201 rfl (part_c H (u6.toNat : Int)) ?_)
      rintro _ _ ⟨rfl, H⟩
      refine sr_op rfl rfl (ow_not rfl ?_)
      refine sr_nil ?_
      refine st_cond (!(partB (u6.toNat : Int))) rfl (fun hc7 => ?_) (fun hc7 => ?_)
      · have hc7 := bnt hc7
        refine st_seq ?_
        refine st_region ?_
        refine sr_op rfl rfl (ow_assign (v := .bool false) rfl ?_)
        refine sr_nil ?_
        refine st_ret hb (hR _ _ (.bool false) (res_run (vs := [.bool false]) Tryz.results103 ⟨_, _, rfl, rfl, rfl⟩) ?_)
        exact ⟨_, rfl, by rw [nameB, name_all hc2, all_not (p := (fun u : UInt8 => partB (u.toNat : Int))) hv6 hc7], H⟩
      · have hc7 := bnf hc7
        refine st_skip ?_
        refine st_inBlock ?_
        refine st_region ?_
        refine sr_op rfl rfl (ow_move (v := .int .i64 (i : Int)) rfl ?_)
        refine sr_op rfl rfl (ow_add (r := ((i + 1 : Nat) : Int)) rfl rfl (inc_i64 (by omega)) ?_)
        refine sr_op rfl rfl (ow_assign (v := .int .i64 ((i + 1 : Nat) : Int)) rfl ?_)
        refine sr_nil ?_
        exact st_inLoop (st_live [0, 3] (ih4 _ _ _ (by omega) ⟨i + 1, _, rfl, rfl, H, by omega, all_next (p := (fun u : UInt8 => partB (u.toNat : Int))) hv6 ha hc7⟩))
    · have hc5 := of_decide_eq_false hc5
      refine st_exit rfl ?_
      refine st_seq ?_
      refine st_region ?_
      refine sr_op rfl rfl (ow_assign (v := .bool true) rfl ?_)
      refine sr_nil ?_
      refine st_ret hb (hR _ _ (.bool true) (res_run (vs := [.bool true]) Tryz.results103 ⟨_, _, rfl, rfl, rfl⟩) ?_)
      have ht : s.data.toList.take i = s.data.toList := List.take_of_length_le (by rw [← size_data]; omega)
      rw [ht] at ha
      exact ⟨_, rfl, by rw [nameB, name_all hc2, ha], H⟩
theorem Name_c {B I L w} (H : Hp B I w L) (s : ByteArray) (hs : S63 s) : Calls Tryz.prog 195 #[.string s] w (Rt fun r w' => r = .bool (nameB s) ∧ Hp B I w' L) := by
  unfold S63 at hs
  refine calls_st (n := 38) Tryz.func195 rfl rfl rfl ?_
  intro G bF cs hb hfn hR hP
  simp only [ini]
  refine st_seq ?_
  refine st_region ?_
  refine sr_op rfl rfl (ow_assign (v := .bool false) rfl ?_)
  refine sr_nil ?_
  refine st_seq ?_
  refine st_seq ?_
  refine st_region ?_
  refine sr_op rfl rfl (ow_move (v := .string s) rfl ?_)
  refine sr_op rfl rfl (ow_seq rfl rfl ?_)
  refine sr_op rfl rfl (ow_move (v := .bool (decide (s = ⟨#[]⟩))) rfl ?_)
  refine sr_cut 4 (fun m_ w_ => ∃ (r_ : Sl) (v_ : Bool), m_ = (11, .bool v_) :: (0, .string s) :: (2, .bool false) :: r_ ∧ Hp B I w_ (L) ∧ v_ = ((decide (s = ⟨#[]⟩)) || (decide (32 < (s.size : Int))))) (fun again => ?_) ?_
  · rcases hg : decide (s = ⟨#[]⟩) with _ | _
    · refine sr_want rfl (j := 2) (d := 7) rfl rfl rfl (v := false) rfl rfl (ow_move (v := .string s) rfl ?_)
      refine sr_want rfl (j := 2) (d := 7) rfl rfl rfl (v := false) rfl rfl (ow_lenT un9 rfl rfl ?_)
      refine sr_want rfl (j := 2) (d := 7) rfl rfl rfl (v := false) rfl rfl (ow_gtr rfl rfl ?_)
      refine sr_op rfl rfl (ow_pick (v := .bool (decide (32 < (s.size : Int)))) rfl rfl ?_)
      exact sr_live [11, 0, 2] (again _ _ ⟨_, _, rfl, H, by rw [hg] <;> rfl⟩)
    · refine sr_pass rfl (j := 2) (d := 7) rfl rfl rfl (u := true) (v := false) rfl rfl ?_
      refine sr_pass rfl (j := 2) (d := 7) rfl rfl rfl (u := true) (v := false) rfl rfl ?_
      refine sr_pass rfl (j := 2) (d := 7) rfl rfl rfl (u := true) (v := false) rfl rfl ?_
      refine sr_op rfl rfl (ow_pick (v := .bool true) rfl rfl ?_)
      exact sr_live [11, 0, 2] (again _ _ ⟨_, _, rfl, H, by rw [hg] <;> rfl⟩)
  rintro _ _ ⟨r, _, rfl, H, rfl⟩
  refine sr_op rfl rfl (ow_move (v := .bool ((decide (s = ⟨#[]⟩)) || (decide (32 < (s.size : Int))))) rfl ?_)
  refine sr_cut 5 (fun m_ w_ => ∃ (r_ : Sl) (v_ : Bool), m_ = (17, .bool v_) :: (0, .string s) :: (2, .bool false) :: r_ ∧ Hp B I w_ (L) ∧ v_ = (((decide (s = ⟨#[]⟩)) || (decide (32 < (s.size : Int)))) || (!decide ((classI (hd s.data.toList)) = 2)))) (fun again => ?_) ?_
  · rcases hg : (decide (s = ⟨#[]⟩)) || (decide (32 < (s.size : Int))) with _ | _
    · refine sr_want rfl (j := 7) (d := 12) rfl rfl rfl (v := false) rfl rfl (ow_move (v := .string s) rfl ?_)
      obtain ⟨u1, hu1, hv1⟩ := byte_at (s := s) (i := 0) (by first | omega | (simp at hg; omega) | (rw [str_nil] at hg; simp at hg; omega))
      refine sr_want rfl (j := 7) (d := 12) rfl rfl rfl (v := false) rfl rfl (ow_indexT un9 rfl rfl (by omega) (u := u1) hu1 ?_)
      rw [hd_at hv1]
      refine sr_want rfl (j := 7) (d := 12) rfl rfl rfl (v := false) rfl rfl (ow_call en99 rfl (class_c H (hd s.data.toList)) ?_)
      rintro _ _ ⟨rfl, H⟩
      refine sr_want rfl (j := 7) (d := 12) rfl rfl rfl (v := false) rfl rfl (ow_neq rfl rfl ?_)
      refine sr_op rfl rfl (ow_pick (v := .bool (!decide ((classI (hd s.data.toList)) = 2))) rfl rfl ?_)
      exact sr_live [17, 0, 2] (again _ _ ⟨_, _, rfl, H, by rw [hg] <;> rfl⟩)
    · refine sr_pass rfl (j := 7) (d := 12) rfl rfl rfl (u := true) (v := false) rfl rfl ?_
      refine sr_pass rfl (j := 7) (d := 12) rfl rfl rfl (u := true) (v := false) rfl rfl ?_
      refine sr_pass rfl (j := 7) (d := 12) rfl rfl rfl (u := true) (v := false) rfl rfl ?_
      refine sr_pass rfl (j := 7) (d := 12) rfl rfl rfl (u := true) (v := false) rfl rfl ?_
      refine sr_op rfl rfl (ow_pick (v := .bool true) rfl rfl ?_)
      exact sr_live [17, 0, 2] (again _ _ ⟨_, _, rfl, H, by rw [hg] <;> rfl⟩)
  rintro _ _ ⟨r, _, rfl, H, rfl⟩
  refine sr_nil ?_
  refine st_cond (((decide (s = ⟨#[]⟩)) || (decide (32 < (s.size : Int)))) || (!decide ((classI (hd s.data.toList)) = 2))) rfl (fun hc2 => ?_) (fun hc2 => ?_)
  · rw [str_nil, class_letter] at hc2; skip
    refine st_seq ?_
    refine st_region ?_
    refine sr_op rfl rfl (ow_assign (v := .bool false) rfl ?_)
    refine sr_nil ?_
    refine st_ret hb (hR _ _ (.bool false) (res_run (vs := [.bool false]) Tryz.results195 ⟨_, _, rfl, rfl, rfl⟩) ?_)
    exact ⟨_, rfl, by rw [nameB, name_no hc2], H⟩
  · rw [str_nil, class_letter] at hc2; skip
    refine st_skip ?_
    refine st_seq ?_
    refine st_seq ?_
    refine st_region ?_
    refine sr_op rfl rfl (ow_move (v := .string s) rfl ?_)
    refine sr_op rfl rfl (ow_lenT un9 rfl rfl ?_)
    refine sr_op rfl rfl (ow_move (v := .int .i64 0) rfl ?_)
    refine sr_nil ?_
    refine st_block ?_
    refine st_loop ?_
    refine st_live [0, 19, 20] ?_
    refine st_ind (fun d_ m_ w_ => ∃ (i : Nat) (r_ : Sl), d_ = s.size - i ∧ m_ = (0, .string s) :: (19, .int .i64 (s.size : Int)) :: (20, .int .i64 (i : Int)) :: r_ ∧ Hp B I w_ (L) ∧ i ≤ s.size ∧ (s.data.toList.take i).all (fun u : UInt8 => partB (u.toNat : Int)) = true) _ ⟨0, _, rfl, rfl, H, Nat.zero_le _, rfl⟩ ?_
    rintro _ _ _ ⟨i, r3, rfl, rfl, H, hi, ha⟩ ih4
    refine st_seq ?_
    refine st_region ?_
    refine sr_op rfl rfl (ow_lss rfl rfl ?_)
    refine sr_nil ?_
    refine st_seq ?_
    refine st_cond (decide ((i : Int) < (s.size : Int))) rfl (fun hc5 => ?_) (fun hc5 => ?_)
    · have hc5 := of_decide_eq_true hc5
      refine st_skip ?_
      refine st_seq ?_
      refine st_block ?_
      refine st_seq ?_
      refine st_region ?_
      refine sr_op rfl rfl (ow_move (v := .int .i64 (i : Int)) rfl ?_)
      refine sr_op rfl rfl (ow_assign (v := .int .i64 (i : Int)) rfl ?_)
      refine sr_nil ?_
      refine st_seq ?_
      refine st_region ?_
      refine sr_op rfl rfl (ow_move (v := .string s) rfl ?_)
      refine sr_op rfl rfl (ow_move (v := .int .i64 (i : Int)) rfl ?_)
      obtain ⟨u6, hu6, hv6⟩ := byte_at (s := s) (i := i) (by first | omega | (simp at hg; omega) | (rw [str_nil] at hg; simp at hg; omega))
      refine sr_op rfl rfl (ow_indexT un9 rfl rfl (by omega) (u := u6) hu6 ?_)
      refine sr_op rfl rfl (ow_call en99 rfl (class_c H (u6.toNat : Int)) ?_)
      rintro _ _ ⟨rfl, H⟩
      refine sr_op rfl rfl (ow_assign (v := .int .i64 (classI (u6.toNat : Int))) rfl ?_)
      refine sr_nil ?_
      refine st_seq ?_
      refine st_region ?_
      refine sr_op rfl rfl (ow_move (v := .int .i64 (classI (u6.toNat : Int))) rfl ?_)
      refine sr_op rfl rfl (ow_neq rfl rfl ?_)
      refine sr_op rfl rfl (ow_move (v := .bool (!decide ((classI (u6.toNat : Int)) = 2))) rfl ?_)
      refine sr_cut 3 (fun m_ w_ => ∃ (r_ : Sl) (v_ : Bool), m_ = (32, .bool v_) :: (0, .string s) :: (4, .int .i64 (classI (u6.toNat : Int))) :: (19, .int .i64 (s.size : Int)) :: (20, .int .i64 (i : Int)) :: r_ ∧ Hp B I w_ (L) ∧ v_ = ((!decide ((classI (u6.toNat : Int)) = 2)) && (!decide ((classI (u6.toNat : Int)) = 3)))) (fun again => ?_) ?_
      · rcases hg : !decide ((classI (u6.toNat : Int)) = 2) with _ | _
        · refine sr_pass rfl (j := 2) (d := 29) rfl rfl rfl (u := false) (v := true) rfl rfl ?_
          refine sr_pass rfl (j := 2) (d := 29) rfl rfl rfl (u := false) (v := true) rfl rfl ?_
          refine sr_op rfl rfl (ow_pick (v := .bool false) rfl rfl ?_)
          exact sr_live [32, 0, 4, 19, 20] (again _ _ ⟨_, _, rfl, H, by rw [hg] <;> rfl⟩)
        · refine sr_want rfl (j := 2) (d := 29) rfl rfl rfl (v := true) rfl rfl (ow_move (v := .int .i64 (classI (u6.toNat : Int))) rfl ?_)
          refine sr_want rfl (j := 2) (d := 29) rfl rfl rfl (v := true) rfl rfl (ow_neq rfl rfl ?_)
          refine sr_op rfl rfl (ow_pick (v := .bool (!decide ((classI (u6.toNat : Int)) = 3))) rfl rfl ?_)
          exact sr_live [32, 0, 4, 19, 20] (again _ _ ⟨_, _, rfl, H, by rw [hg] <;> rfl⟩)
      rintro _ _ ⟨r, _, rfl, H, rfl⟩
      refine sr_op rfl rfl (ow_move (v := .bool ((!decide ((classI (u6.toNat : Int)) = 2)) && (!decide ((classI (u6.toNat : Int)) = 3)))) rfl ?_)
      refine sr_cut 3 (fun m_ w_ => ∃ (r_ : Sl) (v_ : Bool), m_ = (36, .bool v_) :: (0, .string s) :: (19, .int .i64 (s.size : Int)) :: (20, .int .i64 (i : Int)) :: r_ ∧ Hp B I w_ (L) ∧ v_ = (((!decide ((classI (u6.toNat : Int)) = 2)) && (!decide ((classI (u6.toNat : Int)) = 3))) && (!decide ((classI (u6.toNat : Int)) = 5)))) (fun again => ?_) ?_
      · rcases hg : (!decide ((classI (u6.toNat : Int)) = 2)) && (!decide ((classI (u6.toNat : Int)) = 3)) with _ | _
        · refine sr_pass rfl (j := 6) (d := 33) rfl rfl rfl (u := false) (v := true) rfl rfl ?_
          refine sr_pass rfl (j := 6) (d := 33) rfl rfl rfl (u := false) (v := true) rfl rfl ?_
          refine sr_op rfl rfl (ow_pick (v := .bool false) rfl rfl ?_)
          exact sr_live [36, 0, 19, 20] (again _ _ ⟨_, _, rfl, H, by rw [hg] <;> rfl⟩)
        · refine sr_want rfl (j := 6) (d := 33) rfl rfl rfl (v := true) rfl rfl (ow_move (v := .int .i64 (classI (u6.toNat : Int))) rfl ?_)
          refine sr_want rfl (j := 6) (d := 33) rfl rfl rfl (v := true) rfl rfl (ow_neq rfl rfl ?_)
          refine sr_op rfl rfl (ow_pick (v := .bool (!decide ((classI (u6.toNat : Int)) = 5))) rfl rfl ?_)
          exact sr_live [36, 0, 19, 20] (again _ _ ⟨_, _, rfl, H, by rw [hg] <;> rfl⟩)
      rintro _ _ ⟨r, _, rfl, H, rfl⟩
      refine sr_nil ?_
      refine st_cond (((!decide ((classI (u6.toNat : Int)) = 2)) && (!decide ((classI (u6.toNat : Int)) = 3))) && (!decide ((classI (u6.toNat : Int)) = 5))) rfl (fun hc7 => ?_) (fun hc7 => ?_)
      · rw [class_part] at hc7
        have hc7 := bnt hc7
        refine st_seq ?_
        refine st_region ?_
        refine sr_op rfl rfl (ow_assign (v := .bool false) rfl ?_)
        refine sr_nil ?_
        refine st_ret hb (hR _ _ (.bool false) (res_run (vs := [.bool false]) Tryz.results195 ⟨_, _, rfl, rfl, rfl⟩) ?_)
        exact ⟨_, rfl, by rw [nameB, name_all hc2, all_not (p := (fun u : UInt8 => partB (u.toNat : Int))) hv6 hc7], H⟩
      · rw [class_part] at hc7
        have hc7 := bnf hc7
        refine st_skip ?_
        refine st_inBlock ?_
        refine st_region ?_
        refine sr_op rfl rfl (ow_add (r := ((i + 1 : Nat) : Int)) rfl rfl (inc_i64 (by omega)) ?_)
        refine sr_op rfl rfl (ow_move (v := .int .i64 ((i + 1 : Nat) : Int)) rfl ?_)
        refine sr_nil ?_
        exact st_inLoop (st_live [0, 19, 20] (ih4 _ _ _ (by omega) ⟨i + 1, _, rfl, rfl, H, by omega, all_next (p := (fun u : UInt8 => partB (u.toNat : Int))) hv6 ha hc7⟩))
    · have hc5 := of_decide_eq_false hc5
      refine st_exit rfl ?_
      refine st_seq ?_
      refine st_region ?_
      refine sr_op rfl rfl (ow_assign (v := .bool true) rfl ?_)
      refine sr_nil ?_
      refine st_ret hb (hR _ _ (.bool true) (res_run (vs := [.bool true]) Tryz.results195 ⟨_, _, rfl, rfl, rfl⟩) ?_)
      have ht : s.data.toList.take i = s.data.toList := List.take_of_length_le (by rw [← size_data]; omega)
      rw [ht] at ha
      exact ⟨_, rfl, by rw [nameB, name_all hc2, ha], H⟩
end Go.Proofs.YtghmjnbpkobooaaGreatDoor
