/-
  Walks: the examples with which the statements begin, part 3: sane.
-/
import Derived.Test.YtbbflenaeihmeaaDoorP20
set_option linter.unusedVariables false
set_option linter.unusedSimpArgs false
set_option maxRecDepth 10000
set_option maxHeartbeats 4000000
namespace Go.Proofs.YtbbflenaeihmeaaDoor
open Go Go.RowKit

def someR : Ex := ⟨1, 0, 0, headS, []⟩
def weightR : Ex := ⟨2, 5, 1, boardS, []⟩
def uptoR : Ex := ⟨4, 100, 0, ⟨#[]⟩, [someR, weightR]⟩
def ofR : Ex := ⟨3, 2, 0, ⟨#[]⟩, [someR, weightR]⟩
def ruleR : Ru := ⟨letterS, 0, 7, uptoR⟩
def smallR : Po := ⟨houseS, [letterS], [headS, boardS], [ruleR], ofR, 3⟩
def oneVe : List Ve := [⟨3, 10, 0, smallR⟩]
def zeroVe : List Ve := [⟨0, 0, 0, zeroPo⟩]
theorem small_err : errOf smallP = 0 := by kernel_rfl
theorem small_res : resP smallP = smallR := by kernel_rfl
theorem small_chk : checkE smallR = 0 := by kernel_rfl
theorem small_chk2 : checkE smallP = 200 := by kernel_rfl
theorem one_9 : standE oneVe 9 0 = (0, false, 0) := by kernel_rfl
theorem one_10 : standE oneVe 10 0 = (3, true, 0) := by kernel_rfl
theorem one_m1 : standE oneVe (-1) 0 = (0, false, 1) := by kernel_rfl
theorem one_all : allE oneVe = 0 := by kernel_rfl
theorem zero_all : allE zeroVe = 200 := by kernel_rfl
theorem Resolve_small {B I L w} (H : Hp B I w L) {us : List Value} (hp : RepL I (encPo smallP) us) (hkd : At I 0 0 kindsV) : Calls Tryd.prog 19 #[.agg us.toArray] w (Rt fun r w' => ∃ I' us', Le I I' ∧ Hp B I' w' L ∧ r = .tuple #[.agg us'.toArray, .int .i64 0] ∧ RepL I' (encPo smallR) us') := by
  have h := Resolve_c H hp hkd
  rw [small_err, small_res] at h
  exact h
theorem Check_smallR {B I L w} (H : Hp B I w L) {us : List Value} (hp : RepL I (encPo smallR) us) (hkd : At I 0 0 kindsV) : Calls Tryd.prog 22 #[.agg us.toArray] w (Rt fun r w' => r = .int .i64 0 ∧ Hp B I w' L) := by
  have h := Check_c H hp hkd
  rw [small_chk] at h
  exact h
theorem Check_smallP {B I L w} (H : Hp B I w L) {us : List Value} (hp : RepL I (encPo smallP) us) (hkd : At I 0 0 kindsV) : Calls Tryd.prog 22 #[.agg us.toArray] w (Rt fun r w' => r = .int .i64 200 ∧ Hp B I w' L) := by
  have h := Check_c H hp hkd
  rw [small_chk2] at h
  exact h
theorem Standing_9 {B I L w} (H : Hp B I w L) {v : Value} (hl : RepS encVe I 13 oneVe v) (hkd : At I 0 0 kindsV) : Calls Tryd.prog 25 #[v, .int .i64 9, .int .i64 0] w (Rt fun r w' => r = .tuple #[.int .i64 0, .bool false, .int .i64 0] ∧ Hp B I w' L) := by
  have h := Standing_c H hl hkd 9 0
  rw [one_9] at h
  exact h
theorem Standing_10 {B I L w} (H : Hp B I w L) {v : Value} (hl : RepS encVe I 13 oneVe v) (hkd : At I 0 0 kindsV) : Calls Tryd.prog 25 #[v, .int .i64 10, .int .i64 0] w (Rt fun r w' => r = .tuple #[.int .i64 3, .bool true, .int .i64 0] ∧ Hp B I w' L) := by
  have h := Standing_c H hl hkd 10 0
  rw [one_10] at h
  exact h
theorem Standing_m1 {B I L w} (H : Hp B I w L) {v : Value} (hl : RepS encVe I 13 oneVe v) (hkd : At I 0 0 kindsV) : Calls Tryd.prog 25 #[v, .int .i64 (-1), .int .i64 0] w (Rt fun r w' => r = .tuple #[.int .i64 0, .bool false, .int .i64 1] ∧ Hp B I w' L) := by
  have h := Standing_c H hl hkd (-1) 0
  rw [one_m1] at h
  exact h
theorem CheckAll_one {B I L w} (H : Hp B I w L) {v : Value} (hl : RepS encVe I 13 oneVe v) (hkd : At I 0 0 kindsV) : Calls Tryd.prog 27 #[v] w (Rt fun r w' => r = .int .i64 0 ∧ Hp B I w' L) := by
  have h := CheckAll_c H hl hkd
  rw [one_all] at h
  exact h
theorem CheckAll_zero {B I L w} (H : Hp B I w L) {v : Value} (hl : RepS encVe I 13 zeroVe v) (hkd : At I 0 0 kindsV) : Calls Tryd.prog 27 #[v] w (Rt fun r w' => r = .int .i64 200 ∧ Hp B I w' L) := by
  have h := CheckAll_c H hl hkd
  rw [zero_all] at h
  exact h
theorem chg1_err : errOf chg1 = 201 := by kernel_rfl
theorem changed_1 {B I L w} (H : Hp B I w L)  (hkd : At I 0 0 kindsV) : Calls Tryd.prog 47 #[.func (.func 48) #[] #[]] w (Rt fun r w' => r = .int .i64 201 ∧ Hp B I w' L) := by
  have h := changed_c en48 turns1 H hkd
  rw [chg1_err] at h
  exact h
theorem chg2_err : errOf chg2 = 201 := by kernel_rfl
theorem changed_2 {B I L w} (H : Hp B I w L)  (hkd : At I 0 0 kindsV) : Calls Tryd.prog 47 #[.func (.func 49) #[] #[]] w (Rt fun r w' => r = .int .i64 201 ∧ Hp B I w' L) := by
  have h := changed_c en49 turns2 H hkd
  rw [chg2_err] at h
  exact h
theorem chg3_err : errOf chg3 = 200 := by kernel_rfl
theorem changed_3 {B I L w} (H : Hp B I w L)  (hkd : At I 0 0 kindsV) : Calls Tryd.prog 47 #[.func (.func 50) #[] #[]] w (Rt fun r w' => r = .int .i64 200 ∧ Hp B I w' L) := by
  have h := changed_c en50 turns3 H hkd
  rw [chg3_err] at h
  exact h
theorem chg4_err : errOf chg4 = 200 := by kernel_rfl
theorem changed_4 {B I L w} (H : Hp B I w L)  (hkd : At I 0 0 kindsV) : Calls Tryd.prog 47 #[.func (.func 51) #[] #[]] w (Rt fun r w' => r = .int .i64 200 ∧ Hp B I w' L) := by
  have h := changed_c en51 turns4 H hkd
  rw [chg4_err] at h
  exact h
theorem chg5_err : errOf chg5 = 200 := by kernel_rfl
theorem changed_5 {B I L w} (H : Hp B I w L)  (hkd : At I 0 0 kindsV) : Calls Tryd.prog 47 #[.func (.func 52) #[] #[]] w (Rt fun r w' => r = .int .i64 200 ∧ Hp B I w' L) := by
  have h := changed_c en52 turns5 H hkd
  rw [chg5_err] at h
  exact h
theorem chg6_err : errOf chg6 = 2 := by kernel_rfl
theorem changed_6 {B I L w} (H : Hp B I w L)  (hkd : At I 0 0 kindsV) : Calls Tryd.prog 47 #[.func (.func 53) #[] #[]] w (Rt fun r w' => r = .int .i64 2 ∧ Hp B I w' L) := by
  have h := changed_c en53 turns6 H hkd
  rw [chg6_err] at h
  exact h
theorem sane_c {B I L w} (H : Hp B I w L) (hkd : At I 0 0 kindsV) : Calls Tryd.prog 17 #[] w (Rt fun r w' => r = .bool true ∧ Hp B I w' L) := by
  refine calls_st (n := 167) Tryd.func17 rfl rfl rfl ?_
  intro G bF cs hb hfn hR hP
  simp only [ini]
  refine st_seq ?_
  refine st_region ?_
  refine sr_op rfl rfl (ow_assign (v := .bool false) rfl ?_)
  refine sr_nil ?_
  refine st_seq ?_
  refine st_region ?_
  refine sr_op rfl rfl (ow_call en46 rfl (small_c H) ?_)
  rintro _ _ ⟨I1, us1, hI1, H, rfl, hr1⟩
  have d1 := hr1
  obtain ⟨d1v1, d1v2, d1v3, d1v8, rfl, d1_0, d1_1, d1_2, d1_3, d1_4, d1_5, d1_6, d1_7, d1_8, d1_9⟩ := po_iff.1 hr1
  obtain ⟨d1A1, d1c1, rfl, d1m1, d1M1, d1_1⟩ := RepS.open_ d1_1
  obtain ⟨d1A2, d1c2, rfl, d1m2, d1M2, d1_2⟩ := RepS.open_ d1_2
  obtain ⟨d1A3, d1c3, rfl, d1m3, d1M3, d1_3⟩ := RepS.open_ d1_3
  obtain ⟨d1A8, d1c8, rfl, d1m8, d1M8, d1_8⟩ := RepS.open_ d1_8
  have hkd := (hkd.mono hI1)
  refine sr_op rfl rfl (ow_call en19 rfl (Resolve_small H d1 hkd) ?_)
  rintro _ _ ⟨I2, us2, hI2, H, rfl, hr2⟩
  have d2 := hr2
  obtain ⟨d2v1, d2v2, d2v3, d2v8, rfl, d2_0, d2_1, d2_2, d2_3, d2_4, d2_5, d2_6, d2_7, d2_8, d2_9⟩ := po_iff.1 hr2
  obtain ⟨d2A1, d2c1, rfl, d2m1, d2M1, d2_1⟩ := RepS.open_ d2_1
  obtain ⟨d2A2, d2c2, rfl, d2m2, d2M2, d2_2⟩ := RepS.open_ d2_2
  obtain ⟨d2A3, d2c3, rfl, d2m3, d2M3, d2_3⟩ := RepS.open_ d2_3
  obtain ⟨d2A8, d2c8, rfl, d2m8, d2M8, d2_8⟩ := RepS.open_ d2_8
  refine sr_op rfl rfl (ow_move (v := .tuple #[.agg #[.string smallR.name, .slice d2A1 smallR.kinds.length d2c1, .slice d2A2 smallR.offices.length d2c2, .slice d2A3 1 d2c3, .int .i64 smallR.change.kind, .int .i64 smallR.change.n, .int .i64 smallR.change.no, .string smallR.change.name, .slice d2A8 2 d2c8, .int .i64 smallR.mode], .int .i64 0]) rfl ?_)
  refine sr_op rfl rfl (ow_extract (v := .agg #[.string smallR.name, .slice d2A1 smallR.kinds.length d2c1, .slice d2A2 smallR.offices.length d2c2, .slice d2A3 1 d2c3, .int .i64 smallR.change.kind, .int .i64 smallR.change.n, .int .i64 smallR.change.no, .string smallR.change.name, .slice d2A8 2 d2c8, .int .i64 smallR.mode]) rfl rfl ?_)
  refine sr_op rfl rfl (ow_extract (v := .int .i64 0) rfl rfl ?_)
  refine sr_op rfl rfl (ow_alloc ty28 H [.string ⟨#[]⟩, .slice none 0 0, .slice none 0 0, .slice none 0 0, .int .i64 0, .int .i64 0, .int .i64 0, .string ⟨#[]⟩, .slice none 0 0, .int .i64 0] rfl (fun g3 _ H => ?_))
  refine sr_op rfl rfl (ow_store ty28 H rfl (v := .agg #[.string smallR.name, .slice d2A1 smallR.kinds.length d2c1, .slice d2A2 smallR.offices.length d2c2, .slice d2A3 1 d2c3, .int .i64 smallR.change.kind, .int .i64 smallR.change.n, .int .i64 smallR.change.no, .string smallR.change.name, .slice d2A8 2 d2c8, .int .i64 smallR.mode]) rfl [.string smallR.name, .slice d2A1 smallR.kinds.length d2c1, .slice d2A2 smallR.offices.length d2c2, .slice d2A3 1 d2c3, .int .i64 smallR.change.kind, .int .i64 smallR.change.n, .int .i64 smallR.change.no, .string smallR.change.name, .slice d2A8 2 d2c8, .int .i64 smallR.mode] rfl rfl rfl 0 rfl rfl (fun _ H => ?_))
  refine sr_op rfl rfl (ow_assign (v := .int .i64 0) rfl ?_)
  refine sr_nil ?_
  refine st_seq ?_
  refine st_seq ?_
  refine st_region ?_
  refine sr_op rfl rfl (ow_move (v := .int .i64 0) rfl ?_)
  refine sr_op rfl rfl (ow_neq rfl rfl ?_)
  refine sr_op rfl rfl (ow_move (v := .bool false) rfl ?_)
  refine sr_want rfl (j := 2) (d := 20) rfl rfl rfl (v := false) rfl rfl (ow_fieldAddr fd28_3 ty23 rfl rfl (r := 3) rfl ?_)
  refine sr_want rfl (j := 2) (d := 20) rfl rfl rfl (v := false) rfl rfl (ow_load (v := .slice d2A3 1 d2c3) ty23 H rfl 0 rfl rfl rfl rfl ?_)
  refine sr_want rfl (j := 2) (d := 20) rfl rfl rfl (v := false) rfl rfl (ow_lenS sl23 rfl rfl ?_)
  refine sr_want rfl (j := 2) (d := 20) rfl rfl rfl (v := false) rfl rfl (ow_neq rfl rfl ?_)
  refine sr_op rfl rfl (ow_pick (v := .bool false) rfl rfl ?_)
  refine sr_op rfl rfl (ow_move (v := .bool false) rfl ?_)
  refine sr_want rfl (j := 8) (d := 26) rfl rfl rfl (v := false) rfl rfl (ow_fieldAddr fd28_3 ty23 rfl rfl (r := 3) rfl ?_)
  refine sr_want rfl (j := 8) (d := 26) rfl rfl rfl (v := false) rfl rfl (ow_load (v := .slice d2A3 1 d2c3) ty23 H rfl 0 rfl rfl rfl rfl ?_)
  have he4 : smallR.rules[0]? = some ruleR := rfl
  obtain ⟨b4, o4, us4, hA4, hat4, hul4, hr4⟩ := RepS.get d2_3 he4
  have d4 := hr4
  obtain ⟨d4v7, rfl, d4_0, d4_1, d4_2, d4_3, d4_4, d4_5, d4_6, d4_7⟩ := ru_iff.1 hr4
  obtain ⟨d4A7, d4c7, rfl, d4m7, d4M7, d4_7⟩ := RepS.open_ d4_7
  refine sr_want rfl (j := 8) (d := 26) rfl rfl rfl (v := false) rfl rfl (ow_indexAddrA sl23 ty43 hA4 rfl rfl (by decide) (by decide) (r := o4 + 0 * 8) rfl ?_)
  refine sr_want rfl (j := 8) (d := 26) rfl rfl rfl (v := false) rfl rfl (ow_fieldAddr fd43_3 ty26 rfl rfl (r := o4 + 0 * 8 + 3) rfl ?_)
  refine sr_want rfl (j := 8) (d := 26) rfl rfl rfl (v := false) rfl rfl (ow_fieldAddr fd26_4 ty24 rfl rfl (r := o4 + 0 * 8 + 3 + 4) rfl ?_)
  refine sr_want rfl (j := 8) (d := 26) rfl rfl rfl (v := false) rfl rfl (ow_loadI (v := .slice d4A7 2 d4c7) ty24 H rfl (At.sub (vs := [.slice d4A7 2 d4c7]) (At.sub (vs := [.int .i64 ruleR.expr.kind, .int .i64 ruleR.expr.n, .int .i64 ruleR.expr.no, .string ruleR.expr.name, .slice d4A7 2 d4c7]) hat4 3 rfl) 4 rfl) rfl rfl rfl ?_)
  refine sr_want rfl (j := 8) (d := 26) rfl rfl rfl (v := false) rfl rfl (ow_lenS sl24 rfl rfl ?_)
  refine sr_want rfl (j := 8) (d := 26) rfl rfl rfl (v := false) rfl rfl (ow_neq rfl rfl ?_)
  refine sr_op rfl rfl (ow_pick (v := .bool false) rfl rfl ?_)
  refine sr_op rfl rfl (ow_move (v := .bool false) rfl ?_)
  refine sr_want rfl (j := 18) (d := 36) rfl rfl rfl (v := false) rfl rfl (ow_fieldAddr fd28_4 ty26 rfl rfl (r := 4) rfl ?_)
  refine sr_want rfl (j := 18) (d := 36) rfl rfl rfl (v := false) rfl rfl (ow_fieldAddr fd26_4 ty24 rfl rfl (r := 8) rfl ?_)
  refine sr_want rfl (j := 18) (d := 36) rfl rfl rfl (v := false) rfl rfl (ow_load (v := .slice d2A8 2 d2c8) ty24 H rfl 0 rfl rfl rfl rfl ?_)
  refine sr_want rfl (j := 18) (d := 36) rfl rfl rfl (v := false) rfl rfl (ow_lenS sl24 rfl rfl ?_)
  refine sr_want rfl (j := 18) (d := 36) rfl rfl rfl (v := false) rfl rfl (ow_neq rfl rfl ?_)
  refine sr_op rfl rfl (ow_pick (v := .bool false) rfl rfl ?_)
  refine sr_op rfl rfl (ow_move (v := .bool false) rfl ?_)
  refine sr_want rfl (j := 25) (d := 43) rfl rfl rfl (v := false) rfl rfl (ow_fieldAddr fd28_3 ty23 rfl rfl (r := 3) rfl ?_)
  refine sr_want rfl (j := 25) (d := 43) rfl rfl rfl (v := false) rfl rfl (ow_load (v := .slice d2A3 1 d2c3) ty23 H rfl 0 rfl rfl rfl rfl ?_)
  refine sr_want rfl (j := 25) (d := 43) rfl rfl rfl (v := false) rfl rfl (ow_indexAddrA sl23 ty43 hA4 rfl rfl (by decide) (by decide) (r := o4 + 0 * 8) rfl ?_)
  refine sr_want rfl (j := 25) (d := 43) rfl rfl rfl (v := false) rfl rfl (ow_fieldAddr fd43_1 ty3 rfl rfl (r := o4 + 0 * 8 + 1) rfl ?_)
  refine sr_want rfl (j := 25) (d := 43) rfl rfl rfl (v := false) rfl rfl (ow_loadI (v := .int .i64 0) ty3 H rfl (At.sub (vs := [.int .i64 0]) hat4 1 rfl) rfl rfl rfl ?_)
  refine sr_want rfl (j := 25) (d := 43) rfl rfl rfl (v := false) rfl rfl (ow_neq rfl rfl ?_)
  refine sr_op rfl rfl (ow_pick (v := .bool false) rfl rfl ?_)
  refine sr_op rfl rfl (ow_move (v := .bool false) rfl ?_)
  refine sr_want rfl (j := 33) (d := 51) rfl rfl rfl (v := false) rfl rfl (ow_fieldAddr fd28_3 ty23 rfl rfl (r := 3) rfl ?_)
  refine sr_want rfl (j := 33) (d := 51) rfl rfl rfl (v := false) rfl rfl (ow_load (v := .slice d2A3 1 d2c3) ty23 H rfl 0 rfl rfl rfl rfl ?_)
  refine sr_want rfl (j := 33) (d := 51) rfl rfl rfl (v := false) rfl rfl (ow_indexAddrA sl23 ty43 hA4 rfl rfl (by decide) (by decide) (r := o4 + 0 * 8) rfl ?_)
  refine sr_want rfl (j := 33) (d := 51) rfl rfl rfl (v := false) rfl rfl (ow_fieldAddr fd43_3 ty26 rfl rfl (r := o4 + 0 * 8 + 3) rfl ?_)
  refine sr_want rfl (j := 33) (d := 51) rfl rfl rfl (v := false) rfl rfl (ow_fieldAddr fd26_4 ty24 rfl rfl (r := o4 + 0 * 8 + 3 + 4) rfl ?_)
  refine sr_want rfl (j := 33) (d := 51) rfl rfl rfl (v := false) rfl rfl (ow_loadI (v := .slice d4A7 2 d4c7) ty24 H rfl (At.sub (vs := [.slice d4A7 2 d4c7]) (At.sub (vs := [.int .i64 ruleR.expr.kind, .int .i64 ruleR.expr.n, .int .i64 ruleR.expr.no, .string ruleR.expr.name, .slice d4A7 2 d4c7]) hat4 3 rfl) 4 rfl) rfl rfl rfl ?_)
  have he5 : ruleR.expr.l[0]? = some someR := rfl
  obtain ⟨b5, o5, us5, hA5, hat5, hul5, hr5⟩ := RepS.get d4_7 he5
  have d5 := hr5
  obtain ⟨d5v4, rfl, d5_0, d5_1, d5_2, d5_3, d5_4⟩ := ex_iff.1 hr5
  obtain ⟨d5A4, d5c4, rfl, d5m4, d5M4, d5_4⟩ := RepS.open_ d5_4
  refine sr_want rfl (j := 33) (d := 51) rfl rfl rfl (v := false) rfl rfl (ow_indexAddrA sl24 ty26 hA5 rfl rfl (by decide) (by decide) (r := o5 + 0 * 5) rfl ?_)
  refine sr_want rfl (j := 33) (d := 51) rfl rfl rfl (v := false) rfl rfl (ow_fieldAddr fd26_2 ty3 rfl rfl (r := o5 + 0 * 5 + 2) rfl ?_)
  refine sr_want rfl (j := 33) (d := 51) rfl rfl rfl (v := false) rfl rfl (ow_loadI (v := .int .i64 0) ty3 H rfl (At.sub (vs := [.int .i64 0]) hat5 2 rfl) rfl rfl rfl ?_)
  refine sr_want rfl (j := 33) (d := 51) rfl rfl rfl (v := false) rfl rfl (ow_neq rfl rfl ?_)
  refine sr_op rfl rfl (ow_pick (v := .bool false) rfl rfl ?_)
  refine sr_op rfl rfl (ow_move (v := .bool false) rfl ?_)
  refine sr_want rfl (j := 45) (d := 63) rfl rfl rfl (v := false) rfl rfl (ow_fieldAddr fd28_3 ty23 rfl rfl (r := 3) rfl ?_)
  refine sr_want rfl (j := 45) (d := 63) rfl rfl rfl (v := false) rfl rfl (ow_load (v := .slice d2A3 1 d2c3) ty23 H rfl 0 rfl rfl rfl rfl ?_)
  refine sr_want rfl (j := 45) (d := 63) rfl rfl rfl (v := false) rfl rfl (ow_indexAddrA sl23 ty43 hA4 rfl rfl (by decide) (by decide) (r := o4 + 0 * 8) rfl ?_)
  refine sr_want rfl (j := 45) (d := 63) rfl rfl rfl (v := false) rfl rfl (ow_fieldAddr fd43_3 ty26 rfl rfl (r := o4 + 0 * 8 + 3) rfl ?_)
  refine sr_want rfl (j := 45) (d := 63) rfl rfl rfl (v := false) rfl rfl (ow_fieldAddr fd26_4 ty24 rfl rfl (r := o4 + 0 * 8 + 3 + 4) rfl ?_)
  refine sr_want rfl (j := 45) (d := 63) rfl rfl rfl (v := false) rfl rfl (ow_loadI (v := .slice d4A7 2 d4c7) ty24 H rfl (At.sub (vs := [.slice d4A7 2 d4c7]) (At.sub (vs := [.int .i64 ruleR.expr.kind, .int .i64 ruleR.expr.n, .int .i64 ruleR.expr.no, .string ruleR.expr.name, .slice d4A7 2 d4c7]) hat4 3 rfl) 4 rfl) rfl rfl rfl ?_)
  have he6 : ruleR.expr.l[1]? = some weightR := rfl
  obtain ⟨b6, o6, us6, hA6, hat6, hul6, hr6⟩ := RepS.get d4_7 he6
  have d6 := hr6
  obtain ⟨d6v4, rfl, d6_0, d6_1, d6_2, d6_3, d6_4⟩ := ex_iff.1 hr6
  obtain ⟨d6A4, d6c4, rfl, d6m4, d6M4, d6_4⟩ := RepS.open_ d6_4
  refine sr_want rfl (j := 45) (d := 63) rfl rfl rfl (v := false) rfl rfl (ow_indexAddrA sl24 ty26 hA6 rfl rfl (by decide) (by decide) (r := o6 + 1 * 5) rfl ?_)
  refine sr_want rfl (j := 45) (d := 63) rfl rfl rfl (v := false) rfl rfl (ow_fieldAddr fd26_2 ty3 rfl rfl (r := o6 + 1 * 5 + 2) rfl ?_)
  refine sr_want rfl (j := 45) (d := 63) rfl rfl rfl (v := false) rfl rfl (ow_loadI (v := .int .i64 1) ty3 H rfl (At.sub (vs := [.int .i64 1]) hat6 2 rfl) rfl rfl rfl ?_)
  refine sr_want rfl (j := 45) (d := 63) rfl rfl rfl (v := false) rfl rfl (ow_neq rfl rfl ?_)
  refine sr_op rfl rfl (ow_pick (v := .bool false) rfl rfl ?_)
  refine sr_op rfl rfl (ow_move (v := .bool false) rfl ?_)
  refine sr_want rfl (j := 57) (d := 75) rfl rfl rfl (v := false) rfl rfl (ow_fieldAddr fd28_4 ty26 rfl rfl (r := 4) rfl ?_)
  refine sr_want rfl (j := 57) (d := 75) rfl rfl rfl (v := false) rfl rfl (ow_fieldAddr fd26_4 ty24 rfl rfl (r := 8) rfl ?_)
  refine sr_want rfl (j := 57) (d := 75) rfl rfl rfl (v := false) rfl rfl (ow_load (v := .slice d2A8 2 d2c8) ty24 H rfl 0 rfl rfl rfl rfl ?_)
  have he7 : smallR.change.l[1]? = some weightR := rfl
  obtain ⟨b7, o7, us7, hA7, hat7, hul7, hr7⟩ := RepS.get d2_8 he7
  have d7 := hr7
  obtain ⟨d7v4, rfl, d7_0, d7_1, d7_2, d7_3, d7_4⟩ := ex_iff.1 hr7
  obtain ⟨d7A4, d7c4, rfl, d7m4, d7M4, d7_4⟩ := RepS.open_ d7_4
  refine sr_want rfl (j := 57) (d := 75) rfl rfl rfl (v := false) rfl rfl (ow_indexAddrA sl24 ty26 hA7 rfl rfl (by decide) (by decide) (r := o7 + 1 * 5) rfl ?_)
  refine sr_want rfl (j := 57) (d := 75) rfl rfl rfl (v := false) rfl rfl (ow_fieldAddr fd26_2 ty3 rfl rfl (r := o7 + 1 * 5 + 2) rfl ?_)
  refine sr_want rfl (j := 57) (d := 75) rfl rfl rfl (v := false) rfl rfl (ow_loadI (v := .int .i64 1) ty3 H rfl (At.sub (vs := [.int .i64 1]) hat7 2 rfl) rfl rfl rfl ?_)
  refine sr_want rfl (j := 57) (d := 75) rfl rfl rfl (v := false) rfl rfl (ow_neq rfl rfl ?_)
  refine sr_op rfl rfl (ow_pick (v := .bool false) rfl rfl ?_)
  refine sr_nil ?_
  refine st_no rfl ?_
  refine st_skip ?_
  refine st_seq ?_
  refine st_seq ?_
  refine st_region ?_
  refine sr_op rfl rfl (ow_load (v := .agg #[.string smallR.name, .slice d2A1 smallR.kinds.length d2c1, .slice d2A2 smallR.offices.length d2c2, .slice d2A3 1 d2c3, .int .i64 smallR.change.kind, .int .i64 smallR.change.n, .int .i64 smallR.change.no, .string smallR.change.name, .slice d2A8 2 d2c8, .int .i64 smallR.mode]) ty28 H rfl 0 rfl rfl rfl rfl ?_)
  have hkd := (hkd.mono hI2)
  refine sr_op rfl rfl (ow_call en22 rfl (Check_smallR H d2 hkd) ?_)
  rintro _ _ ⟨rfl, H⟩
  refine sr_op rfl rfl (ow_neq rfl rfl ?_)
  refine sr_op rfl rfl (ow_move (v := .bool false) rfl ?_)
  refine sr_want rfl (j := 3) (d := 87) rfl rfl rfl (v := false) rfl rfl (ow_call en46 rfl (small_c H) ?_)
  rintro _ _ ⟨I8, us8, hI8, H, rfl, hr8⟩
  have d8 := hr8
  obtain ⟨d8v1, d8v2, d8v3, d8v8, rfl, d8_0, d8_1, d8_2, d8_3, d8_4, d8_5, d8_6, d8_7, d8_8, d8_9⟩ := po_iff.1 hr8
  obtain ⟨d8A1, d8c1, rfl, d8m1, d8M1, d8_1⟩ := RepS.open_ d8_1
  obtain ⟨d8A2, d8c2, rfl, d8m2, d8M2, d8_2⟩ := RepS.open_ d8_2
  obtain ⟨d8A3, d8c3, rfl, d8m3, d8M3, d8_3⟩ := RepS.open_ d8_3
  obtain ⟨d8A8, d8c8, rfl, d8m8, d8M8, d8_8⟩ := RepS.open_ d8_8
  have hkd := (hkd.mono hI8)
  refine sr_want rfl (j := 3) (d := 87) rfl rfl rfl (v := false) rfl rfl (ow_call en22 rfl (Check_smallP H d8 hkd) ?_)
  rintro _ _ ⟨rfl, H⟩
  refine sr_want rfl (j := 3) (d := 87) rfl rfl rfl (v := false) rfl rfl (ow_neq rfl rfl ?_)
  refine sr_op rfl rfl (ow_pick (v := .bool false) rfl rfl ?_)
  refine sr_nil ?_
  refine st_no rfl ?_
  refine st_skip ?_
  refine st_seq ?_
  refine st_region ?_
  refine sr_op rfl rfl (ow_load (v := .agg #[.string smallR.name, .slice d2A1 smallR.kinds.length d2c1, .slice d2A2 smallR.offices.length d2c2, .slice d2A3 1 d2c3, .int .i64 smallR.change.kind, .int .i64 smallR.change.n, .int .i64 smallR.change.no, .string smallR.change.name, .slice d2A8 2 d2c8, .int .i64 smallR.mode]) ty28 H rfl 0 rfl rfl rfl rfl ?_)
  refine sr_op rfl rfl (ow_build (ps := [(0, .int .i64 3), (1, .int .i64 10), (3, .agg #[.string smallR.name, .slice d2A1 smallR.kinds.length d2c1, .slice d2A2 smallR.offices.length d2c2, .slice d2A3 1 d2c3, .int .i64 smallR.change.kind, .int .i64 smallR.change.n, .int .i64 smallR.change.no, .string smallR.change.name, .slice d2A8 2 d2c8, .int .i64 smallR.mode])]) (v := .agg #[.int .i64 3, .int .i64 10, .int .i64 0, .string smallR.name, .slice d2A1 smallR.kinds.length d2c1, .slice d2A2 smallR.offices.length d2c2, .slice d2A3 1 d2c3, .int .i64 smallR.change.kind, .int .i64 smallR.change.n, .int .i64 smallR.change.no, .string smallR.change.name, .slice d2A8 2 d2c8, .int .i64 smallR.mode]) rfl (fun _ => by kernel_rfl) ?_)
  refine sr_op rfl rfl (ow_buildSlice H (e := 52) (ps := [(0, .agg #[.int .i64 3, .int .i64 10, .int .i64 0, .string smallR.name, .slice d2A1 smallR.kinds.length d2c1, .slice d2A2 smallR.offices.length d2c2, .slice d2A3 1 d2c3, .int .i64 smallR.change.kind, .int .i64 smallR.change.n, .int .i64 smallR.change.no, .string smallR.change.name, .slice d2A8 2 d2c8, .int .i64 smallR.mode])]) rfl [.int .i64 3, .int .i64 10, .int .i64 0, .string smallR.name, .slice d2A1 smallR.kinds.length d2c1, .slice d2A2 smallR.offices.length d2c2, .slice d2A3 1 d2c3, .int .i64 smallR.change.kind, .int .i64 smallR.change.n, .int .i64 smallR.change.no, .string smallR.change.name, .slice d2A8 2 d2c8, .int .i64 smallR.mode] (fun _ => by kernel_rfl) (fun g9 _ H => ?_))
  have d2 := (d2.mono hI8)
  obtain ⟨I10, hI10, H, hl10⟩ := lit_done (enc := encVe) (sz := 13) (n := 1) [⟨3, 10, 0, smallR⟩] rfl (by omega) H ⟨(ve_iff.2 ⟨_, rfl, (by constructor <;> decide), (by constructor <;> decide), (by constructor <;> decide), d2⟩), rfl, rfl⟩
  refine sr_op rfl rfl (ow_assign (v := .slice (some ⟨g9, 0, none⟩) 1 1) rfl ?_)
  refine sr_nil ?_
  refine st_seq ?_
  refine st_region ?_
  refine sr_op rfl rfl (ow_move (v := .slice (some ⟨g9, 0, none⟩) 1 1) rfl ?_)
  have hkd := (hkd.mono hI10)
  refine sr_op rfl rfl (ow_call en25 rfl (Standing_9 H (hl10 : RepS encVe _ 13 oneVe _) hkd) ?_)
  rintro _ _ ⟨rfl, H⟩
  refine sr_op rfl rfl (ow_move (v := .tuple #[.int .i64 0, .bool false, .int .i64 0]) rfl ?_)
  refine sr_op rfl rfl (ow_extract (v := .int .i64 0) rfl rfl ?_)
  refine sr_op rfl rfl (ow_extract (v := .bool false) rfl rfl ?_)
  refine sr_op rfl rfl (ow_extract (v := .int .i64 0) rfl rfl ?_)
  refine sr_op rfl rfl (ow_assign (v := .int .i64 0) rfl ?_)
  refine sr_op rfl rfl (ow_assign (v := .bool false) rfl ?_)
  refine sr_op rfl rfl (ow_assign (v := .int .i64 0) rfl ?_)
  refine sr_nil ?_
  refine st_seq ?_
  refine st_region ?_
  refine sr_op rfl rfl (ow_move (v := .slice (some ⟨g9, 0, none⟩) 1 1) rfl ?_)
  refine sr_op rfl rfl (ow_call en25 rfl (Standing_10 H (hl10 : RepS encVe _ 13 oneVe _) hkd) ?_)
  rintro _ _ ⟨rfl, H⟩
  refine sr_op rfl rfl (ow_move (v := .tuple #[.int .i64 3, .bool true, .int .i64 0]) rfl ?_)
  refine sr_op rfl rfl (ow_extract (v := .int .i64 3) rfl rfl ?_)
  refine sr_op rfl rfl (ow_extract (v := .bool true) rfl rfl ?_)
  refine sr_op rfl rfl (ow_extract (v := .int .i64 0) rfl rfl ?_)
  refine sr_op rfl rfl (ow_assign (v := .int .i64 3) rfl ?_)
  refine sr_op rfl rfl (ow_assign (v := .bool true) rfl ?_)
  refine sr_op rfl rfl (ow_assign (v := .int .i64 0) rfl ?_)
  refine sr_nil ?_
  refine st_seq ?_
  refine st_region ?_
  refine sr_op rfl rfl (ow_move (v := .slice (some ⟨g9, 0, none⟩) 1 1) rfl ?_)
  refine sr_op rfl rfl (ow_call en25 rfl (Standing_m1 H (hl10 : RepS encVe _ 13 oneVe _) hkd) ?_)
  rintro _ _ ⟨rfl, H⟩
  refine sr_op rfl rfl (ow_move (v := .tuple #[.int .i64 0, .bool false, .int .i64 1]) rfl ?_)
  refine sr_op rfl rfl (ow_extract (v := .int .i64 0) rfl rfl ?_)
  refine sr_op rfl rfl (ow_extract (v := .bool false) rfl rfl ?_)
  refine sr_op rfl rfl (ow_extract (v := .int .i64 1) rfl rfl ?_)
  refine sr_op rfl rfl (ow_assign (v := .int .i64 0) rfl ?_)
  refine sr_op rfl rfl (ow_assign (v := .bool false) rfl ?_)
  refine sr_op rfl rfl (ow_assign (v := .int .i64 1) rfl ?_)
  refine sr_nil ?_
  refine st_seq ?_
  refine st_seq ?_
  refine st_region ?_
  refine sr_op rfl rfl (ow_move (v := .int .i64 0) rfl ?_)
  refine sr_op rfl rfl (ow_neq rfl rfl ?_)
  refine sr_op rfl rfl (ow_move (v := .bool false) rfl ?_)
  refine sr_want rfl (j := 2) (d := 115) rfl rfl rfl (v := false) rfl rfl (ow_move (v := .int .i64 0) rfl ?_)
  refine sr_want rfl (j := 2) (d := 115) rfl rfl rfl (v := false) rfl rfl (ow_neq rfl rfl ?_)
  refine sr_op rfl rfl (ow_pick (v := .bool false) rfl rfl ?_)
  refine sr_op rfl rfl (ow_move (v := .bool false) rfl ?_)
  refine sr_want rfl (j := 6) (d := 119) rfl rfl rfl (v := false) rfl rfl (ow_move (v := .int .i64 1) rfl ?_)
  refine sr_want rfl (j := 6) (d := 119) rfl rfl rfl (v := false) rfl rfl (ow_neq rfl rfl ?_)
  refine sr_op rfl rfl (ow_pick (v := .bool false) rfl rfl ?_)
  refine sr_op rfl rfl (ow_move (v := .bool false) rfl ?_)
  refine sr_want rfl (j := 10) (d := 123) rfl rfl rfl (v := false) rfl rfl (ow_move (v := .bool false) rfl ?_)
  refine sr_op rfl rfl (ow_pick (v := .bool false) rfl rfl ?_)
  refine sr_op rfl rfl (ow_move (v := .bool false) rfl ?_)
  refine sr_want rfl (j := 13) (d := 126) rfl rfl rfl (v := false) rfl rfl (ow_move (v := .bool true) rfl ?_)
  refine sr_want rfl (j := 13) (d := 126) rfl rfl rfl (v := false) rfl rfl (ow_not rfl ?_)
  refine sr_op rfl rfl (ow_pick (v := .bool !true) rfl rfl ?_)
  refine sr_op rfl rfl (ow_move (v := .bool !true) rfl ?_)
  refine sr_want rfl (j := 17) (d := 130) rfl rfl rfl (v := false) rfl rfl (ow_move (v := .int .i64 3) rfl ?_)
  refine sr_want rfl (j := 17) (d := 130) rfl rfl rfl (v := false) rfl rfl (ow_neq rfl rfl ?_)
  refine sr_op rfl rfl (ow_pick (v := .bool false) rfl rfl ?_)
  refine sr_op rfl rfl (ow_move (v := .bool false) rfl ?_)
  refine sr_want rfl (j := 21) (d := 134) rfl rfl rfl (v := false) rfl rfl (ow_move (v := .slice (some ⟨g9, 0, none⟩) 1 1) rfl ?_)
  refine sr_want rfl (j := 21) (d := 134) rfl rfl rfl (v := false) rfl rfl (ow_call en27 rfl (CheckAll_one H (hl10 : RepS encVe _ 13 oneVe _) hkd) ?_)
  rintro _ _ ⟨rfl, H⟩
  refine sr_want rfl (j := 21) (d := 134) rfl rfl rfl (v := false) rfl rfl (ow_neq rfl rfl ?_)
  refine sr_op rfl rfl (ow_pick (v := .bool false) rfl rfl ?_)
  refine sr_op rfl rfl (ow_move (v := .bool false) rfl ?_)
  refine sr_want rfl (j := 26) (d := 139) rfl rfl rfl (v := false) rfl rfl (ow_build (ps := []) (v := .agg #[.int .i64 0, .int .i64 0, .int .i64 0, .string ⟨#[]⟩, .slice none 0 0, .slice none 0 0, .slice none 0 0, .int .i64 0, .int .i64 0, .int .i64 0, .string ⟨#[]⟩, .slice none 0 0, .int .i64 0]) rfl (fun _ => by kernel_rfl) ?_)
  refine sr_want rfl (j := 26) (d := 139) rfl rfl rfl (v := false) rfl rfl (ow_buildSlice H (e := 52) (ps := [(0, .agg #[.int .i64 0, .int .i64 0, .int .i64 0, .string ⟨#[]⟩, .slice none 0 0, .slice none 0 0, .slice none 0 0, .int .i64 0, .int .i64 0, .int .i64 0, .string ⟨#[]⟩, .slice none 0 0, .int .i64 0])]) rfl [.int .i64 0, .int .i64 0, .int .i64 0, .string ⟨#[]⟩, .slice none 0 0, .slice none 0 0, .slice none 0 0, .int .i64 0, .int .i64 0, .int .i64 0, .string ⟨#[]⟩, .slice none 0 0, .int .i64 0] (fun _ => by kernel_rfl) (fun g11 _ H => ?_))
  obtain ⟨I12, hI12, H, hl12⟩ := lit_done (enc := encVe) (sz := 13) (n := 1) [⟨0, 0, 0, zeroPo⟩] rfl (by omega) H ⟨(ve_iff.2 ⟨_, rfl, (by constructor <;> decide), (by constructor <;> decide), (by constructor <;> decide), zero_rep _⟩), rfl, rfl⟩
  have hkd := (hkd.mono hI12)
  refine sr_want rfl (j := 26) (d := 139) rfl rfl rfl (v := false) rfl rfl (ow_call en27 rfl (CheckAll_zero H (hl12 : RepS encVe _ 13 zeroVe _) hkd) ?_)
  rintro _ _ ⟨rfl, H⟩
  refine sr_want rfl (j := 26) (d := 139) rfl rfl rfl (v := false) rfl rfl (ow_neq rfl rfl ?_)
  refine sr_op rfl rfl (ow_pick (v := .bool false) rfl rfl ?_)
  refine sr_nil ?_
  refine st_no rfl ?_
  refine st_skip ?_
  refine st_seq ?_
  refine st_region ?_
  refine sr_op rfl rfl (ow_call en47 rfl (changed_1 H hkd) ?_)
  rintro _ _ ⟨rfl, H⟩
  refine sr_op rfl rfl (ow_eql rfl rfl ?_)
  refine sr_op rfl rfl (ow_move (v := .bool true) rfl ?_)
  refine sr_want rfl (j := 2) (d := 147) rfl rfl rfl (v := true) rfl rfl (ow_call en47 rfl (changed_2 H hkd) ?_)
  rintro _ _ ⟨rfl, H⟩
  refine sr_want rfl (j := 2) (d := 147) rfl rfl rfl (v := true) rfl rfl (ow_eql rfl rfl ?_)
  refine sr_op rfl rfl (ow_pick (v := .bool true) rfl rfl ?_)
  refine sr_op rfl rfl (ow_move (v := .bool true) rfl ?_)
  refine sr_want rfl (j := 6) (d := 151) rfl rfl rfl (v := true) rfl rfl (ow_call en47 rfl (changed_3 H hkd) ?_)
  rintro _ _ ⟨rfl, H⟩
  refine sr_want rfl (j := 6) (d := 151) rfl rfl rfl (v := true) rfl rfl (ow_eql rfl rfl ?_)
  refine sr_op rfl rfl (ow_pick (v := .bool true) rfl rfl ?_)
  refine sr_op rfl rfl (ow_move (v := .bool true) rfl ?_)
  refine sr_want rfl (j := 10) (d := 155) rfl rfl rfl (v := true) rfl rfl (ow_call en47 rfl (changed_4 H hkd) ?_)
  rintro _ _ ⟨rfl, H⟩
  refine sr_want rfl (j := 10) (d := 155) rfl rfl rfl (v := true) rfl rfl (ow_eql rfl rfl ?_)
  refine sr_op rfl rfl (ow_pick (v := .bool true) rfl rfl ?_)
  refine sr_op rfl rfl (ow_move (v := .bool true) rfl ?_)
  refine sr_want rfl (j := 14) (d := 159) rfl rfl rfl (v := true) rfl rfl (ow_call en47 rfl (changed_5 H hkd) ?_)
  rintro _ _ ⟨rfl, H⟩
  refine sr_want rfl (j := 14) (d := 159) rfl rfl rfl (v := true) rfl rfl (ow_eql rfl rfl ?_)
  refine sr_op rfl rfl (ow_pick (v := .bool true) rfl rfl ?_)
  refine sr_op rfl rfl (ow_move (v := .bool true) rfl ?_)
  refine sr_want rfl (j := 18) (d := 163) rfl rfl rfl (v := true) rfl rfl (ow_call en47 rfl (changed_6 H hkd) ?_)
  rintro _ _ ⟨rfl, H⟩
  refine sr_want rfl (j := 18) (d := 163) rfl rfl rfl (v := true) rfl rfl (ow_eql rfl rfl ?_)
  refine sr_op rfl rfl (ow_pick (v := .bool true) rfl rfl ?_)
  refine sr_op rfl rfl (ow_assign (v := .bool true) rfl ?_)
  refine sr_nil ?_
  refine st_ret hb (hR _ _ (.bool true) (res_run (vs := [.bool true]) Tryd.results17 ⟨_, _, rfl, rfl, rfl⟩) ?_)
  exact ⟨_, rfl, rfl, (Hp.back (H.drop 1) ((((hI1.trans hI2).trans hI8).trans hI10).trans hI12))⟩
end Go.Proofs.YtbbflenaeihmeaaDoor
