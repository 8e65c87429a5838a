/-
  Walks: names, numbers and signs.
-/
import Derived.Test.YtghmjnbpkobooaaGreatDoorQ2
import Derived.Lib.IndexLaws
set_option linter.unusedVariables false
set_option linter.unusedSimpArgs false
set_option maxRecDepth 10000
set_option maxHeartbeats 4000000
namespace Go.Proofs.YtghmjnbpkobooaaGreatDoor
open Go Go.RowKit

theorem S63_small {s : ByteArray} (h : s.size ≤ 1000000) : S63 s := by unfold S63; omega
theorem valid_name (tx : ByteArray) : validB (mkTk 1 tx 0 0) = nameB tx := by simp [validB, mkTk]
theorem valid_num (v : Int) : validB (mkTk 2 ⟨#[]⟩ v 0) = (decide (0 ≤ v) && decide (v ≤ 1099511627776)) := by
  rw [valid2 (t := mkTk 2 ⟨#[]⟩ v 0) rfl]
  simp only [mkTk, decide_true, Bool.true_and]
  rfl
theorem i64_0 : I64 0 := by constructor <;> decide
theorem i64_1 : I64 1 := by constructor <;> decide
theorem i64_2 : I64 2 := by constructor <;> decide
theorem i64_3 : I64 3 := by constructor <;> decide
theorem S63_nil : S63 ⟨#[]⟩ := by unfold S63; decide
def numO (tx : ByteArray) : Option Int := match atoiO tx with
  | some v => if itoaS v = tx ∧ 0 ≤ v ∧ v ≤ 1099511627776 then some v else none
  | none => none
theorem numO_none {tx : ByteArray} (h : atoiO tx = none) : numO tx = none := by rw [numO, h]
theorem numO_some {tx : ByteArray} {v : Int} (h : atoiO tx = some v) : numO tx = if itoaS v = tx ∧ 0 ≤ v ∧ v ≤ 1099511627776 then some v else none := by rw [numO, h]
theorem one_valid {s : ByteArray} {u : UInt8} (h1 : s.size = 1) (hu : s.data.toList[0]? = some u) (hc : classI (u.toNat : Int) = 4) : validB (mkTk 3 s 0 0) = true := by
  simp [validB, mkTk, ← hd_at hu, hc, h1]
def tailS (s : ByteArray) (a : Nat) : ByteArray := s.extract a s.size
def slashS : ByteArray := ⟨#[47, 47]⟩
def signR (src : ByteArray) (a : Nat) : List Tk × Nat :=
  if prefB (tailS src a) slashS = true then (if 0 ≤ ixByte (tailS src a) 10 then ([], a + (ixByte (tailS src a) 10).toNat) else ([], src.size)) else ([mkTk 3 (src.extract a (a + 1)) 0 (a : Int)], a + 1)
theorem ix_len (s : ByteArray) (c : Int) : ixByte s c < (s.size : Int) ∨ ixByte s c < 0 := by
  unfold ixByte
  have h0 := Lib.indexByte_ge s.data.toList c.toNat.toUInt8
  rw [size_data]
  by_cases h : 0 ≤ Lib.indexByte s.data.toList c.toNat.toUInt8
  · obtain ⟨o, ho⟩ : ∃ o : Nat, Lib.indexByte s.data.toList c.toNat.toUInt8 = (o : Int) := ⟨_, (Int.toNat_of_nonneg h).symm⟩
    have h1 := (List.getElem?_eq_some_iff.1 (Lib.indexByte_some ho).1).1
    omega
  · omega
theorem name_c {B I L w} {gS : Nat} {src : ByteArray} {a : Nat} {Aa : Option Addr} {na ca : Nat} {cs_ : List Value} {toks : List Tk} (H : Hp B I w (scB gS src a Aa na ca :: (rowL (.slice Aa na ca) cs_ 71 ++ L))) (ha : Acc I 4 (.slice Aa na ca) cs_ (toks.map encTk)) (haS : a ≤ src.size) (hs : src.size ≤ 70000) (hT : toks.length ≤ 1000000) :
    Calls Tryz.prog 96 #[.pointer (some ⟨gS, 0, none⟩)] w (Rp (fun r w' => ∃ Aa' na' ca' cs', nameB (wordS src a [2, 3, 5]) = true ∧ Hp B I w' (scB gS src (a + spanS src a [2, 3, 5]) Aa' na' ca' :: (rowL (.slice Aa' na' ca') cs' 71 ++ L)) ∧ Acc I 4 (.slice Aa' na' ca') cs' ((toks ++ [mkTk 1 (wordS src a [2, 3, 5]) 0 (a : Int)]).map encTk)) (fun ch w' => nameB (wordS src a [2, 3, 5]) = false ∧ ch = placeV a ∧ Hp B I w' (scB gS src a Aa na ca :: (rowL (.slice Aa na ca) cs_ 71 ++ L)))) := by
  have hle := spanS_le src a [2, 3, 5] haS
  have hsz := word_size src a [2, 3, 5] haS
  refine calls_st (n := 11) Tryz.func96 rfl rfl rfl ?_
  intro G bF cs hb hfn hR hP
  simp only [ini]
  refine st_seq ?_
  refine st_region ?_
  refine sr_op rfl rfl (ow_move (v := .pointer (some ⟨gS, 0, none⟩)) rfl ?_)
  refine sr_op rfl rfl (ow_buildSlice H (e := 3) (ps := [(0, .int .i64 2), (1, .int .i64 3), (2, .int .i64 5)]) rfl [.int .i64 2, .int .i64 3, .int .i64 5] (fun _ => by kernel_rfl) (fun g1 _ H => ?_))
  obtain ⟨I2, hI2, H, hl2⟩ := lit_done (enc := encI) (sz := 1) (n := 3) [2, 3, 5] rfl (by omega) H ⟨(i_iff.2 ⟨rfl, by constructor <;> decide⟩), rfl, ⟨(i_iff.2 ⟨rfl, by constructor <;> decide⟩), rfl, ⟨(i_iff.2 ⟨rfl, by constructor <;> decide⟩), rfl, rfl⟩⟩⟩
  refine sr_op rfl rfl (ow_call en191 rfl (run_c H hl2 haS hs) ?_)
  rintro _ _ ⟨rfl, H⟩
  refine sr_op rfl rfl (ow_assign (v := .string (wordS src a [2, 3, 5])) rfl ?_)
  refine sr_nil ?_
  refine st_region ?_
  refine sr_op rfl rfl (ow_move (v := .pointer (some ⟨gS, 0, none⟩)) rfl ?_)
  refine sr_op rfl rfl (ow_move (v := .string (wordS src a [2, 3, 5])) rfl ?_)
  refine sr_op rfl rfl (ow_move (v := .string (wordS src a [2, 3, 5])) rfl ?_)
  refine sr_op rfl rfl (ow_build (ps := [(0, .int .i64 1), (1, .string (wordS src a [2, 3, 5]))]) (v := .agg #[.int .i64 1, .string (wordS src a [2, 3, 5]), .int .i64 0, .int .i64 0]) rfl (fun _ => by kernel_rfl) ?_)
  have ha := (ha.mono hI2)
  refine sr_op rfl rfl (ow_callp en192 rfl (add_c (t := (mkTk 1 (wordS src a [2, 3, 5]) 0 0)) (wordS src a [2, 3, 5]) H ha ((tk_iff (t := mkTk 1 (wordS src a [2, 3, 5]) 0 0)).2 ⟨rfl, i64_1, S63_small (s := wordS src a [2, 3, 5]) (by omega), i64_0, i64_0⟩) hT (by omega)) ?_ ?_)
  rotate_left
  · rintro ch_ w_ ⟨hv, rfl, H⟩
    exact (hP _ _ ⟨(by rw [← valid_name]; exact hv), rfl, Hp.back H hI2⟩).one
  rintro _ _ ⟨hv, Ab_, nb_, cb_, csb_, H, ha⟩
  refine sr_nil ?_
  refine st_end hb (hR _ _ (.tuple #[]) (res_run (vs := []) Tryz.results96 rfl) ?_)
  exact ⟨_, _, _, csb_, by rw [← valid_name]; exact hv, by rw [← hsz]; exact Hp.back H hI2, Acc_tk ha⟩
theorem number_c {B I L w} {gS : Nat} {src : ByteArray} {a : Nat} {Aa : Option Addr} {na ca : Nat} {cs_ : List Value} {toks : List Tk} (H : Hp B I w (scB gS src a Aa na ca :: (rowL (.slice Aa na ca) cs_ 71 ++ L))) (ha : Acc I 4 (.slice Aa na ca) cs_ (toks.map encTk)) (haS : a ≤ src.size) (hs : src.size ≤ 70000) (hT : toks.length ≤ 1000000) (hlib : LibAt I) :
    Calls Tryz.prog 97 #[.pointer (some ⟨gS, 0, none⟩)] w (Rp (fun r w' => ∃ v Aa' na' ca' cs', numO (wordS src a [3]) = some v ∧ Hp B I w' (scB gS src (a + spanS src a [3]) Aa' na' ca' :: (rowL (.slice Aa' na' ca') cs' 71 ++ L)) ∧ Acc I 4 (.slice Aa' na' ca') cs' ((toks ++ [mkTk 2 ⟨#[]⟩ v (a : Int)]).map encTk)) (fun ch w' => numO (wordS src a [3]) = none ∧ ch = placeV a ∧ Hp B I w' (scB gS src a Aa na ca :: (rowL (.slice Aa na ca) cs_ 71 ++ L)))) := by
  have hle := spanS_le src a [3] haS
  have hsz := word_size src a [3] haS
  refine calls_st (n := 31) Tryz.func97 rfl rfl rfl ?_
  intro G bF cs hb hfn hR hP
  simp only [ini]
  refine st_seq ?_
  refine st_region ?_
  refine sr_op rfl rfl (ow_move (v := .pointer (some ⟨gS, 0, none⟩)) rfl ?_)
  refine sr_op rfl rfl (ow_buildSlice H (e := 3) (ps := [(0, .int .i64 3)]) rfl [.int .i64 3] (fun _ => by kernel_rfl) (fun g1 _ H => ?_))
  obtain ⟨I2, hI2, H, hl2⟩ := lit_done (enc := encI) (sz := 1) (n := 1) [3] rfl (by omega) H ⟨(i_iff.2 ⟨rfl, by constructor <;> decide⟩), rfl, rfl⟩
  refine sr_op rfl rfl (ow_call en191 rfl (run_c H hl2 haS hs) ?_)
  rintro _ _ ⟨rfl, H⟩
  refine sr_op rfl rfl (ow_assign (v := .string (wordS src a [3])) rfl ?_)
  refine sr_nil ?_
  refine st_seq ?_
  refine st_region ?_
  refine sr_op rfl rfl (ow_move (v := .string (wordS src a [3])) rfl ?_)
  have hlib := (hlib.mono hI2)
  refine sr_op rfl rfl (ow_call en193 rfl (Atoi_c H (s := wordS src a [3]) (by omega) hlib) ?_)
  rintro r_ _ ⟨H, hat⟩
  rcases hat with ⟨v, hat, rfl⟩ | ⟨v, ge, hat, rfl⟩
  · have hv64 := I64_atoi hat
    refine sr_op rfl rfl (ow_move (v := .tuple #[.int .i64 v, .nilIface]) rfl ?_)
    refine sr_op rfl rfl (ow_extract (v := .int .i64 v) rfl rfl ?_)
    refine sr_op rfl rfl (ow_extract (v := .nilIface) rfl rfl ?_)
    refine sr_op rfl rfl (ow_assign (v := .int .i64 v) rfl ?_)
    refine sr_op rfl rfl (ow_assign (v := .nilIface) rfl ?_)
    refine sr_nil ?_
    refine st_seq ?_
    refine st_seq ?_
    refine st_region ?_
    refine sr_op rfl rfl (ow_move (v := .nilIface) rfl ?_)
    refine sr_op rfl rfl (ow_neqNil0 Tryz.underlying248 rfl ?_)
    refine sr_op rfl rfl (ow_move (v := .bool false) rfl ?_)
    refine sr_want rfl (j := 2) (d := 15) rfl rfl rfl (v := false) rfl rfl (ow_move (v := .int .i64 v) rfl ?_)
    refine sr_want rfl (j := 2) (d := 15) rfl rfl rfl (v := false) rfl rfl (ow_call en101 rfl (Itoa_c H hv64 hlib) ?_)
    rintro _ _ ⟨rfl, H⟩
    refine sr_want rfl (j := 2) (d := 15) rfl rfl rfl (v := false) rfl rfl (ow_move (v := .string (wordS src a [3])) rfl ?_)
    refine sr_want rfl (j := 2) (d := 15) rfl rfl rfl (v := false) rfl rfl (ow_sne rfl rfl ?_)
    refine sr_op rfl rfl (ow_pick (v := .bool (!decide ((itoaS v) = (wordS src a [3])))) rfl rfl ?_)
    refine sr_nil ?_
    refine st_cond (!decide ((itoaS v) = (wordS src a [3]))) rfl (fun hc3 => ?_) (fun hc3 => ?_)
    · have hbad : numO (wordS src a [3]) = none := by
        rw [numO_some hat, if_neg]
        rintro ⟨h1_, _⟩
        rw [h1_] at hc3
        simp at hc3
      refine st_region ?_
      refine sr_op rfl rfl (ow_move (v := .pointer (some ⟨gS, 0, none⟩)) rfl ?_)
      refine sr_op rfl rfl (ow_nilCheck rfl ?_)
      refine sr_op rfl rfl (ow_fieldAddr fd152_1 ty3 rfl rfl (r := 1) rfl ?_)
      refine sr_op rfl rfl (ow_load (v := .int .i64 (a : Int)) ty3 H rfl 0 rfl rfl rfl rfl ?_)
      refine sr_op rfl rfl (ow_iface (v := .int .i64 (a : Int)) Tryz.underlying145 rfl rfl ?_)
      refine sr_op rfl rfl (ow_panic rfl ?_)
      exact (hP _ _ ⟨hbad, rfl, Hp.back H hI2⟩).one
    · have heq := of_decide_eq_true (bnf hc3)
      refine st_skip ?_
      refine st_region ?_
      refine sr_op rfl rfl (ow_move (v := .pointer (some ⟨gS, 0, none⟩)) rfl ?_)
      refine sr_op rfl rfl (ow_move (v := .string (wordS src a [3])) rfl ?_)
      refine sr_op rfl rfl (ow_move (v := .int .i64 v) rfl ?_)
      refine sr_op rfl rfl (ow_build (ps := [(0, .int .i64 2), (2, .int .i64 v)]) (v := .agg #[.int .i64 2, .string ⟨#[]⟩, .int .i64 v, .int .i64 0]) rfl (fun _ => by kernel_rfl) ?_)
      have ha := (ha.mono hI2)
      refine sr_op rfl rfl (ow_callp en192 rfl (add_c (t := (mkTk 2 ⟨#[]⟩ v 0)) (wordS src a [3]) H ha ((tk_iff (t := mkTk 2 ⟨#[]⟩ v 0)).2 ⟨rfl, i64_2, S63_nil, hv64, i64_0⟩) hT (by omega)) ?_ ?_)
      rotate_left
      · rintro ch_ w_ ⟨hv, rfl, H⟩
        exact (hP _ _ ⟨(by
          rw [numO_some hat, if_neg]
          rintro ⟨_, h1_, h2_⟩
          rw [valid_num, decide_eq_true h1_, decide_eq_true h2_] at hv
          cases hv), rfl, Hp.back H hI2⟩).one
      rintro _ _ ⟨hv, Ab_, nb_, cb_, csb_, H, ha⟩
      refine sr_nil ?_
      refine st_end hb (hR _ _ (.tuple #[]) (res_run (vs := []) Tryz.results97 rfl) ?_)
      rw [valid_num] at hv
      simp only [Bool.and_eq_true, decide_eq_true_eq] at hv
      exact ⟨v, _, _, _, csb_, by rw [numO_some hat, if_pos ⟨heq, hv.1, hv.2⟩], by rw [← hsz]; exact Hp.back H hI2, Acc_tk ha⟩
  · have hbad : numO (wordS src a [3]) = none := numO_none hat
    refine sr_op rfl rfl (ow_move (v := .tuple #[.int .i64 v, .iface 333 (.pointer (some ⟨ge, 0, none⟩))]) rfl ?_)
    refine sr_op rfl rfl (ow_extract (v := .int .i64 v) rfl rfl ?_)
    refine sr_op rfl rfl (ow_extract (v := .iface 333 (.pointer (some ⟨ge, 0, none⟩))) rfl rfl ?_)
    refine sr_op rfl rfl (ow_assign (v := .int .i64 v) rfl ?_)
    refine sr_op rfl rfl (ow_assign (v := .iface 333 (.pointer (some ⟨ge, 0, none⟩))) rfl ?_)
    refine sr_nil ?_
    refine st_seq ?_
    refine st_seq ?_
    refine st_region ?_
    refine sr_op rfl rfl (ow_move (v := .iface 333 (.pointer (some ⟨ge, 0, none⟩))) rfl ?_)
    refine sr_op rfl rfl (ow_neqNil1 Tryz.underlying248 rfl ?_)
    refine sr_op rfl rfl (ow_move (v := .bool true) rfl ?_)
    refine sr_pass rfl (j := 2) (d := 15) rfl rfl rfl (u := true) (v := false) rfl rfl ?_
    refine sr_pass rfl (j := 2) (d := 15) rfl rfl rfl (u := true) (v := false) rfl rfl ?_
    refine sr_pass rfl (j := 2) (d := 15) rfl rfl rfl (u := true) (v := false) rfl rfl ?_
    refine sr_pass rfl (j := 2) (d := 15) rfl rfl rfl (u := true) (v := false) rfl rfl ?_
    refine sr_op rfl rfl (ow_pick (v := .bool true) rfl rfl ?_)
    refine sr_nil ?_
    refine st_yes rfl ?_
    refine st_region ?_
    refine sr_op rfl rfl (ow_move (v := .pointer (some ⟨gS, 0, none⟩)) rfl ?_)
    refine sr_op rfl rfl (ow_nilCheck rfl ?_)
    refine sr_op rfl rfl (ow_fieldAddr fd152_1 ty3 rfl rfl (r := 1) rfl ?_)
    refine sr_op rfl rfl (ow_load (v := .int .i64 (a : Int)) ty3 H rfl 0 rfl rfl rfl rfl ?_)
    refine sr_op rfl rfl (ow_iface (v := .int .i64 (a : Int)) Tryz.underlying145 rfl rfl ?_)
    refine sr_op rfl rfl (ow_panic rfl ?_)
    exact (hP _ _ ⟨hbad, rfl, Hp.back H hI2⟩).one
theorem sign_c {B I L w} {gS : Nat} {src : ByteArray} {a : Nat} {Aa : Option Addr} {na ca : Nat} {cs_ : List Value} {toks : List Tk} (H : Hp B I w (scB gS src a Aa na ca :: (rowL (.slice Aa na ca) cs_ 71 ++ L))) (ha : Acc I 4 (.slice Aa na ca) cs_ (toks.map encTk)) (haS : a ≤ src.size) (hs : src.size ≤ 70000) (hT : toks.length ≤ 1000000) {u : UInt8} (hau : a < src.size) (hu : src.data.toList[a]? = some u) (hcl : classI (u.toNat : Int) = 4) :
    Calls Tryz.prog 98 #[.pointer (some ⟨gS, 0, none⟩)] w (Rt fun r w' => ∃ Aa' na' ca' cs', Hp B I w' (scB gS src (signR src a).2 Aa' na' ca' :: (rowL (.slice Aa' na' ca') cs' 71 ++ L)) ∧ Acc I 4 (.slice Aa' na' ca') cs' ((toks ++ (signR src a).1).map encTk)) := by
  have hts : (tailS src a).size = src.size - a := by unfold tailS; rw [ByteArray.size_extract]; omega
  have hix := ix_len (tailS src a) 10
  refine calls_st (n := 61) Tryz.func98 rfl rfl rfl ?_
  intro G bF cs hb hfn hR hP
  simp only [ini]
  refine st_seq ?_
  refine st_seq ?_
  refine st_draw (F := (fun w_ => ∃ I2, Le I I2 ∧ Hp B I2 w_ [(gS, Ob [.string src, .int .i64 (a : Int), .slice Aa na ca] 152)])) (p0 := [0, 1, 2, 3, 4, 5, 6, 7, 8]) (plan := [(9, [], [])]) [] [] [(12, .string (src.extract a src.size)), (11, .int .i64 (a : Int)), (10, .pointer (some ⟨gS, 1, none⟩)), (9, .pointer (some ⟨gS, 0, none⟩)), (8, .pointer (some ⟨gS, 0, none⟩)), (7, .string src), (6, .pointer (some ⟨gS, 0, none⟩)), (5, .pointer (some ⟨gS, 0, none⟩)), (4, .pointer (some ⟨gS, 0, none⟩))] (by kernel_rfl) rfl ?_ ⟨_, Le.refl _, H.drew.pick [0] (by decide)⟩ ?_
  · refine ⟨kn_op rfl rfl (wantB_none rfl) fun _ hF2 => ?_, ?_⟩
    · obtain ⟨_, hle2, H2⟩ := hF2
      refine  (ow_move (v := .pointer (some ⟨gS, 0, none⟩)) rfl ?_)
      exact ⟨rfl, rfl⟩
    refine ⟨kn_op rfl rfl (wantB_none rfl) fun _ hF2 => ?_, ?_⟩
    · obtain ⟨_, hle2, H2⟩ := hF2
      refine  (ow_nilCheck rfl ?_)
      exact ⟨rfl, rfl⟩
    refine ⟨kn_op rfl rfl (wantB_none rfl) fun _ hF2 => ?_, ?_⟩
    · obtain ⟨_, hle2, H2⟩ := hF2
      refine  (ow_fieldAddr fd152_0 ty9 rfl rfl (r := 0) rfl ?_)
      exact ⟨rfl, rfl⟩
    refine ⟨kn_op rfl rfl (wantB_none rfl) fun _ hF2 => ?_, ?_⟩
    · obtain ⟨_, hle2, H2⟩ := hF2
      refine  (ow_load (v := .string src) ty9 H2 rfl 0 rfl rfl rfl rfl ?_)
      exact ⟨rfl, rfl⟩
    refine ⟨kn_op rfl rfl (wantB_none rfl) fun _ hF2 => ?_, ?_⟩
    · obtain ⟨_, hle2, H2⟩ := hF2
      refine  (ow_move (v := .pointer (some ⟨gS, 0, none⟩)) rfl ?_)
      exact ⟨rfl, rfl⟩
    refine ⟨kn_op rfl rfl (wantB_none rfl) fun _ hF2 => ?_, ?_⟩
    · obtain ⟨_, hle2, H2⟩ := hF2
      refine  (ow_nilCheck rfl ?_)
      exact ⟨rfl, rfl⟩
    refine ⟨kn_op rfl rfl (wantB_none rfl) fun _ hF2 => ?_, ?_⟩
    · obtain ⟨_, hle2, H2⟩ := hF2
      refine  (ow_fieldAddr fd152_1 ty3 rfl rfl (r := 1) rfl ?_)
      exact ⟨rfl, rfl⟩
    refine ⟨kn_op rfl rfl (wantB_none rfl) fun _ hF2 => ?_, ?_⟩
    · obtain ⟨_, hle2, H2⟩ := hF2
      refine  (ow_load (v := .int .i64 (a : Int)) ty3 H2 rfl 0 rfl rfl rfl rfl ?_)
      exact ⟨rfl, rfl⟩
    refine ⟨kn_op rfl rfl (wantB_none rfl) fun _ hF2 => ?_, ?_⟩
    · obtain ⟨_, hle2, H2⟩ := hF2
      refine  (ow_cutT (a := a) (c := src.size) un9 rfl (.inr ⟨_, rfl⟩) (.inl ⟨rfl, rfl⟩) (by omega) (by omega) ?_)
      exact ⟨rfl, rfl⟩
    exact trivial
  have H := H.drew
  refine cw_op rfl (wantB_none rfl) (ow_call en38 rfl (HasPrefix_c H (tailS src a) slashS) ?_)
  rintro _ _ ⟨rfl, H⟩
  refine af_none ?_
  refine cw_nil ?_
  refine st_cond (prefB (tailS src a) slashS) rfl (fun hc1 => ?_) (fun hc1 => ?_)
  · have hp := hc1
    refine st_seq ?_
    refine st_seq ?_
    refine st_draw (F := (fun w_ => ∃ I2, Le I I2 ∧ Hp B I2 w_ [(gS, Ob [.string src, .int .i64 (a : Int), .slice Aa na ca] 152)])) (p0 := [0, 1, 2, 3, 4, 5, 6, 7, 8]) (plan := [(9, [10], [])]) [] [] [(22, .string (src.extract a src.size)), (21, .int .i64 (a : Int)), (20, .pointer (some ⟨gS, 1, none⟩)), (19, .pointer (some ⟨gS, 0, none⟩)), (18, .pointer (some ⟨gS, 0, none⟩)), (17, .string src), (16, .pointer (some ⟨gS, 0, none⟩)), (15, .pointer (some ⟨gS, 0, none⟩)), (14, .pointer (some ⟨gS, 0, none⟩))] (by kernel_rfl) rfl ?_ ⟨_, Le.refl _, H.drew.pick [0] (by decide)⟩ ?_
    · refine ⟨kn_op rfl rfl (wantB_none rfl) fun _ hF2 => ?_, ?_⟩
      · obtain ⟨_, hle2, H2⟩ := hF2
        refine  (ow_move (v := .pointer (some ⟨gS, 0, none⟩)) rfl ?_)
        exact ⟨rfl, rfl⟩
      refine ⟨kn_op rfl rfl (wantB_none rfl) fun _ hF2 => ?_, ?_⟩
      · obtain ⟨_, hle2, H2⟩ := hF2
        refine  (ow_nilCheck rfl ?_)
        exact ⟨rfl, rfl⟩
      refine ⟨kn_op rfl rfl (wantB_none rfl) fun _ hF2 => ?_, ?_⟩
      · obtain ⟨_, hle2, H2⟩ := hF2
        refine  (ow_fieldAddr fd152_0 ty9 rfl rfl (r := 0) rfl ?_)
        exact ⟨rfl, rfl⟩
      refine ⟨kn_op rfl rfl (wantB_none rfl) fun _ hF2 => ?_, ?_⟩
      · obtain ⟨_, hle2, H2⟩ := hF2
        refine  (ow_load (v := .string src) ty9 H2 rfl 0 rfl rfl rfl rfl ?_)
        exact ⟨rfl, rfl⟩
      refine ⟨kn_op rfl rfl (wantB_none rfl) fun _ hF2 => ?_, ?_⟩
      · obtain ⟨_, hle2, H2⟩ := hF2
        refine  (ow_move (v := .pointer (some ⟨gS, 0, none⟩)) rfl ?_)
        exact ⟨rfl, rfl⟩
      refine ⟨kn_op rfl rfl (wantB_none rfl) fun _ hF2 => ?_, ?_⟩
      · obtain ⟨_, hle2, H2⟩ := hF2
        refine  (ow_nilCheck rfl ?_)
        exact ⟨rfl, rfl⟩
      refine ⟨kn_op rfl rfl (wantB_none rfl) fun _ hF2 => ?_, ?_⟩
      · obtain ⟨_, hle2, H2⟩ := hF2
        refine  (ow_fieldAddr fd152_1 ty3 rfl rfl (r := 1) rfl ?_)
        exact ⟨rfl, rfl⟩
      refine ⟨kn_op rfl rfl (wantB_none rfl) fun _ hF2 => ?_, ?_⟩
      · obtain ⟨_, hle2, H2⟩ := hF2
        refine  (ow_load (v := .int .i64 (a : Int)) ty3 H2 rfl 0 rfl rfl rfl rfl ?_)
        exact ⟨rfl, rfl⟩
      refine ⟨kn_op rfl rfl (wantB_none rfl) fun _ hF2 => ?_, ?_⟩
      · obtain ⟨_, hle2, H2⟩ := hF2
        refine  (ow_cutT (a := a) (c := src.size) un9 rfl (.inr ⟨_, rfl⟩) (.inl ⟨rfl, rfl⟩) (by omega) (by omega) ?_)
        exact ⟨rfl, rfl⟩
      exact trivial
    have H := H.drew
    refine cw_op rfl (wantB_none rfl) (ow_call en194 rfl (IndexByte_c H (tailS src a) 10) ?_)
    rintro _ _ ⟨rfl, H⟩
    refine af_some [(2, .int .i64 (ixByte (tailS src a) 10))] (fun w_ => ∃ I2, Le I I2 ∧ Hp B I2 w_ [(gS, Ob [.string src, .int .i64 (a : Int), .slice Aa na ca] 152)]) rfl ⟨_, Le.refl _, H.pick [0] (by decide)⟩ ?_ ?_
    · refine ⟨kn_op rfl rfl (wantB_none rfl) fun _ hF2 => ?_, ?_⟩
      · obtain ⟨_, hle2, H2⟩ := hF2
        refine  (ow_assign (v := .int .i64 (ixByte (tailS src a) 10)) rfl ?_)
        exact ⟨rfl, rfl⟩
      exact trivial
    refine cw_nil ?_
    refine st_seq ?_
    refine st_region ?_
    refine sr_op rfl rfl (ow_move (v := .int .i64 (ixByte (tailS src a) 10)) rfl ?_)
    refine sr_op rfl rfl (ow_geq rfl rfl ?_)
    refine sr_nil ?_
    refine st_cond (decide (0 ≤ (ixByte (tailS src a) 10))) rfl (fun hc2 => ?_) (fun hc2 => ?_)
    · have h0 := of_decide_eq_true hc2
      have hadd : IntKind.i64.wrap ((a : Int) + ixByte (tailS src a) 10) = ((a + (ixByte (tailS src a) 10).toNat : Nat) : Int) := by
        rw [wrap_i64 (by omega) (by omega)]
        omega
      refine st_region ?_
      refine sr_op rfl rfl (ow_move (v := .pointer (some ⟨gS, 0, none⟩)) rfl ?_)
      refine sr_op rfl rfl (ow_nilCheck rfl ?_)
      refine sr_op rfl rfl (ow_fieldAddr fd152_1 ty3 rfl rfl (r := 1) rfl ?_)
      refine sr_op rfl rfl (ow_load (v := .int .i64 (a : Int)) ty3 H rfl 0 rfl rfl rfl rfl ?_)
      refine sr_op rfl rfl (ow_move (v := .int .i64 (ixByte (tailS src a) 10)) rfl ?_)
      refine sr_op rfl rfl (ow_add (r := ((a + (ixByte (tailS src a) 10).toNat : Nat) : Int)) rfl rfl hadd ?_)
      refine sr_op rfl rfl (ow_nilCheck rfl ?_)
      refine sr_op rfl rfl (ow_fieldAddr fd152_1 ty3 rfl rfl (r := 1) rfl ?_)
      refine sr_op rfl rfl (ow_store ty3 H rfl (v := .int .i64 ((a + (ixByte (tailS src a) 10).toNat : Nat) : Int)) rfl [.int .i64 ((a + (ixByte (tailS src a) 10).toNat : Nat) : Int)] rfl rfl rfl 0 rfl rfl (fun _ H => ?_))
      refine sr_nil ?_
      refine st_ret hb (hR _ _ (.tuple #[]) (res_run (vs := []) Tryz.results98 rfl) ?_)
      exact ⟨_, rfl, _, _, _, cs_, by rw [signR, if_pos hp, if_pos h0]; exact H, by rw [signR, if_pos hp, if_pos h0, List.append_nil]; exact ha⟩
    · have h0 := of_decide_eq_false hc2
      refine st_region ?_
      refine sr_op rfl rfl (ow_move (v := .pointer (some ⟨gS, 0, none⟩)) rfl ?_)
      refine sr_op rfl rfl (ow_move (v := .pointer (some ⟨gS, 0, none⟩)) rfl ?_)
      refine sr_op rfl rfl (ow_nilCheck rfl ?_)
      refine sr_op rfl rfl (ow_fieldAddr fd152_0 ty9 rfl rfl (r := 0) rfl ?_)
      refine sr_op rfl rfl (ow_load (v := .string src) ty9 H rfl 0 rfl rfl rfl rfl ?_)
      refine sr_op rfl rfl (ow_lenT un9 rfl rfl ?_)
      refine sr_op rfl rfl (ow_nilCheck rfl ?_)
      refine sr_op rfl rfl (ow_fieldAddr fd152_1 ty3 rfl rfl (r := 1) rfl ?_)
      refine sr_op rfl rfl (ow_store ty3 H rfl (v := .int .i64 (src.size : Int)) rfl [.int .i64 (src.size : Int)] rfl rfl rfl 0 rfl rfl (fun _ H => ?_))
      refine sr_nil ?_
      refine st_ret hb (hR _ _ (.tuple #[]) (res_run (vs := []) Tryz.results98 rfl) ?_)
      exact ⟨_, rfl, _, _, _, cs_, by rw [signR, if_pos hp, if_neg h0]; exact H, by rw [signR, if_pos hp, if_neg h0, List.append_nil]; exact ha⟩
  · have hp := hc1
    refine st_skip ?_
    refine st_seq ?_
    refine st_draw (F := (fun w_ => ∃ I2, Le I I2 ∧ Hp B I2 w_ [(gS, Ob [.string src, .int .i64 (a : Int), .slice Aa na ca] 152)])) (p0 := [0, 1, 2, 3, 4, 5, 6, 7, 8, 9, 10, 11, 12, 13, 14]) (plan := []) [] [] [(3, .string (src.extract a (a + 1 : Nat))), (55, .string (src.extract a (a + 1 : Nat))), (54, .int .i64 ((a + 1 : Nat) : Int)), (53, .int .i64 (a : Int)), (52, .pointer (some ⟨gS, 1, none⟩)), (51, .pointer (some ⟨gS, 0, none⟩)), (50, .pointer (some ⟨gS, 0, none⟩)), (49, .int .i64 (a : Int)), (48, .pointer (some ⟨gS, 1, none⟩)), (47, .pointer (some ⟨gS, 0, none⟩)), (46, .pointer (some ⟨gS, 0, none⟩)), (45, .string src), (44, .pointer (some ⟨gS, 0, none⟩)), (43, .pointer (some ⟨gS, 0, none⟩)), (42, .pointer (some ⟨gS, 0, none⟩))] (by kernel_rfl) rfl ?_ ⟨_, Le.refl _, H.drew.pick [0] (by decide)⟩ ?_
    · refine ⟨kn_op rfl rfl (wantB_none rfl) fun _ hF2 => ?_, ?_⟩
      · obtain ⟨_, hle2, H2⟩ := hF2
        refine  (ow_move (v := .pointer (some ⟨gS, 0, none⟩)) rfl ?_)
        exact ⟨rfl, rfl⟩
      refine ⟨kn_op rfl rfl (wantB_none rfl) fun _ hF2 => ?_, ?_⟩
      · obtain ⟨_, hle2, H2⟩ := hF2
        refine  (ow_nilCheck rfl ?_)
        exact ⟨rfl, rfl⟩
      refine ⟨kn_op rfl rfl (wantB_none rfl) fun _ hF2 => ?_, ?_⟩
      · obtain ⟨_, hle2, H2⟩ := hF2
        refine  (ow_fieldAddr fd152_0 ty9 rfl rfl (r := 0) rfl ?_)
        exact ⟨rfl, rfl⟩
      refine ⟨kn_op rfl rfl (wantB_none rfl) fun _ hF2 => ?_, ?_⟩
      · obtain ⟨_, hle2, H2⟩ := hF2
        refine  (ow_load (v := .string src) ty9 H2 rfl 0 rfl rfl rfl rfl ?_)
        exact ⟨rfl, rfl⟩
      refine ⟨kn_op rfl rfl (wantB_none rfl) fun _ hF2 => ?_, ?_⟩
      · obtain ⟨_, hle2, H2⟩ := hF2
        refine  (ow_move (v := .pointer (some ⟨gS, 0, none⟩)) rfl ?_)
        exact ⟨rfl, rfl⟩
      refine ⟨kn_op rfl rfl (wantB_none rfl) fun _ hF2 => ?_, ?_⟩
      · obtain ⟨_, hle2, H2⟩ := hF2
        refine  (ow_nilCheck rfl ?_)
        exact ⟨rfl, rfl⟩
      refine ⟨kn_op rfl rfl (wantB_none rfl) fun _ hF2 => ?_, ?_⟩
      · obtain ⟨_, hle2, H2⟩ := hF2
        refine  (ow_fieldAddr fd152_1 ty3 rfl rfl (r := 1) rfl ?_)
        exact ⟨rfl, rfl⟩
      refine ⟨kn_op rfl rfl (wantB_none rfl) fun _ hF2 => ?_, ?_⟩
      · obtain ⟨_, hle2, H2⟩ := hF2
        refine  (ow_load (v := .int .i64 (a : Int)) ty3 H2 rfl 0 rfl rfl rfl rfl ?_)
        exact ⟨rfl, rfl⟩
      refine ⟨kn_op rfl rfl (wantB_none rfl) fun _ hF2 => ?_, ?_⟩
      · obtain ⟨_, hle2, H2⟩ := hF2
        refine  (ow_move (v := .pointer (some ⟨gS, 0, none⟩)) rfl ?_)
        exact ⟨rfl, rfl⟩
      refine ⟨kn_op rfl rfl (wantB_none rfl) fun _ hF2 => ?_, ?_⟩
      · obtain ⟨_, hle2, H2⟩ := hF2
        refine  (ow_nilCheck rfl ?_)
        exact ⟨rfl, rfl⟩
      refine ⟨kn_op rfl rfl (wantB_none rfl) fun _ hF2 => ?_, ?_⟩
      · obtain ⟨_, hle2, H2⟩ := hF2
        refine  (ow_fieldAddr fd152_1 ty3 rfl rfl (r := 1) rfl ?_)
        exact ⟨rfl, rfl⟩
      refine ⟨kn_op rfl rfl (wantB_none rfl) fun _ hF2 => ?_, ?_⟩
      · obtain ⟨_, hle2, H2⟩ := hF2
        refine  (ow_load (v := .int .i64 (a : Int)) ty3 H2 rfl 0 rfl rfl rfl rfl ?_)
        exact ⟨rfl, rfl⟩
      refine ⟨kn_op rfl rfl (wantB_none rfl) fun _ hF2 => ?_, ?_⟩
      · obtain ⟨_, hle2, H2⟩ := hF2
        refine  (ow_add (r := ((a + 1 : Nat) : Int)) rfl rfl (inc_i64 (by omega)) ?_)
        exact ⟨rfl, rfl⟩
      refine ⟨kn_op rfl rfl (wantB_none rfl) fun _ hF2 => ?_, ?_⟩
      · obtain ⟨_, hle2, H2⟩ := hF2
        refine  (ow_cutT (a := a) (c := (a + 1 : Nat)) un9 rfl (.inr ⟨_, rfl⟩) (.inr ⟨_, rfl⟩) (by omega) (by omega) ?_)
        exact ⟨rfl, rfl⟩
      refine ⟨kn_op rfl rfl (wantB_none rfl) fun _ hF2 => ?_, ?_⟩
      · obtain ⟨_, hle2, H2⟩ := hF2
        refine  (ow_assign (v := .string (src.extract a (a + 1 : Nat))) rfl ?_)
        exact ⟨rfl, rfl⟩
      exact trivial
    have H := H.drew
    refine cw_nil ?_
    refine st_region ?_
    refine sr_op rfl rfl (ow_move (v := .pointer (some ⟨gS, 0, none⟩)) rfl ?_)
    refine sr_op rfl rfl (ow_move (v := .string (src.extract a (a + 1 : Nat))) rfl ?_)
    refine sr_op rfl rfl (ow_move (v := .string (src.extract a (a + 1 : Nat))) rfl ?_)
    refine sr_op rfl rfl (ow_build (ps := [(0, .int .i64 3), (1, .string (src.extract a (a + 1 : Nat)))]) (v := .agg #[.int .i64 3, .string (src.extract a (a + 1 : Nat)), .int .i64 0, .int .i64 0]) rfl (fun _ => by kernel_rfl) ?_)
    have hone : (src.extract a (a + 1)).size = 1 := by rw [ByteArray.size_extract]; omega
    have hov := one_valid (s := src.extract a (a + 1)) hone (by rw [cut_list, show a + 1 - a = 1 by omega, List.getElem?_take, if_pos (by omega), List.getElem?_drop, Nat.add_zero]; exact hu) hcl
    refine sr_op rfl rfl (ow_callp en192 rfl (add_c (t := (mkTk 3 (src.extract a (a + 1)) 0 0)) (src.extract a (a + 1)) H ha ((tk_iff (t := mkTk 3 (src.extract a (a + 1)) 0 0)).2 ⟨rfl, i64_3, S63_small (s := src.extract a (a + 1)) (by rw [ByteArray.size_extract]; omega), i64_0, i64_0⟩) hT (by omega)) ?_ ?_)
    rotate_left
    · rintro ch_ w_ ⟨hv, _⟩
      rw [hov] at hv
      cases hv
    rintro _ _ ⟨hv, Ab_, nb_, cb_, csb_, H, ha⟩
    rw [hone] at H
    refine sr_nil ?_
    refine st_end hb (hR _ _ (.tuple #[]) (res_run (vs := []) Tryz.results98 rfl) ?_)
    exact ⟨_, rfl, _, _, _, csb_, by rw [signR, if_neg (by rw [hp]; decide)]; exact H, by rw [signR, if_neg (by rw [hp]; decide)]; exact ha⟩
end Go.Proofs.YtghmjnbpkobooaaGreatDoor
