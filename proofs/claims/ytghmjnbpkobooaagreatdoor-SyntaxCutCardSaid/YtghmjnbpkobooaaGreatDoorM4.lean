/-
  The statement SyntaxCut of the law package of syntax, as the given card has it, is proved: for every input that the row lets in, the law returns true and each argument reads behind the call as it read before; the listed variables (tables and errors of the library) begin as the program's text lays them. No further condition.
-/
import Derived.Test.YtghmjnbpkobooaaGreatDoorMH
import Derived.Test.YtghmjnbpkobooaaGreatDoorZ2
import Derived.Test.YtghmjnbpkobooaaGreatDoorMR
set_option linter.unusedVariables false
set_option linter.unusedSimpArgs false
set_option maxRecDepth 10000
set_option maxHeartbeats 4000000
namespace Go.Proofs.YtghmjnbpkobooaaGreatDoor
open Go Go.RowKit

theorem Lex_n {B I L w} (H : Hp B I w L) (src : ByteArray) (hS : S63 src) (hlib : LibAt I) : Calls Tryz.prog 35 #[.string src] w (Rt fun r w' => ∃ l a e I' v, lexE src = (l, a, e) ∧ Le I I' ∧ Hp B I' w' L ∧ r = .tuple #[v, .int .i64 a, .int .i64 e] ∧ RepS encTk I' 4 l v) := by
  refine Calls.mono (Lex_c H src hS hlib) fun e w' he => ?_
  obtain ⟨_, rfl, I', v, hI, H', rfl, hl⟩ := he
  exact ⟨_, rfl, _, _, _, I', v, rfl, hI, H', rfl, hl⟩
theorem Text_v {B I L w} (H : Hp B I w L) {l : List Tk} {v : Value} (hl : RepS encTk I 4 l v) (hn : l.length ≤ 100000) (hlib : LibAt I) (hv : l.all validB = true) : Calls Tryz.prog 36 #[v] w (Rt fun r w' => r = .tuple #[.string (joinW l), .int .i64 0] ∧ Hp B I w' L) := by
  have h := Text_c H hl hn (fun h => join_bound (by omega) h) hlib (rep_toks hl)
  rw [text_yes hv] at h
  exact h
theorem law_start {src : ByteArray} {l : List Tk} {a e a2 k : Int} {x : Po} (h1 : lexE src = (l, a, e)) (h2 : parseE src = (x, a2, k)) (he : e = 0) (hk : k = 0) : l.all validB = true ∧ policyT fuelN l = .ok x [] ∧ l.length ≤ src.size ∧ costT l ≤ 2 * src.size := by
  subst he
  subst hk
  have hg := lex_good (src := src) (by rw [h1])
  have hp := parse_good (src := src) (by rw [h2])
  rw [h1] at hg hp
  rw [h2] at hp
  exact ⟨hg.2.1, hp.2.1, hg.2.2.1, hg.2.2.2.2⟩
theorem take_valid {l : List Tk} (i : Nat) (h : l.all validB = true) : (l.take i).all validB = true := by
  rw [← List.take_append_drop i l, List.all_append, Bool.and_eq_true] at h
  exact h.1
theorem u64_nat (n : Int) : ∃ q : Nat, IntKind.u64.wrap n = (q : Int) := by
  refine ⟨(n % 18446744073709551616).toNat, ?_⟩
  have h : IntKind.u64.wrap n = n % 18446744073709551616 := rfl
  rw [h]
  omega
theorem u64_len {q : Nat} (h : q ≤ 1000000) : IntKind.u64.wrap (q : Int) = (q : Int) := by
  have h1 : IntKind.u64.wrap (q : Int) = (q : Int) % 18446744073709551616 := rfl
  rw [h1]
  omega
theorem rem_nat (q : Nat) {l : Nat} (h : 0 < l) : ∃ i : Nat, Int.tmod (q : Int) (l : Int) = (i : Int) ∧ i < l := by
  refine ⟨q % l, ?_, Nat.mod_lt _ h⟩
  rw [Int.tmod_eq_emod_of_nonneg (by omega)]
  rfl
end Go.Proofs.YtghmjnbpkobooaaGreatDoor

set_option linter.unusedVariables false
set_option linter.unusedSimpArgs false
set_option maxRecDepth 10000
set_option maxHeartbeats 4000000
namespace Go.Proofs.YtghmjnbpkobooaaGreatDoor
open Go Go.RowKit

theorem SyntaxCut_c {B I L w} (H : Hp B I w L) (src : ByteArray) (hS : src.size ≤ 140737488355328) (n : Int) (hn : I64 n) (hlib : LibAt I) : Calls Tryz.prog 8 #[.string src, .int .i64 n] w (Rt fun r w' => r = .bool true ∧ Hp B I w' L) := by
  refine calls_st (n := 84) Tryz.func8 rfl rfl rfl ?_
  intro G bF cs hb hfn hR hP
  simp only [ini]
  refine st_seq ?_
  refine st_region ?_
  refine sr_op rfl rfl (ow_assign (v := .bool false) rfl ?_)
  refine sr_nil ?_
  refine st_seq ?_
  refine st_seq ?_
  refine st_region ?_
  refine sr_op rfl rfl (ow_call en31 rfl (sane19_c H hlib) ?_)
  rintro _ _ ⟨rfl, H⟩
  refine sr_op rfl rfl (ow_not rfl ?_)
  refine sr_nil ?_
  refine st_no rfl ?_
  refine st_skip ?_
  refine st_seq ?_
  refine st_region ?_
  refine sr_op rfl rfl (ow_move (v := .string src) rfl ?_)
  refine sr_op rfl rfl (ow_call en35 rfl (Lex_n H src (by unfold S63; omega) hlib) ?_)
  rintro _ _ ⟨l1, a1, e1, I1, v1, hlx1, hI1, H, rfl, hl1⟩
  obtain ⟨s1A, s1c, rfl, s1m, s1M, s1⟩ := RepS.open_ hl1
  refine sr_op rfl rfl (ow_move (v := .tuple #[.slice s1A l1.length s1c, .int .i64 a1, .int .i64 e1]) rfl ?_)
  refine sr_op rfl rfl (ow_extract (v := .slice s1A l1.length s1c) rfl rfl ?_)
  refine sr_op rfl rfl (ow_extract (v := .int .i64 a1) rfl rfl ?_)
  refine sr_op rfl rfl (ow_extract (v := .int .i64 e1) rfl rfl ?_)
  refine sr_op rfl rfl (ow_assign (v := .slice s1A l1.length s1c) rfl ?_)
  refine sr_op rfl rfl (ow_assign (v := .int .i64 a1) rfl ?_)
  refine sr_op rfl rfl (ow_assign (v := .int .i64 e1) rfl ?_)
  refine sr_nil ?_
  refine st_seq ?_
  refine st_region ?_
  refine sr_op rfl rfl (ow_move (v := .string src) rfl ?_)
  have hlib := (hlib.mono hI1)
  refine sr_op rfl rfl (ow_call en18 rfl (Parse_c H src (by unfold S63; omega) hlib) ?_)
  rintro _ _ ⟨I2, us2, x2, a2, k2, hI2, H, rfl, hk2, hx2⟩
  have d2 := hx2
  obtain ⟨d2v1, d2v2, d2v3, d2v8, rfl, d2_0, d2_1, d2_2, d2_3, d2_4, d2_5, d2_6, d2_7, d2_8, d2_9⟩ := po_iff.1 hx2
  obtain ⟨d2A1, d2c1, rfl, d2m1, d2M1, d2_1⟩ := RepS.open_ d2_1
  obtain ⟨d2A2, d2c2, rfl, d2m2, d2M2, d2_2⟩ := RepS.open_ d2_2
  obtain ⟨d2A3, d2c3, rfl, d2m3, d2M3, d2_3⟩ := RepS.open_ d2_3
  obtain ⟨d2A8, d2c8, rfl, d2m8, d2M8, d2_8⟩ := RepS.open_ d2_8
  refine sr_op rfl rfl (ow_move (v := .tuple #[.agg #[.string x2.name, .slice d2A1 x2.kinds.length d2c1, .slice d2A2 x2.offices.length d2c2, .slice d2A3 x2.rules.length d2c3, .int .i64 x2.change.kind, .int .i64 x2.change.n, .int .i64 x2.change.no, .string x2.change.name, .slice d2A8 x2.change.l.length d2c8, .int .i64 x2.mode], .int .i64 a2, .int .i64 k2]) rfl ?_)
  refine sr_op rfl rfl (ow_extract (v := .agg #[.string x2.name, .slice d2A1 x2.kinds.length d2c1, .slice d2A2 x2.offices.length d2c2, .slice d2A3 x2.rules.length d2c3, .int .i64 x2.change.kind, .int .i64 x2.change.n, .int .i64 x2.change.no, .string x2.change.name, .slice d2A8 x2.change.l.length d2c8, .int .i64 x2.mode]) rfl rfl ?_)
  refine sr_op rfl rfl (ow_extract (v := .int .i64 a2) rfl rfl ?_)
  refine sr_op rfl rfl (ow_extract (v := .int .i64 k2) rfl rfl ?_)
  refine sr_op rfl rfl (ow_alloc ty28 H [.string ⟨#[]⟩, .slice none 0 0, .slice none 0 0, .slice none 0 0, .int .i64 0, .int .i64 0, .int .i64 0, .string ⟨#[]⟩, .slice none 0 0, .int .i64 0] rfl (fun g1 _ H => ?_))
  refine sr_op rfl rfl (ow_store ty28 H rfl (v := .agg #[.string x2.name, .slice d2A1 x2.kinds.length d2c1, .slice d2A2 x2.offices.length d2c2, .slice d2A3 x2.rules.length d2c3, .int .i64 x2.change.kind, .int .i64 x2.change.n, .int .i64 x2.change.no, .string x2.change.name, .slice d2A8 x2.change.l.length d2c8, .int .i64 x2.mode]) rfl [.string x2.name, .slice d2A1 x2.kinds.length d2c1, .slice d2A2 x2.offices.length d2c2, .slice d2A3 x2.rules.length d2c3, .int .i64 x2.change.kind, .int .i64 x2.change.n, .int .i64 x2.change.no, .string x2.change.name, .slice d2A8 x2.change.l.length d2c8, .int .i64 x2.mode] rfl rfl rfl 0 rfl rfl (fun _ H => ?_))
  refine sr_op rfl rfl (ow_assign (v := .int .i64 a2) rfl ?_)
  refine sr_op rfl rfl (ow_assign (v := .int .i64 k2) rfl ?_)
  refine sr_nil ?_
  refine st_seq ?_
  refine st_seq ?_
  refine st_region ?_
  refine sr_op rfl rfl (ow_move (v := .string src) rfl ?_)
  refine sr_op rfl rfl (ow_lenT un9 rfl rfl ?_)
  refine sr_op rfl rfl (ow_gtr rfl rfl ?_)
  refine sr_op rfl rfl (ow_move (v := .bool (decide (2000 < (src.size : Int)))) rfl ?_)
  refine sr_cut 3 (fun m_ w_ => ∃ (r_ : Sl) (v_ : Bool), m_ = (35, .bool v_) :: (1, .int .i64 n) :: (4, .bool false) :: (5, .slice s1A l1.length s1c) :: (10, .int .i64 k2) :: r_ ∧ Hp B I2 w_ ((g1, Ob [.string x2.name, .slice d2A1 x2.kinds.length d2c1, .slice d2A2 x2.offices.length d2c2, .slice d2A3 x2.rules.length d2c3, .int .i64 x2.change.kind, .int .i64 x2.change.n, .int .i64 x2.change.no, .string x2.change.name, .slice d2A8 x2.change.l.length d2c8, .int .i64 x2.mode] 28) :: L) ∧ v_ = ((decide (2000 < (src.size : Int))) || (!decide (e1 = 0)))) (fun again => ?_) ?_
  · rcases hg : decide (2000 < (src.size : Int)) with _ | _
    · refine sr_want rfl (j := 3) (d := 32) rfl rfl rfl (v := false) rfl rfl (ow_move (v := .int .i64 e1) rfl ?_)
      refine sr_want rfl (j := 3) (d := 32) rfl rfl rfl (v := false) rfl rfl (ow_neq rfl rfl ?_)
      refine sr_op rfl rfl (ow_pick (v := .bool (!decide (e1 = 0))) rfl rfl ?_)
      exact sr_live [35, 1, 4, 5, 10] (again _ _ ⟨_, _, rfl, H, by rw [hg] <;> rfl⟩)
    · refine sr_pass rfl (j := 3) (d := 32) rfl rfl rfl (u := true) (v := false) rfl rfl ?_
      refine sr_pass rfl (j := 3) (d := 32) rfl rfl rfl (u := true) (v := false) rfl rfl ?_
      refine sr_op rfl rfl (ow_pick (v := .bool true) rfl rfl ?_)
      exact sr_live [35, 1, 4, 5, 10] (again _ _ ⟨_, _, rfl, H, by rw [hg] <;> rfl⟩)
  rintro _ _ ⟨r, _, rfl, H, rfl⟩
  refine sr_op rfl rfl (ow_move (v := .bool ((decide (2000 < (src.size : Int))) || (!decide (e1 = 0)))) rfl ?_)
  refine sr_cut 3 (fun m_ w_ => ∃ (r_ : Sl) (v_ : Bool), m_ = (39, .bool v_) :: (1, .int .i64 n) :: (4, .bool false) :: (5, .slice s1A l1.length s1c) :: r_ ∧ Hp B I2 w_ ((g1, Ob [.string x2.name, .slice d2A1 x2.kinds.length d2c1, .slice d2A2 x2.offices.length d2c2, .slice d2A3 x2.rules.length d2c3, .int .i64 x2.change.kind, .int .i64 x2.change.n, .int .i64 x2.change.no, .string x2.change.name, .slice d2A8 x2.change.l.length d2c8, .int .i64 x2.mode] 28) :: L) ∧ v_ = (((decide (2000 < (src.size : Int))) || (!decide (e1 = 0))) || (!decide (k2 = 0)))) (fun again => ?_) ?_
  · rcases hg : (decide (2000 < (src.size : Int))) || (!decide (e1 = 0)) with _ | _
    · refine sr_want rfl (j := 7) (d := 36) rfl rfl rfl (v := false) rfl rfl (ow_move (v := .int .i64 k2) rfl ?_)
      refine sr_want rfl (j := 7) (d := 36) rfl rfl rfl (v := false) rfl rfl (ow_neq rfl rfl ?_)
      refine sr_op rfl rfl (ow_pick (v := .bool (!decide (k2 = 0))) rfl rfl ?_)
      exact sr_live [39, 1, 4, 5] (again _ _ ⟨_, _, rfl, H, by rw [hg] <;> rfl⟩)
    · refine sr_pass rfl (j := 7) (d := 36) rfl rfl rfl (u := true) (v := false) rfl rfl ?_
      refine sr_pass rfl (j := 7) (d := 36) rfl rfl rfl (u := true) (v := false) rfl rfl ?_
      refine sr_op rfl rfl (ow_pick (v := .bool true) rfl rfl ?_)
      exact sr_live [39, 1, 4, 5] (again _ _ ⟨_, _, rfl, H, by rw [hg] <;> rfl⟩)
  rintro _ _ ⟨r, _, rfl, H, rfl⟩
  refine sr_op rfl rfl (ow_move (v := .bool (((decide (2000 < (src.size : Int))) || (!decide (e1 = 0))) || (!decide (k2 = 0)))) rfl ?_)
  refine sr_cut 4 (fun m_ w_ => ∃ (r_ : Sl) (v_ : Bool), m_ = (44, .bool v_) :: (1, .int .i64 n) :: (4, .bool false) :: (5, .slice s1A l1.length s1c) :: r_ ∧ Hp B I2 w_ ((g1, Ob [.string x2.name, .slice d2A1 x2.kinds.length d2c1, .slice d2A2 x2.offices.length d2c2, .slice d2A3 x2.rules.length d2c3, .int .i64 x2.change.kind, .int .i64 x2.change.n, .int .i64 x2.change.no, .string x2.change.name, .slice d2A8 x2.change.l.length d2c8, .int .i64 x2.mode] 28) :: L) ∧ v_ = ((((decide (2000 < (src.size : Int))) || (!decide (e1 = 0))) || (!decide (k2 = 0))) || (decide ((l1.length : Int) = 0)))) (fun again => ?_) ?_
  · rcases hg : ((decide (2000 < (src.size : Int))) || (!decide (e1 = 0))) || (!decide (k2 = 0)) with _ | _
    · refine sr_want rfl (j := 11) (d := 40) rfl rfl rfl (v := false) rfl rfl (ow_move (v := .slice s1A l1.length s1c) rfl ?_)
      refine sr_want rfl (j := 11) (d := 40) rfl rfl rfl (v := false) rfl rfl (ow_lenS sl67 rfl rfl ?_)
      refine sr_want rfl (j := 11) (d := 40) rfl rfl rfl (v := false) rfl rfl (ow_eql rfl rfl ?_)
      refine sr_op rfl rfl (ow_pick (v := .bool (decide ((l1.length : Int) = 0))) rfl rfl ?_)
      exact sr_live [44, 1, 4, 5] (again _ _ ⟨_, _, rfl, H, by rw [hg] <;> rfl⟩)
    · refine sr_pass rfl (j := 11) (d := 40) rfl rfl rfl (u := true) (v := false) rfl rfl ?_
      refine sr_pass rfl (j := 11) (d := 40) rfl rfl rfl (u := true) (v := false) rfl rfl ?_
      refine sr_pass rfl (j := 11) (d := 40) rfl rfl rfl (u := true) (v := false) rfl rfl ?_
      refine sr_op rfl rfl (ow_pick (v := .bool true) rfl rfl ?_)
      exact sr_live [44, 1, 4, 5] (again _ _ ⟨_, _, rfl, H, by rw [hg] <;> rfl⟩)
  rintro _ _ ⟨r, _, rfl, H, rfl⟩
  refine sr_op rfl rfl (ow_move (v := .bool ((((decide (2000 < (src.size : Int))) || (!decide (e1 = 0))) || (!decide (k2 = 0))) || (decide ((l1.length : Int) = 0)))) rfl ?_)
  refine sr_cut 4 (fun m_ w_ => ∃ (r_ : Sl) (v_ : Bool), m_ = (49, .bool v_) :: (1, .int .i64 n) :: (4, .bool false) :: (5, .slice s1A l1.length s1c) :: r_ ∧ Hp B I2 w_ ((g1, Ob [.string x2.name, .slice d2A1 x2.kinds.length d2c1, .slice d2A2 x2.offices.length d2c2, .slice d2A3 x2.rules.length d2c3, .int .i64 x2.change.kind, .int .i64 x2.change.n, .int .i64 x2.change.no, .string x2.change.name, .slice d2A8 x2.change.l.length d2c8, .int .i64 x2.mode] 28) :: L) ∧ v_ = (((((decide (2000 < (src.size : Int))) || (!decide (e1 = 0))) || (!decide (k2 = 0))) || (decide ((l1.length : Int) = 0))) || (decide (1000 < (l1.length : Int))))) (fun again => ?_) ?_
  · rcases hg : (((decide (2000 < (src.size : Int))) || (!decide (e1 = 0))) || (!decide (k2 = 0))) || (decide ((l1.length : Int) = 0)) with _ | _
    · refine sr_want rfl (j := 16) (d := 45) rfl rfl rfl (v := false) rfl rfl (ow_move (v := .slice s1A l1.length s1c) rfl ?_)
      refine sr_want rfl (j := 16) (d := 45) rfl rfl rfl (v := false) rfl rfl (ow_lenS sl67 rfl rfl ?_)
      refine sr_want rfl (j := 16) (d := 45) rfl rfl rfl (v := false) rfl rfl (ow_gtr rfl rfl ?_)
      refine sr_op rfl rfl (ow_pick (v := .bool (decide (1000 < (l1.length : Int)))) rfl rfl ?_)
      exact sr_live [49, 1, 4, 5] (again _ _ ⟨_, _, rfl, H, by rw [hg] <;> rfl⟩)
    · refine sr_pass rfl (j := 16) (d := 45) rfl rfl rfl (u := true) (v := false) rfl rfl ?_
      refine sr_pass rfl (j := 16) (d := 45) rfl rfl rfl (u := true) (v := false) rfl rfl ?_
      refine sr_pass rfl (j := 16) (d := 45) rfl rfl rfl (u := true) (v := false) rfl rfl ?_
      refine sr_op rfl rfl (ow_pick (v := .bool true) rfl rfl ?_)
      exact sr_live [49, 1, 4, 5] (again _ _ ⟨_, _, rfl, H, by rw [hg] <;> rfl⟩)
  rintro _ _ ⟨r, _, rfl, H, rfl⟩
  refine sr_nil ?_
  refine st_cond (((((decide (2000 < (src.size : Int))) || (!decide (e1 = 0))) || (!decide (k2 = 0))) || (decide ((l1.length : Int) = 0))) || (decide (1000 < (l1.length : Int)))) rfl (fun hc2 => ?_) (fun hc2 => ?_)
  · skip
    refine st_seq ?_
    refine st_region ?_
    refine sr_op rfl rfl (ow_assign (v := .bool true) rfl ?_)
    refine sr_nil ?_
    refine st_ret hb (hR _ _ (.bool true) (res_run (vs := [.bool true]) Tryz.results8 ⟨_, _, rfl, rfl, rfl⟩) ?_)
    exact ⟨_, rfl, rfl, (Hp.back (H.drop 1) (hI1.trans hI2))⟩
  · simp only [Bool.or_eq_false_iff, Bool.not_eq_false', decide_eq_false_iff_not, decide_eq_true_eq] at hc2
    obtain ⟨⟨⟨⟨hz1, he1⟩, hk1⟩, hne⟩, hlm⟩ := hc2
    obtain ⟨hval, hpol, hll, hco⟩ := law_start hlx1 hk2 he1 hk1
    refine st_skip ?_
    refine st_seq ?_
    refine st_region ?_
    refine sr_op rfl rfl (ow_move (v := .slice s1A l1.length s1c) rfl ?_)
    refine sr_op rfl rfl (ow_move (v := .int .i64 n) rfl ?_)
    obtain ⟨qn, hqn⟩ := u64_nat n
    refine sr_op rfl rfl (ow_conv (cm := true) Tryz.underlying3 Tryz.underlying76 rfl (r := (qn : Int)) hqn ?_)
    refine sr_op rfl rfl (ow_move (v := .slice s1A l1.length s1c) rfl ?_)
    refine sr_op rfl rfl (ow_lenS sl67 rfl rfl ?_)
    refine sr_op rfl rfl (ow_conv (cm := true) Tryz.underlying3 Tryz.underlying76 rfl (r := (l1.length : Int)) (u64_len (by omega)) ?_)
    obtain ⟨i, hi, hil⟩ := rem_nat qn (l := l1.length) (by omega)
    refine sr_op rfl rfl (ow_rem rfl rfl (by omega) (r := (i : Int)) hi ?_)
    refine sr_op rfl rfl (ow_conv (cm := true) Tryz.underlying76 Tryz.underlying3 rfl (r := (i : Int)) (wrap_i64 (by omega) (by omega)) ?_)
    refine sr_op rfl rfl (ow_cutS (a := 0) (c := i) sl67 ty71 rfl (.inl ⟨rfl, rfl⟩) (.inr ⟨_, rfl⟩) (by omega) (by omega) (by omega) ?_)
    have s1 := (s1.mono hI2)
    have hlib := (hlib.mono hI2)
    refine sr_op rfl rfl (ow_call en36 rfl (Text_v H (by have h_ := RepS.cut s1 0 i (by omega) (by omega); rw [List.drop_zero] at h_; exact h_) (by rw [List.length_take]; omega) hlib (take_valid i hval)) ?_)
    rintro _ _ ⟨rfl, H⟩
    refine sr_op rfl rfl (ow_move (v := .tuple #[.string (joinW (l1.take i)), .int .i64 0]) rfl ?_)
    refine sr_op rfl rfl (ow_extract (v := .string (joinW (l1.take i))) rfl rfl ?_)
    refine sr_op rfl rfl (ow_extract (v := .int .i64 0) rfl rfl ?_)
    refine sr_op rfl rfl (ow_assign (v := .string (joinW (l1.take i))) rfl ?_)
    refine sr_op rfl rfl (ow_assign (v := .int .i64 0) rfl ?_)
    refine sr_nil ?_
    refine st_seq ?_
    refine st_seq ?_
    refine st_region ?_
    refine sr_op rfl rfl (ow_move (v := .string (joinW (l1.take i))) rfl ?_)
    refine sr_op rfl rfl (ow_lenT un9 rfl rfl ?_)
    refine sr_op rfl rfl (ow_gtr rfl rfl ?_)
    refine sr_nil ?_
    refine st_cond (decide (65536 < ((joinW (l1.take i)).size : Int))) rfl (fun hc3 => ?_) (fun hc3 => ?_)
    · have hc3 := of_decide_eq_true hc3
      refine st_seq ?_
      refine st_region ?_
      refine sr_op rfl rfl (ow_assign (v := .bool true) rfl ?_)
      refine sr_nil ?_
      refine st_ret hb (hR _ _ (.bool true) (res_run (vs := [.bool true]) Tryz.results8 ⟨_, _, rfl, rfl, rfl⟩) ?_)
      exact ⟨_, rfl, rfl, (Hp.back (H.drop 1) (hI1.trans hI2))⟩
    · have hc3 := of_decide_eq_false hc3
      refine st_skip ?_
      refine st_seq ?_
      refine st_region ?_
      refine sr_op rfl rfl (ow_move (v := .string (joinW (l1.take i))) rfl ?_)
      refine sr_op rfl rfl (ow_call en18 rfl (Parse_as H (src := (joinW (l1.take i))) (by unfold S63; omega) hlib (cut_parse hval (by omega) hpol hil (by omega))) ?_)
      rintro _ _ ⟨I3, us3, hI3, H, rfl, hx3⟩
      have d3 := hx3
      obtain ⟨d3v1, d3v2, d3v3, d3v8, rfl, d3_0, d3_1, d3_2, d3_3, d3_4, d3_5, d3_6, d3_7, d3_8, d3_9⟩ := po_iff.1 hx3
      obtain ⟨d3A1, d3c1, rfl, d3m1, d3M1, d3_1⟩ := RepS.open_ d3_1
      obtain ⟨d3A2, d3c2, rfl, d3m2, d3M2, d3_2⟩ := RepS.open_ d3_2
      obtain ⟨d3A3, d3c3, rfl, d3m3, d3M3, d3_3⟩ := RepS.open_ d3_3
      obtain ⟨d3A8, d3c8, rfl, d3m8, d3M8, d3_8⟩ := RepS.open_ d3_8
      refine sr_op rfl rfl (ow_move (v := .tuple #[.agg #[.string zeroP.name, .slice d3A1 zeroP.kinds.length d3c1, .slice d3A2 zeroP.offices.length d3c2, .slice d3A3 zeroP.rules.length d3c3, .int .i64 zeroP.change.kind, .int .i64 zeroP.change.n, .int .i64 zeroP.change.no, .string zeroP.change.name, .slice d3A8 zeroP.change.l.length d3c8, .int .i64 zeroP.mode], .int .i64 ((joinW (l1.take i)).size : Int), .int .i64 190]) rfl ?_)
      refine sr_op rfl rfl (ow_extract (v := .agg #[.string zeroP.name, .slice d3A1 zeroP.kinds.length d3c1, .slice d3A2 zeroP.offices.length d3c2, .slice d3A3 zeroP.rules.length d3c3, .int .i64 zeroP.change.kind, .int .i64 zeroP.change.n, .int .i64 zeroP.change.no, .string zeroP.change.name, .slice d3A8 zeroP.change.l.length d3c8, .int .i64 zeroP.mode]) rfl rfl ?_)
      refine sr_op rfl rfl (ow_extract (v := .int .i64 ((joinW (l1.take i)).size : Int)) rfl rfl ?_)
      refine sr_op rfl rfl (ow_extract (v := .int .i64 190) rfl rfl ?_)
      refine sr_op rfl rfl (ow_alloc ty28 H [.string ⟨#[]⟩, .slice none 0 0, .slice none 0 0, .slice none 0 0, .int .i64 0, .int .i64 0, .int .i64 0, .string ⟨#[]⟩, .slice none 0 0, .int .i64 0] rfl (fun g4 _ H => ?_))
      refine sr_op rfl rfl (ow_store ty28 H rfl (v := .agg #[.string zeroP.name, .slice d3A1 zeroP.kinds.length d3c1, .slice d3A2 zeroP.offices.length d3c2, .slice d3A3 zeroP.rules.length d3c3, .int .i64 zeroP.change.kind, .int .i64 zeroP.change.n, .int .i64 zeroP.change.no, .string zeroP.change.name, .slice d3A8 zeroP.change.l.length d3c8, .int .i64 zeroP.mode]) rfl [.string zeroP.name, .slice d3A1 zeroP.kinds.length d3c1, .slice d3A2 zeroP.offices.length d3c2, .slice d3A3 zeroP.rules.length d3c3, .int .i64 zeroP.change.kind, .int .i64 zeroP.change.n, .int .i64 zeroP.change.no, .string zeroP.change.name, .slice d3A8 zeroP.change.l.length d3c8, .int .i64 zeroP.mode] rfl rfl rfl 0 rfl rfl (fun _ H => ?_))
      refine sr_op rfl rfl (ow_assign (v := .int .i64 ((joinW (l1.take i)).size : Int)) rfl ?_)
      refine sr_op rfl rfl (ow_assign (v := .int .i64 190) rfl ?_)
      refine sr_nil ?_
      refine st_seq ?_
      refine st_region ?_
      refine sr_op rfl rfl (ow_move (v := .int .i64 0) rfl ?_)
      refine sr_op rfl rfl (ow_eql rfl rfl ?_)
      refine sr_op rfl rfl (ow_move (v := .bool true) rfl ?_)
      refine sr_want rfl (j := 2) (d := 74) rfl rfl rfl (v := true) rfl rfl (ow_move (v := .int .i64 190) rfl ?_)
      refine sr_want rfl (j := 2) (d := 74) rfl rfl rfl (v := true) rfl rfl (ow_eql rfl rfl ?_)
      refine sr_op rfl rfl (ow_pick (v := .bool true) rfl rfl ?_)
      refine sr_op rfl rfl (ow_move (v := .bool true) rfl ?_)
      refine sr_want rfl (j := 6) (d := 78) rfl rfl rfl (v := true) rfl rfl (ow_move (v := .int .i64 ((joinW (l1.take i)).size : Int)) rfl ?_)
      refine sr_want rfl (j := 6) (d := 78) rfl rfl rfl (v := true) rfl rfl (ow_move (v := .string (joinW (l1.take i))) rfl ?_)
      refine sr_want rfl (j := 6) (d := 78) rfl rfl rfl (v := true) rfl rfl (ow_lenT un9 rfl rfl ?_)
      refine sr_want rfl (j := 6) (d := 78) rfl rfl rfl (v := true) rfl rfl (ow_eql rfl rfl ?_)
      refine sr_op rfl rfl (ow_pick (v := .bool (decide (((joinW (l1.take i)).size : Int) = ((joinW (l1.take i)).size : Int)))) rfl rfl ?_)
      refine sr_op rfl rfl (ow_assign (v := .bool (decide (((joinW (l1.take i)).size : Int) = ((joinW (l1.take i)).size : Int)))) rfl ?_)
      refine sr_nil ?_
      refine st_ret hb (hR _ _ (.bool (decide (((joinW (l1.take i)).size : Int) = ((joinW (l1.take i)).size : Int)))) (res_run (vs := [.bool (decide (((joinW (l1.take i)).size : Int) = ((joinW (l1.take i)).size : Int)))]) Tryz.results8 ⟨_, _, rfl, rfl, rfl⟩) ?_)
      exact ⟨_, rfl, congrArg Value.bool (decide_eq_true rfl), (Hp.back (H.drop 2) ((hI1.trans hI2).trans hI3))⟩
end Go.Proofs.YtghmjnbpkobooaaGreatDoor

set_option linter.unusedVariables false
set_option linter.unusedSimpArgs false
set_option maxRecDepth 10000
set_option maxHeartbeats 4000000
namespace Go.Proofs.YtghmjnbpkobooaaGreatDoor
open Go Go.RowKit

open Go.ChangeShapes Go.WideShapes Go.ChangeAt
open Go.ChangeMaps (open_string shut_string)
set_option maxRecDepth 100000 in
theorem syntaxCut_lifted (os : Os) (started : os.Started) (H : Type) (enc : TypeId × Value → H) :
    ReturnsInHanded {} Tryz.checked os 8 .any (fun w args => (Rows.syntaxCutSpec.pre enc Tryz.prog Tryz.f8 [] false w args ∧ laidMetH Tryz.prog laidL w) ∧ sizedMet enc Tryz.prog Tryz.f8 (OpenSpec.ofChange Rows.syntaxCutSpec) false w args)
      (Rows.syntaxCutSpec.post enc Tryz.prog Tryz.f8 false true false false) := by
  refine returnsInHanded_of_change_and (C := Tryz.checked) (X := fun w _ => laidMetH Tryz.prog laidL w) (fun _ _ _ hh h => h.of_heap hh) own_ started (by kernel_rfl) Tryz.func8
    (ChangeSpec.witness_shaped (enc := enc) (C := Tryz.checked) (os := os) (X := fun w _ => laidMetH Tryz.prog laidL w) false (World.doorLaid Tryz.prog 67 os) #[.string ⟨#[]⟩, .int .i64 0] 8 rfl (World.shaped_of_RefB (by kernel_rfl) (by kernel_rfl)) (by kernel_rfl) (by kernel_rfl) (by kernel_rfl) (laidL_met os _)) ?_
  intro W base args ds gs before hval0 hW _ hsz0 hL _
  have hsz : (DataW.weightsEach Tryz.prog (Tryz.f8.params.toList ++ Rows.syntaxCutSpec.plain.varTypes Tryz.prog) (ds ++ gs)).all (· ≤ reachBytes) = true := hsz0
  have hval : ∀ (j : Nat) t v, Tryz.f8.params[j]? = some t → args[j]? = some v → Value.okWide Tryz.prog W .any base t v := hval0
  have hW' := hW
  obtain ⟨p, q, hA0, hV, rfl, hfz, hnd⟩ := hW
  have hA : DataW.TrodAll enc Tryz.prog W 0 (fun _ => true) true Tryz.f8.params.toList args.toList ds p := hA0
  rw [Tryz.params8] at hA hval hsz
  obtain ⟨v0, vs0, d0, ds0, p0, q0, hargs, rfl, rfl, h0, r0⟩ := trodAll_cons hA
  obtain ⟨v1, vs1, d1, ds1, p1, q1, rfl, rfl, rfl, h1, r1⟩ := trodAll_cons r0
  obtain ⟨rfl, rfl, rfl⟩ := trodAll_nil r1
  obtain rfl : args = #[v0, v1] := by cases args; simp_all
  obtain ⟨rfl, rfl⟩ := trodVars_none hV
  obtain ⟨src, rfl, rfl, rfl, y0⟩ := open_string Tryz.underlying9 (hval 0 9 v0 rfl rfl) h0
  have w0 : src.size ≤ 140737488351232 := by
    have z := sized_string hsz (j := 0) (t := 9) rfl rfl
    rw [Array.length_toList] at z
    exact z
  obtain ⟨n, rfl, rfl, rfl, w1⟩ := open_int Tryz.underlying3 (hval 1 3 v1 rfl rfl) h1
  have hlib := lib_at hL
  refine Calls.mono (SyntaxCut_c (hp_start W) src (by omega) n (by have := bounds_i64 w1; constructor <;> omega) hlib) fun e W' he => ?_
  obtain ⟨_, rfl, rfl, hb_⟩ := he
  obtain ⟨W2, bel, hal⟩ := below_of hb_
  exact ⟨_, rfl, ChangeSpec.post_alike ⟨_, _, _, [], _, [], hW', trodAll_mk1 (shut_bool Tryz.underlying4 _), (trodAll_cons_mk (shut_string Tryz.underlying9 y0) (trodAll_cons_mk (shut_int Tryz.underlying3 w1) trodAll_mk0)), rfl, bel.frame _, fun h => by cases h⟩ hal⟩
theorem syntaxCut_r1 : Tryz.pinned.checked.prog.funcNamed Rows.syntaxCutRow.func = some 8 := by kernel_rfl
theorem syntaxCut_r2 : joinedFacts Tryz.pinned.checked.prog 8 Tryz.f8 Rows.syntaxCutSpec Rows.syntaxCutRow = true := by kernel_rfl
theorem syntaxCut_r3 : Tryz.f8.isInstance Tryz.pinned.checked.prog Rows.syntaxCutRow.origin Rows.syntaxCutRow.targs := of_decide_eq_true (by kernel_rfl)
theorem syntaxCut_r4 : Tryz.f8.isWrapper Tryz.pinned.checked.prog Rows.syntaxCutRow.wrapper Rows.syntaxCutRow.mainSum := by unfold Func.isWrapper; first | (rw [if_pos (by decide +kernel)]; kernel_rfl) | (rw [if_neg (by decide +kernel)]; exact ⟨rfl, rfl⟩)
theorem syntaxCut_row : Rows.SyntaxCutSaid :=
  OpenClaim.holds_of_wide 8 Tryz.f8 rfl rfl rfl rfl rfl rfl rfl ⟨rfl, rfl, rfl, rfl, rfl⟩ rfl rfl rfl rfl rfl syntaxCut_r1 Tryz.func8 syntaxCut_r2 syntaxCut_r3 syntaxCut_r4
    (fun os started H enc _ => syntaxCut_lifted os started H enc)
theorem syntaxCut_h1 : Rows.syntaxCutRow.wfByText (OpenSpec.ofChange Rows.syntaxCutSpec) = true := by kernel_rfl
theorem syntaxCut_h2 : Tryz.pinned.checked.prog.mainIs = some (((true, "6dfbc9ab955ebfe709820a3f39b9f3e8b45f2ec5d23a756b48fd12bbbea2d69f") : Bool × String).1, ((true, "6dfbc9ab955ebfe709820a3f39b9f3e8b45f2ec5d23a756b48fd12bbbea2d69f") : Bool × String).2.toList) := by kernel_rfl
theorem syntaxCut_h3 : true = Tryz.pinned.checked.prog.looks [] := by kernel_rfl
theorem syntaxCut_h4 : ([9, 3].all fun u => !Tryz.prog.wantsStandIn u) = true := by kernel_rfl
theorem syntaxCut_h5 : false = Rows.syntaxCutRow.goesBy Tryz.pinned.checked.prog := by kernel_rfl
theorem syntaxCut_holds : Rows.SyntaxCutCardSaid :=
  Claim7.holds_tied_plain_at .later [] [.data, .data, .data, .sentinel, .sentinel] true (true, "6dfbc9ab955ebfe709820a3f39b9f3e8b45f2ec5d23a756b48fd12bbbea2d69f") true
    syntaxCut_row (fun _ h => by cases h) syntaxCut_h1 (fun _ h => by cases h) syntaxCut_row_tie rfl ⟨rfl, rfl⟩ syntaxCut_h2 rfl
    (fun f fn hf hfn => by
      obtain rfl : f = 8 := Option.some.inj (syntaxCut_r1.symm.trans hf) |>.symm
      obtain rfl : fn = Tryz.f8 := (Option.some.inj (Tryz.func8.symm.trans hfn)).symm
      exact ⟨syntaxCut_h3, fun j t ht => by
        rw [Tryz.params8] at ht
        have hm : t ∈ [9, 3] := by simpa using Array.mem_of_getElem? ht
        exact (show Tryz.prog.wantsStandIn t = false by simpa using List.all_eq_true.1 syntaxCut_h4 t hm)⟩)
    syntaxCut_h5
#print axioms syntaxCut_holds
end Go.Proofs.YtghmjnbpkobooaaGreatDoor
