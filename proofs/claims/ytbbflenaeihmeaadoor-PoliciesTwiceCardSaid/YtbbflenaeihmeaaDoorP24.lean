/-
  Walks: the statement PoliciesMean.
-/
import Derived.Test.YtbbflenaeihmeaaDoorP23
set_option linter.unusedVariables false
set_option linter.unusedSimpArgs false
set_option maxRecDepth 10000
set_option maxHeartbeats 4000000
namespace Go.Proofs.YtbbflenaeihmeaaDoor
open Go Go.RowKit

theorem RepS.openn {α : Type} {enc : α → List Dat} {I : Im} {sz n : Nat} {l : List α} {v : Value} (hr : RepS enc I sz l v) (hn : l.length = n) : ∃ A c, v = .slice A n c ∧ n ≤ c ∧ c ≤ 9223372036854775807 ∧ RepS enc I sz l (.slice A n c) := by
  subst hn
  exact RepS.open_ hr
theorem RepS.getn {α : Type} {enc : α → List Dat} {I : Im} {sz n : Nat} {l : List α} {A : Option Addr} {c : Nat} (hn : l.length = n) (hr : RepS enc I sz l (.slice A n c)) {i : Nat} {x : α} (hx : l[i]? = some x) :
    ∃ b off us, A = some ⟨b, off, none⟩ ∧ At I b (off + i * sz) us ∧ us.length = sz ∧ RepL I (enc x) us := by
  subst hn
  exact RepS.get hr hx
theorem Resolve_as {B I L w} (H : Hp B I w L) {q z : Po} {us : List Value} (hp : RepL I (encPo q) us) (hkd : At I 0 0 kindsV) (h : errOf q = 0) (hz : resolveP q = z) : Calls Tryd.prog 19 #[.agg us.toArray] w (Rt fun r w' => ∃ I' us', Le I I' ∧ Hp B I' w' L ∧ r = .tuple #[.agg us'.toArray, .int .i64 0] ∧ RepL I' (encPo z) us') := by
  have h1 := Resolve_c H hp hkd
  rw [h, resP_ok h, hz] at h1
  exact h1
theorem Resolve_bad {B I L w} (H : Hp B I w L) {q : Po} {us : List Value} (hp : RepL I (encPo q) us) (hkd : At I 0 0 kindsV) {e : Int} (h : ¬ errOf q = 0) (he : errOf q = e) : Calls Tryd.prog 19 #[.agg us.toArray] w (Rt fun r w' => ∃ I' us', Le I I' ∧ Hp B I' w' L ∧ r = .tuple #[.agg us'.toArray, .int .i64 e] ∧ RepL I' (encPo zeroPo) us') := by
  have h1 := Resolve_c H hp hkd
  rw [resP_err h, he] at h1
  exact h1
theorem Few_as {B I L w} (H : Hp B I w L) {q : Po} {us : List Value} (hp : RepL I (encPo q) us) (h : fewB q = true) : Calls Tryd.prog 18 #[.agg us.toArray] w (Rt fun r w' => r = .bool true ∧ Hp B I w' L) := by
  have h1 := Few_c H hp
  rw [h] at h1
  exact h1
theorem leads_ok {B I L w} (H : Hp B I w L) {off : List ByteArray} {x : Ex} {us : List Value} {vo : Value} (ho : RepS encS I 1 off vo) (hp : RepL I (encEx (resolveX off x)) us) (hx : allX (offG off) x = true) (hpc : (resolveX off x).pc ≤ 300) : Calls Tryd.prog 29 #[vo, .agg us.toArray] w (Rt fun r w' => ∃ I' us', Le I I' ∧ Hp B I' w' L ∧ r = .tuple #[.agg us'.toArray, .bool true] ∧ RepL I' (encEx (bareX 0 (resolveX off x))) us') := by
  have h1 := leads_c 1000000 (by omega) (Nat.le_refl _) H hp ho
  rw [lead_resolve off x hx] at h1
  exact h1
theorem PoliciesMean_c {B I L w} (H : Hp B I w L) {p : Po} {us : List Value} (hp : RepL I (encPo p) us) (hkd : At I 0 0 kindsV) : Calls Tryd.prog 5 #[.agg us.toArray] w (Rt fun r w' => r = .bool true ∧ Hp B I w' L) := by
  by_cases hok : errOf p = 0
  · have d0 := hp
    obtain ⟨d0v1, d0v2, d0v3, d0v8, rfl, d0_0, d0_1, d0_2, d0_3, d0_4, d0_5, d0_6, d0_7, d0_8, d0_9⟩ := po_iff.1 hp
    obtain ⟨d0A1, d0c1, rfl, d0m1, d0M1, d0_1⟩ := RepS.open_ d0_1
    obtain ⟨d0A2, d0c2, rfl, d0m2, d0M2, d0_2⟩ := RepS.open_ d0_2
    obtain ⟨d0A3, d0c3, rfl, d0m3, d0M3, d0_3⟩ := RepS.open_ d0_3
    obtain ⟨d0A8, d0c8, rfl, d0m8, d0M8, d0_8⟩ := RepS.open_ d0_8
    obtain ⟨hs1, hs2, hs3⟩ := err_ok hok
    have hlk : p.rules.length = p.kinds.length := by
      simp only [formB, Bool.and_eq_true, decide_eq_true_eq] at hs3
      omega
    refine calls_st (n := 110) Tryd.func5 rfl rfl rfl ?_
    intro G bF cs hb hfn hR hP
    simp only [ini]
    refine st_seq ?_
    refine st_region ?_
    refine sr_op rfl rfl (ow_box H (v := .agg #[.string p.name, .slice d0A1 p.kinds.length d0c1, .slice d0A2 p.offices.length d0c2, .slice d0A3 p.rules.length d0c3, .int .i64 p.change.kind, .int .i64 p.change.n, .int .i64 p.change.no, .string p.change.name, .slice d0A8 p.change.l.length d0c8, .int .i64 p.mode]) rfl [.string p.name, .slice d0A1 p.kinds.length d0c1, .slice d0A2 p.offices.length d0c2, .slice d0A3 p.rules.length d0c3, .int .i64 p.change.kind, .int .i64 p.change.n, .int .i64 p.change.no, .string p.change.name, .slice d0A8 p.change.l.length d0c8, .int .i64 p.mode] rfl (fun g1 _ H => ?_))
    refine sr_op rfl rfl (ow_assign (v := .bool false) rfl ?_)
    refine sr_nil ?_
    refine st_seq ?_
    refine st_seq ?_
    refine st_region ?_
    refine sr_op rfl rfl (ow_call en17 rfl (sane_c H hkd) ?_)
    rintro _ _ ⟨rfl, H⟩
    refine sr_op rfl rfl (ow_not rfl ?_)
    refine sr_nil ?_
    refine st_no rfl ?_
    refine st_skip ?_
    refine st_seq ?_
    refine st_seq ?_
    refine st_region ?_
    refine sr_op rfl rfl (ow_load (v := .agg #[.string p.name, .slice d0A1 p.kinds.length d0c1, .slice d0A2 p.offices.length d0c2, .slice d0A3 p.rules.length d0c3, .int .i64 p.change.kind, .int .i64 p.change.n, .int .i64 p.change.no, .string p.change.name, .slice d0A8 p.change.l.length d0c8, .int .i64 p.mode]) ty28 H rfl 0 rfl rfl rfl rfl ?_)
    refine sr_op rfl rfl (ow_call en18 rfl (Few_c H d0) ?_)
    rintro _ _ ⟨rfl, H⟩
    refine sr_op rfl rfl (ow_not rfl ?_)
    refine sr_nil ?_
    refine st_cond (!(fewB p)) rfl (fun hc2 => ?_) (fun hc2 => ?_)
    · refine st_seq ?_
      refine st_region ?_
      refine sr_op rfl rfl (ow_assign (v := .bool true) rfl ?_)
      refine sr_nil ?_
      refine st_ret hb (hR _ _ (.bool true) (res_run (vs := [.bool true]) Tryd.results5 ⟨_, _, rfl, rfl, rfl⟩) ?_)
      exact ⟨_, rfl, rfl, (H.drop 1)⟩
    · have hfw := bnf hc2
      refine st_skip ?_
      refine st_seq ?_
      refine st_region ?_
      refine sr_op rfl rfl (ow_load (v := .agg #[.string p.name, .slice d0A1 p.kinds.length d0c1, .slice d0A2 p.offices.length d0c2, .slice d0A3 p.rules.length d0c3, .int .i64 p.change.kind, .int .i64 p.change.n, .int .i64 p.change.no, .string p.change.name, .slice d0A8 p.change.l.length d0c8, .int .i64 p.mode]) ty28 H rfl 0 rfl rfl rfl rfl ?_)
      refine sr_op rfl rfl (ow_call en19 rfl (Resolve_as H d0 hkd hok rfl) ?_)
      rintro _ _ ⟨I3, us3, hI3, H, rfl, hr3⟩
      have d3 := hr3
      obtain ⟨d3v1, d3v2, d3v3, d3v8, rfl, d3_0, d3_1, d3_2, d3_3, d3_4, d3_5, d3_6, d3_7, d3_8, d3_9⟩ := po_iff.1 hr3
      obtain ⟨d3A1, d3c1, rfl, d3m1, d3M1, d3_1⟩ := RepS.open_ d3_1
      obtain ⟨d3A2, d3c2, rfl, d3m2, d3M2, d3_2⟩ := RepS.open_ d3_2
      obtain ⟨d3A3, d3c3, rfl, d3m3, d3M3, d3_3⟩ := RepS.openn (n := p.rules.length) d3_3 (rulesR_length _ _ _)
      obtain ⟨d3A8, d3c8, rfl, d3m8, d3M8, d3_8⟩ := RepS.open_ d3_8
      refine sr_op rfl rfl (ow_move (v := .tuple #[.agg #[.string ((resolveP p).name), .slice d3A1 ((resolveP p).kinds.length) d3c1, .slice d3A2 ((resolveP p).offices.length) d3c2, .slice d3A3 p.rules.length d3c3, .int .i64 ((resolveP p).change.kind), .int .i64 ((resolveP p).change.n), .int .i64 ((resolveP p).change.no), .string ((resolveP p).change.name), .slice d3A8 ((resolveP p).change.l.length) d3c8, .int .i64 ((resolveP p).mode)], .int .i64 0]) rfl ?_)
      refine sr_op rfl rfl (ow_extract (v := .agg #[.string ((resolveP p).name), .slice d3A1 ((resolveP p).kinds.length) d3c1, .slice d3A2 ((resolveP p).offices.length) d3c2, .slice d3A3 p.rules.length d3c3, .int .i64 ((resolveP p).change.kind), .int .i64 ((resolveP p).change.n), .int .i64 ((resolveP p).change.no), .string ((resolveP p).change.name), .slice d3A8 ((resolveP p).change.l.length) d3c8, .int .i64 ((resolveP p).mode)]) rfl rfl ?_)
      refine sr_op rfl rfl (ow_extract (v := .int .i64 0) rfl rfl ?_)
      refine sr_op rfl rfl (ow_alloc ty28 H [.string ⟨#[]⟩, .slice none 0 0, .slice none 0 0, .slice none 0 0, .int .i64 0, .int .i64 0, .int .i64 0, .string ⟨#[]⟩, .slice none 0 0, .int .i64 0] rfl (fun g4 _ H => ?_))
      refine sr_op rfl rfl (ow_store ty28 H rfl (v := .agg #[.string ((resolveP p).name), .slice d3A1 ((resolveP p).kinds.length) d3c1, .slice d3A2 ((resolveP p).offices.length) d3c2, .slice d3A3 p.rules.length d3c3, .int .i64 ((resolveP p).change.kind), .int .i64 ((resolveP p).change.n), .int .i64 ((resolveP p).change.no), .string ((resolveP p).change.name), .slice d3A8 ((resolveP p).change.l.length) d3c8, .int .i64 ((resolveP p).mode)]) rfl [.string ((resolveP p).name), .slice d3A1 ((resolveP p).kinds.length) d3c1, .slice d3A2 ((resolveP p).offices.length) d3c2, .slice d3A3 p.rules.length d3c3, .int .i64 ((resolveP p).change.kind), .int .i64 ((resolveP p).change.n), .int .i64 ((resolveP p).change.no), .string ((resolveP p).change.name), .slice d3A8 ((resolveP p).change.l.length) d3c8, .int .i64 ((resolveP p).mode)] rfl rfl rfl 0 rfl rfl (fun _ H => ?_))
      refine sr_op rfl rfl (ow_assign (v := .int .i64 0) rfl ?_)
      refine sr_nil ?_
      refine st_seq ?_
      refine st_seq ?_
      refine st_region ?_
      refine sr_op rfl rfl (ow_move (v := .int .i64 0) rfl ?_)
      refine sr_op rfl rfl (ow_neq rfl rfl ?_)
      refine sr_nil ?_
      refine st_no rfl ?_
      refine st_skip ?_
      refine st_seq ?_
      refine st_seq ?_
      refine st_region ?_
      refine sr_op rfl rfl (ow_load (v := .agg #[.string ((resolveP p).name), .slice d3A1 ((resolveP p).kinds.length) d3c1, .slice d3A2 ((resolveP p).offices.length) d3c2, .slice d3A3 p.rules.length d3c3, .int .i64 ((resolveP p).change.kind), .int .i64 ((resolveP p).change.n), .int .i64 ((resolveP p).change.no), .string ((resolveP p).change.name), .slice d3A8 ((resolveP p).change.l.length) d3c8, .int .i64 ((resolveP p).mode)]) ty28 H rfl 0 rfl rfl rfl rfl ?_)
      refine sr_op rfl rfl (ow_call en18 rfl (Few_as H d3 (by rw [few_resolve]; exact hfw)) ?_)
      rintro _ _ ⟨rfl, H⟩
      refine sr_op rfl rfl (ow_not rfl ?_)
      refine sr_op rfl rfl (ow_move (v := .bool !true) rfl ?_)
      refine sr_want rfl (j := 3) (d := 41) rfl rfl rfl (v := false) rfl rfl (ow_fieldAddr fd28_3 ty23 rfl rfl (r := 3) rfl ?_)
      refine sr_want rfl (j := 3) (d := 41) rfl rfl rfl (v := false) rfl rfl (ow_load (v := .slice d3A3 p.rules.length d3c3) ty23 H rfl 0 rfl rfl rfl rfl ?_)
      refine sr_want rfl (j := 3) (d := 41) rfl rfl rfl (v := false) rfl rfl (ow_lenS sl23 rfl rfl ?_)
      refine sr_want rfl (j := 3) (d := 41) rfl rfl rfl (v := false) rfl rfl (ow_fieldAddr fd28_3 ty23 rfl rfl (r := 3) rfl ?_)
      refine sr_want rfl (j := 3) (d := 41) rfl rfl rfl (v := false) rfl rfl (ow_load (v := .slice d0A3 p.rules.length d0c3) ty23 H rfl 1 rfl rfl rfl rfl ?_)
      refine sr_want rfl (j := 3) (d := 41) rfl rfl rfl (v := false) rfl rfl (ow_lenS sl23 rfl rfl ?_)
      refine sr_want rfl (j := 3) (d := 41) rfl rfl rfl (v := false) rfl rfl (ow_neq rfl rfl ?_)
      refine sr_op rfl rfl (ow_pick (v := .bool (!decide ((p.rules.length : Int) = (p.rules.length : Int)))) rfl rfl ?_)
      refine sr_nil ?_
      refine st_no (congrArg Value.bool (by rw [(decide_eq_true rfl)] <;> rfl)) ?_
      refine st_skip ?_
      refine st_seq ?_
      refine st_seq ?_
      refine st_region ?_
      refine sr_op rfl rfl (ow_fieldAddr fd28_3 ty23 rfl rfl (r := 3) rfl ?_)
      refine sr_op rfl rfl (ow_load (v := .slice d3A3 p.rules.length d3c3) ty23 H rfl 0 rfl rfl rfl rfl ?_)
      refine sr_op rfl rfl (ow_lenS sl23 rfl rfl ?_)
      refine sr_op rfl rfl (ow_move (v := .int .i64 0) rfl ?_)
      refine sr_nil ?_
      refine st_block ?_
      refine st_loop ?_
      refine st_live [1, 2, 3, 51, 52, 53] ?_
      refine st_ind (fun d_ m_ w_ => ∃ (i : Nat) (J5 : Im) (r_ : Sl), d_ = p.rules.length - i ∧ m_ = (1, .pointer (some ⟨g1, 0, none⟩)) :: (2, .bool false) :: (3, .pointer (some ⟨g4, 0, none⟩)) :: (51, .slice d3A3 p.rules.length d3c3) :: (52, .int .i64 (p.rules.length : Int)) :: (53, .int .i64 (i : Int)) :: r_ ∧ Hp B J5 w_ ((g4, Ob [.string ((resolveP p).name), .slice d3A1 ((resolveP p).kinds.length) d3c1, .slice d3A2 ((resolveP p).offices.length) d3c2, .slice d3A3 p.rules.length d3c3, .int .i64 ((resolveP p).change.kind), .int .i64 ((resolveP p).change.n), .int .i64 ((resolveP p).change.no), .string ((resolveP p).change.name), .slice d3A8 ((resolveP p).change.l.length) d3c8, .int .i64 ((resolveP p).mode)] 28) :: (g1, Ob [.string p.name, .slice d0A1 p.kinds.length d0c1, .slice d0A2 p.offices.length d0c2, .slice d0A3 p.rules.length d0c3, .int .i64 p.change.kind, .int .i64 p.change.n, .int .i64 p.change.no, .string p.change.name, .slice d0A8 p.change.l.length d0c8, .int .i64 p.mode] 28) :: L) ∧ Le I3 J5 ∧ i ≤ p.rules.length) _ ⟨0, I3, _, rfl, rfl, H, Le.refl _, Nat.zero_le _⟩ ?_
      rintro _ _ _ ⟨i, J5, r6, rfl, rfl, H, hJ5, hi⟩ ih7
      refine st_seq ?_
      refine st_region ?_
      refine sr_op rfl rfl (ow_lss rfl rfl ?_)
      refine sr_nil ?_
      refine st_seq ?_
      refine st_cond (decide ((i : Int) < (p.rules.length : Int))) rfl (fun hc8 => ?_) (fun hc8 => ?_)
      · have hc8 := of_decide_eq_true hc8
        refine st_skip ?_
        refine st_seq ?_
        refine st_block ?_
        refine st_seq ?_
        refine st_region ?_
        refine sr_op rfl rfl (ow_move (v := .int .i64 (i : Int)) rfl ?_)
        have d3_3 := (d3_3.mono hJ5)
        obtain ⟨r10, hr10⟩ : ∃ q_, p.rules[i]? = some q_ := ⟨_, List.getElem?_eq_getElem (by omega)⟩
        have he9 := (by have h_ := rulesR_at p.offices p.rules 0 hr10; rw [Nat.zero_add] at h_; exact h_ : (resolveP p).rules[i]? = some (ruR p.offices i r10))
        obtain ⟨b9, o9, us9, hA9, hat9, hul9, hr9⟩ := RepS.getn (rulesR_length _ _ _) d3_3 he9
        have d9 := hr9
        obtain ⟨d9v7, rfl, d9_0, d9_1, d9_2, d9_3, d9_4, d9_5, d9_6, d9_7⟩ := ru_iff.1 hr9
        obtain ⟨d9A7, d9c7, rfl, d9m7, d9M7, d9_7⟩ := RepS.open_ d9_7
        refine sr_op rfl rfl (ow_indexAddrA sl23 ty43 hA9 rfl rfl (by omega) (by omega) (r := o9 + i * 8) rfl ?_)
        refine sr_op rfl rfl (ow_loadI (v := .agg #[.string r10.kind, .int .i64 (i : Int), .int .i64 ((ruR p.offices i r10).think), .int .i64 ((ruR p.offices i r10).expr.kind), .int .i64 ((ruR p.offices i r10).expr.n), .int .i64 ((ruR p.offices i r10).expr.no), .string ((ruR p.offices i r10).expr.name), .slice d9A7 ((ruR p.offices i r10).expr.l.length) d9c7]) ty43 H rfl hat9 rfl rfl rfl ?_)
        refine sr_op rfl rfl (ow_alloc ty43 H [.string ⟨#[]⟩, .int .i64 0, .int .i64 0, .int .i64 0, .int .i64 0, .int .i64 0, .string ⟨#[]⟩, .slice none 0 0] rfl (fun g11 _ H => ?_))
        refine sr_op rfl rfl (ow_assign (v := .int .i64 (i : Int)) rfl ?_)
        refine sr_op rfl rfl (ow_store ty43 H rfl (v := .agg #[.string r10.kind, .int .i64 (i : Int), .int .i64 ((ruR p.offices i r10).think), .int .i64 ((ruR p.offices i r10).expr.kind), .int .i64 ((ruR p.offices i r10).expr.n), .int .i64 ((ruR p.offices i r10).expr.no), .string ((ruR p.offices i r10).expr.name), .slice d9A7 ((ruR p.offices i r10).expr.l.length) d9c7]) rfl [.string r10.kind, .int .i64 (i : Int), .int .i64 ((ruR p.offices i r10).think), .int .i64 ((ruR p.offices i r10).expr.kind), .int .i64 ((ruR p.offices i r10).expr.n), .int .i64 ((ruR p.offices i r10).expr.no), .string ((ruR p.offices i r10).expr.name), .slice d9A7 ((ruR p.offices i r10).expr.l.length) d9c7] rfl rfl rfl 0 rfl rfl (fun _ H => ?_))
        refine sr_nil ?_
        refine st_seq ?_
        refine st_region ?_
        refine sr_op rfl rfl (ow_fieldAddr fd28_2 ty22 rfl rfl (r := 2) rfl ?_)
        refine sr_op rfl rfl (ow_load (v := .slice d0A2 p.offices.length d0c2) ty22 H rfl 2 rfl rfl rfl rfl ?_)
        refine sr_op rfl rfl (ow_fieldAddr fd43_3 ty26 rfl rfl (r := 3) rfl ?_)
        refine sr_op rfl rfl (ow_load (v := .agg #[.int .i64 ((ruR p.offices i r10).expr.kind), .int .i64 ((ruR p.offices i r10).expr.n), .int .i64 ((ruR p.offices i r10).expr.no), .string ((ruR p.offices i r10).expr.name), .slice d9A7 ((ruR p.offices i r10).expr.l.length) d9c7]) ty26 H rfl 0 rfl rfl rfl rfl ?_)
        have d0_2 := ((d0_2.mono hI3).mono hJ5)
        refine sr_op rfl rfl (ow_call en29 rfl (leads_ok H d0_2 (x := r10.expr) (ex_iff.2 ⟨_, rfl, d9_3, d9_4, d9_5, d9_6, d9_7⟩) (names_at hs2 hr10) (few_rule (by rw [few_resolve]; exact hfw) he9)) ?_)
        rintro _ _ ⟨I12, us12, hI12, H, rfl, hr12⟩
        have d12 := hr12
        obtain ⟨d12v4, rfl, d12_0, d12_1, d12_2, d12_3, d12_4⟩ := ex_iff.1 hr12
        obtain ⟨d12A4, d12c4, rfl, d12m4, d12M4, d12_4⟩ := RepS.open_ d12_4
        refine sr_op rfl rfl (ow_move (v := .tuple #[.agg #[.int .i64 ((bareX 0 (resolveX p.offices r10.expr)).kind), .int .i64 ((bareX 0 (resolveX p.offices r10.expr)).n), .int .i64 ((bareX 0 (resolveX p.offices r10.expr)).no), .string ((bareX 0 (resolveX p.offices r10.expr)).name), .slice d12A4 ((bareX 0 (resolveX p.offices r10.expr)).l.length) d12c4], .bool true]) rfl ?_)
        refine sr_op rfl rfl (ow_extract (v := .agg #[.int .i64 ((bareX 0 (resolveX p.offices r10.expr)).kind), .int .i64 ((bareX 0 (resolveX p.offices r10.expr)).n), .int .i64 ((bareX 0 (resolveX p.offices r10.expr)).no), .string ((bareX 0 (resolveX p.offices r10.expr)).name), .slice d12A4 ((bareX 0 (resolveX p.offices r10.expr)).l.length) d12c4]) rfl rfl ?_)
        refine sr_op rfl rfl (ow_extract (v := .bool true) rfl rfl ?_)
        refine sr_op rfl rfl (ow_alloc ty26 H [.int .i64 0, .int .i64 0, .int .i64 0, .string ⟨#[]⟩, .slice none 0 0] rfl (fun g13 _ H => ?_))
        refine sr_op rfl rfl (ow_store ty26 H rfl (v := .agg #[.int .i64 ((bareX 0 (resolveX p.offices r10.expr)).kind), .int .i64 ((bareX 0 (resolveX p.offices r10.expr)).n), .int .i64 ((bareX 0 (resolveX p.offices r10.expr)).no), .string ((bareX 0 (resolveX p.offices r10.expr)).name), .slice d12A4 ((bareX 0 (resolveX p.offices r10.expr)).l.length) d12c4]) rfl [.int .i64 ((bareX 0 (resolveX p.offices r10.expr)).kind), .int .i64 ((bareX 0 (resolveX p.offices r10.expr)).n), .int .i64 ((bareX 0 (resolveX p.offices r10.expr)).no), .string ((bareX 0 (resolveX p.offices r10.expr)).name), .slice d12A4 ((bareX 0 (resolveX p.offices r10.expr)).l.length) d12c4] rfl rfl rfl 0 rfl rfl (fun _ H => ?_))
        refine sr_op rfl rfl (ow_assign (v := .bool true) rfl ?_)
        refine sr_nil ?_
        refine st_seq ?_
        refine st_cut (fun m_ w_ => ∃ (r_ : Sl), m_ = (1, .pointer (some ⟨g1, 0, none⟩)) :: (2, .bool false) :: (3, .pointer (some ⟨g4, 0, none⟩)) :: (51, .slice d3A3 p.rules.length d3c3) :: (52, .int .i64 (p.rules.length : Int)) :: (53, .int .i64 (i : Int)) :: (92, .bool (!decide (r10.kind = r10.kind))) :: r_ ∧ Hp B I12 w_ ((g13, Ob [.int .i64 ((bareX 0 (resolveX p.offices r10.expr)).kind), .int .i64 ((bareX 0 (resolveX p.offices r10.expr)).n), .int .i64 ((bareX 0 (resolveX p.offices r10.expr)).no), .string ((bareX 0 (resolveX p.offices r10.expr)).name), .slice d12A4 ((bareX 0 (resolveX p.offices r10.expr)).l.length) d12c4] 26) :: (g11, Ob [.string r10.kind, .int .i64 (i : Int), .int .i64 ((ruR p.offices i r10).think), .int .i64 ((ruR p.offices i r10).expr.kind), .int .i64 ((ruR p.offices i r10).expr.n), .int .i64 ((ruR p.offices i r10).expr.no), .string ((ruR p.offices i r10).expr.name), .slice d9A7 ((ruR p.offices i r10).expr.l.length) d9c7] 43) :: (g4, Ob [.string ((resolveP p).name), .slice d3A1 ((resolveP p).kinds.length) d3c1, .slice d3A2 ((resolveP p).offices.length) d3c2, .slice d3A3 p.rules.length d3c3, .int .i64 ((resolveP p).change.kind), .int .i64 ((resolveP p).change.n), .int .i64 ((resolveP p).change.no), .string ((resolveP p).change.name), .slice d3A8 ((resolveP p).change.l.length) d3c8, .int .i64 ((resolveP p).mode)] 28) :: (g1, Ob [.string p.name, .slice d0A1 p.kinds.length d0c1, .slice d0A2 p.offices.length d0c2, .slice d0A3 p.rules.length d0c3, .int .i64 p.change.kind, .int .i64 p.change.n, .int .i64 p.change.no, .string p.change.name, .slice d0A8 p.change.l.length d0c8, .int .i64 p.mode] 28) :: L)) (fun again => ?_) ?_
        · have d0_1 := (((d0_1.mono hI3).mono hJ5).mono hI12)
          have he14 := form_rules hs3 hr10
          obtain ⟨b14, o14, us14, hA14, hat14, hul14, hr14⟩ := RepS.get d0_1 he14
          have d14 := hr14
          obtain ⟨rfl, d14_0⟩ := s_iff.1 hr14
          refine st_draw (F := (fun w_ => ∃ I2, Le I12 I2 ∧ Hp B I2 w_ [(g13, Ob [.int .i64 ((bareX 0 (resolveX p.offices r10.expr)).kind), .int .i64 ((bareX 0 (resolveX p.offices r10.expr)).n), .int .i64 ((bareX 0 (resolveX p.offices r10.expr)).no), .string ((bareX 0 (resolveX p.offices r10.expr)).name), .slice d12A4 ((bareX 0 (resolveX p.offices r10.expr)).l.length) d12c4] 26), (g11, Ob [.string r10.kind, .int .i64 (i : Int), .int .i64 ((ruR p.offices i r10).think), .int .i64 ((ruR p.offices i r10).expr.kind), .int .i64 ((ruR p.offices i r10).expr.n), .int .i64 ((ruR p.offices i r10).expr.no), .string ((ruR p.offices i r10).expr.name), .slice d9A7 ((ruR p.offices i r10).expr.l.length) d9c7] 43), (g4, Ob [.string ((resolveP p).name), .slice d3A1 ((resolveP p).kinds.length) d3c1, .slice d3A2 ((resolveP p).offices.length) d3c2, .slice d3A3 p.rules.length d3c3, .int .i64 ((resolveP p).change.kind), .int .i64 ((resolveP p).change.n), .int .i64 ((resolveP p).change.no), .string ((resolveP p).change.name), .slice d3A8 ((resolveP p).change.l.length) d3c8, .int .i64 ((resolveP p).mode)] 28), (g1, Ob [.string p.name, .slice d0A1 p.kinds.length d0c1, .slice d0A2 p.offices.length d0c2, .slice d0A3 p.rules.length d0c3, .int .i64 p.change.kind, .int .i64 p.change.n, .int .i64 p.change.no, .string p.change.name, .slice d0A8 p.change.l.length d0c8, .int .i64 p.mode] 28)])) (p0 := [0, 1, 2, 3, 4, 5, 6, 7, 8, 9, 10, 11, 12, 13, 14, 15, 16, 17, 18, 19, 20, 21, 22, 23, 24, 25, 26]) (plan := []) [] [] [(92, .bool (!decide (r10.kind = r10.kind))), (91, .bool (!decide (r10.kind = r10.kind))), (90, .string r10.kind), (89, .pointer (some ⟨g11, 0, none⟩)), (88, .string r10.kind), (87, .pointer (some ⟨b14, o14 + i * 1, none⟩)), (86, .int .i64 (i : Int)), (85, .pointer (some ⟨g11, 1, none⟩)), (84, .slice d0A1 p.kinds.length d0c1), (83, .pointer (some ⟨g1, 1, none⟩)), (82, .bool (decide ((p.kinds.length : Int) ≤ (i : Int)))), (81, .bool (decide ((p.kinds.length : Int) ≤ (i : Int)))), (80, .bool (decide ((p.kinds.length : Int) ≤ (i : Int)))), (79, .int .i64 (p.kinds.length : Int)), (78, .slice d0A1 p.kinds.length d0c1), (77, .pointer (some ⟨g1, 1, none⟩)), (76, .int .i64 (i : Int)), (75, .pointer (some ⟨g11, 1, none⟩)), (74, .bool (!decide ((i : Int) = (i : Int)))), (73, .bool (!decide ((i : Int) = (i : Int)))), (72, .bool (!decide ((i : Int) = (i : Int)))), (71, .int .i64 (i : Int)), (70, .int .i64 (i : Int)), (69, .pointer (some ⟨g11, 1, none⟩)), (68, .bool !true), (67, .bool !true), (66, .bool true)] (by kernel_rfl) rfl ?_ ⟨_, Le.refl _, H.drew.pick [0, 1, 2, 3] (by decide)⟩ ?_
          · refine ⟨kn_op rfl rfl (wantB_none rfl) fun _ hF2 => ?_, ?_⟩
            · obtain ⟨_, hle2, H2⟩ := hF2
              refine  (ow_move (v := .bool true) rfl ?_)
              exact ⟨rfl, rfl⟩
            refine ⟨kn_op rfl rfl (wantB_none rfl) fun _ hF2 => ?_, ?_⟩
            · obtain ⟨_, hle2, H2⟩ := hF2
              refine  (ow_not rfl ?_)
              exact ⟨rfl, rfl⟩
            refine ⟨kn_op rfl rfl (wantB_none rfl) fun _ hF2 => ?_, ?_⟩
            · obtain ⟨_, hle2, H2⟩ := hF2
              refine  (ow_move (v := .bool !true) rfl ?_)
              exact ⟨rfl, rfl⟩
            refine ⟨kn_op rfl rfl ((wantB_some (j := 2) rfl rfl (d := 68) rfl rfl (u := false) rfl).trans rfl) fun _ hF2 => ?_, ?_⟩
            · obtain ⟨_, hle2, H2⟩ := hF2
              refine  (ow_fieldAddr fd43_1 ty3 rfl rfl (r := 1) rfl ?_)
              exact ⟨rfl, rfl⟩
            refine ⟨kn_op rfl rfl ((wantB_some (j := 2) rfl rfl (d := 68) rfl rfl (u := false) rfl).trans rfl) fun _ hF2 => ?_, ?_⟩
            · obtain ⟨_, hle2, H2⟩ := hF2
              refine  (ow_load (v := .int .i64 (i : Int)) ty3 H2 rfl 1 rfl rfl rfl rfl ?_)
              exact ⟨rfl, rfl⟩
            refine ⟨kn_op rfl rfl ((wantB_some (j := 2) rfl rfl (d := 68) rfl rfl (u := false) rfl).trans rfl) fun _ hF2 => ?_, ?_⟩
            · obtain ⟨_, hle2, H2⟩ := hF2
              refine  (ow_move (v := .int .i64 (i : Int)) rfl ?_)
              exact ⟨rfl, rfl⟩
            refine ⟨kn_op rfl rfl ((wantB_some (j := 2) rfl rfl (d := 68) rfl rfl (u := false) rfl).trans rfl) fun _ hF2 => ?_, ?_⟩
            · obtain ⟨_, hle2, H2⟩ := hF2
              refine  (ow_neq rfl rfl ?_)
              exact ⟨rfl, rfl⟩
            refine ⟨kn_op rfl rfl (wantB_none rfl) fun _ hF2 => ?_, ?_⟩
            · obtain ⟨_, hle2, H2⟩ := hF2
              refine  (ow_pick (v := .bool (!decide ((i : Int) = (i : Int)))) rfl rfl ?_)
              exact ⟨rfl, rfl⟩
            refine ⟨kn_op rfl rfl (wantB_none rfl) fun _ hF2 => ?_, ?_⟩
            · obtain ⟨_, hle2, H2⟩ := hF2
              refine  (ow_move (v := .bool (!decide ((i : Int) = (i : Int)))) rfl ?_)
              exact ⟨rfl, rfl⟩
            refine ⟨kn_op rfl rfl ((wantB_some (j := 8) rfl rfl (d := 74) rfl rfl (u := false) (by exact congrArg Value.bool (by rw [(decide_eq_true rfl)] <;> rfl))).trans rfl) fun _ hF2 => ?_, ?_⟩
            · obtain ⟨_, hle2, H2⟩ := hF2
              refine  (ow_fieldAddr fd43_1 ty3 rfl rfl (r := 1) rfl ?_)
              exact ⟨rfl, rfl⟩
            refine ⟨kn_op rfl rfl ((wantB_some (j := 8) rfl rfl (d := 74) rfl rfl (u := false) (by exact congrArg Value.bool (by rw [(decide_eq_true rfl)] <;> rfl))).trans rfl) fun _ hF2 => ?_, ?_⟩
            · obtain ⟨_, hle2, H2⟩ := hF2
              refine  (ow_load (v := .int .i64 (i : Int)) ty3 H2 rfl 1 rfl rfl rfl rfl ?_)
              exact ⟨rfl, rfl⟩
            refine ⟨kn_op rfl rfl ((wantB_some (j := 8) rfl rfl (d := 74) rfl rfl (u := false) (by exact congrArg Value.bool (by rw [(decide_eq_true rfl)] <;> rfl))).trans rfl) fun _ hF2 => ?_, ?_⟩
            · obtain ⟨_, hle2, H2⟩ := hF2
              refine  (ow_fieldAddr fd28_1 ty22 rfl rfl (r := 1) rfl ?_)
              exact ⟨rfl, rfl⟩
            refine ⟨kn_op rfl rfl ((wantB_some (j := 8) rfl rfl (d := 74) rfl rfl (u := false) (by exact congrArg Value.bool (by rw [(decide_eq_true rfl)] <;> rfl))).trans rfl) fun _ hF2 => ?_, ?_⟩
            · obtain ⟨_, hle2, H2⟩ := hF2
              refine  (ow_load (v := .slice d0A1 p.kinds.length d0c1) ty22 H2 rfl 3 rfl rfl rfl rfl ?_)
              exact ⟨rfl, rfl⟩
            refine ⟨kn_op rfl rfl ((wantB_some (j := 8) rfl rfl (d := 74) rfl rfl (u := false) (by exact congrArg Value.bool (by rw [(decide_eq_true rfl)] <;> rfl))).trans rfl) fun _ hF2 => ?_, ?_⟩
            · obtain ⟨_, hle2, H2⟩ := hF2
              refine  (ow_lenS sl22 rfl rfl ?_)
              exact ⟨rfl, rfl⟩
            refine ⟨kn_op rfl rfl ((wantB_some (j := 8) rfl rfl (d := 74) rfl rfl (u := false) (by exact congrArg Value.bool (by rw [(decide_eq_true rfl)] <;> rfl))).trans rfl) fun _ hF2 => ?_, ?_⟩
            · obtain ⟨_, hle2, H2⟩ := hF2
              refine  (ow_geq rfl rfl ?_)
              exact ⟨rfl, rfl⟩
            refine ⟨kn_op rfl rfl (wantB_none rfl) fun _ hF2 => ?_, ?_⟩
            · obtain ⟨_, hle2, H2⟩ := hF2
              refine  (ow_pick (a := false) (v := .bool (decide ((p.kinds.length : Int) ≤ (i : Int)))) (congrArg Value.bool (by rw [(decide_eq_true rfl)] <;> rfl)) rfl ?_)
              exact ⟨rfl, rfl⟩
            refine ⟨kn_op rfl rfl (wantB_none rfl) fun _ hF2 => ?_, ?_⟩
            · obtain ⟨_, hle2, H2⟩ := hF2
              refine  (ow_move (v := .bool (decide ((p.kinds.length : Int) ≤ (i : Int)))) rfl ?_)
              exact ⟨rfl, rfl⟩
            refine ⟨kn_op rfl rfl ((wantB_some (j := 16) rfl rfl (d := 82) rfl rfl (u := false) (by exact congrArg Value.bool (decide_eq_false (by omega)))).trans rfl) fun _ hF2 => ?_, ?_⟩
            · obtain ⟨_, hle2, H2⟩ := hF2
              refine  (ow_fieldAddr fd28_1 ty22 rfl rfl (r := 1) rfl ?_)
              exact ⟨rfl, rfl⟩
            refine ⟨kn_op rfl rfl ((wantB_some (j := 16) rfl rfl (d := 82) rfl rfl (u := false) (by exact congrArg Value.bool (decide_eq_false (by omega)))).trans rfl) fun _ hF2 => ?_, ?_⟩
            · obtain ⟨_, hle2, H2⟩ := hF2
              refine  (ow_load (v := .slice d0A1 p.kinds.length d0c1) ty22 H2 rfl 3 rfl rfl rfl rfl ?_)
              exact ⟨rfl, rfl⟩
            refine ⟨kn_op rfl rfl ((wantB_some (j := 16) rfl rfl (d := 82) rfl rfl (u := false) (by exact congrArg Value.bool (decide_eq_false (by omega)))).trans rfl) fun _ hF2 => ?_, ?_⟩
            · obtain ⟨_, hle2, H2⟩ := hF2
              refine  (ow_fieldAddr fd43_1 ty3 rfl rfl (r := 1) rfl ?_)
              exact ⟨rfl, rfl⟩
            refine ⟨kn_op rfl rfl ((wantB_some (j := 16) rfl rfl (d := 82) rfl rfl (u := false) (by exact congrArg Value.bool (decide_eq_false (by omega)))).trans rfl) fun _ hF2 => ?_, ?_⟩
            · obtain ⟨_, hle2, H2⟩ := hF2
              refine  (ow_load (v := .int .i64 (i : Int)) ty3 H2 rfl 1 rfl rfl rfl rfl ?_)
              exact ⟨rfl, rfl⟩
            refine ⟨kn_op rfl rfl ((wantB_some (j := 16) rfl rfl (d := 82) rfl rfl (u := false) (by exact congrArg Value.bool (decide_eq_false (by omega)))).trans rfl) fun _ hF2 => ?_, ?_⟩
            · obtain ⟨_, hle2, H2⟩ := hF2
              refine  (ow_indexAddrA sl22 ty9 hA14 rfl rfl (by omega) (by omega) (r := o14 + i * 1) rfl ?_)
              exact ⟨rfl, rfl⟩
            refine ⟨kn_op rfl rfl ((wantB_some (j := 16) rfl rfl (d := 82) rfl rfl (u := false) (by exact congrArg Value.bool (decide_eq_false (by omega)))).trans rfl) fun _ hF2 => ?_, ?_⟩
            · obtain ⟨_, hle2, H2⟩ := hF2
              refine  (ow_loadI (v := .string r10.kind) ty9 H2 rfl (At.mono hle2 hat14) rfl rfl rfl ?_)
              exact ⟨rfl, rfl⟩
            refine ⟨kn_op rfl rfl ((wantB_some (j := 16) rfl rfl (d := 82) rfl rfl (u := false) (by exact congrArg Value.bool (decide_eq_false (by omega)))).trans rfl) fun _ hF2 => ?_, ?_⟩
            · obtain ⟨_, hle2, H2⟩ := hF2
              refine  (ow_fieldAddr fd43_0 ty9 rfl rfl (r := 0) rfl ?_)
              exact ⟨rfl, rfl⟩
            refine ⟨kn_op rfl rfl ((wantB_some (j := 16) rfl rfl (d := 82) rfl rfl (u := false) (by exact congrArg Value.bool (decide_eq_false (by omega)))).trans rfl) fun _ hF2 => ?_, ?_⟩
            · obtain ⟨_, hle2, H2⟩ := hF2
              refine  (ow_load (v := .string r10.kind) ty9 H2 rfl 1 rfl rfl rfl rfl ?_)
              exact ⟨rfl, rfl⟩
            refine ⟨kn_op rfl rfl ((wantB_some (j := 16) rfl rfl (d := 82) rfl rfl (u := false) (by exact congrArg Value.bool (decide_eq_false (by omega)))).trans rfl) fun _ hF2 => ?_, ?_⟩
            · obtain ⟨_, hle2, H2⟩ := hF2
              refine  (ow_sne rfl rfl ?_)
              exact ⟨rfl, rfl⟩
            refine ⟨kn_op rfl rfl (wantB_none rfl) fun _ hF2 => ?_, ?_⟩
            · obtain ⟨_, hle2, H2⟩ := hF2
              refine  (ow_pick (a := false) (v := .bool (!decide (r10.kind = r10.kind))) (congrArg Value.bool (decide_eq_false (by omega))) rfl ?_)
              exact ⟨rfl, rfl⟩
            exact trivial
          have H := H.drew
          refine cw_nil ?_
          exact st_live [1, 2, 3, 51, 52, 53, 92] (again _ _ ⟨_, rfl, H⟩)
        rintro _ _ ⟨r15, rfl, H⟩
        refine st_no (congrArg Value.bool (by rw [(decide_eq_true rfl)] <;> rfl)) ?_
        refine st_skip ?_
        refine st_inBlock ?_
        refine st_region ?_
        refine sr_op rfl rfl (ow_add (r := ((i + 1 : Nat) : Int)) rfl rfl (inc_i64 (by omega)) ?_)
        refine sr_op rfl rfl (ow_move (v := .int .i64 ((i + 1 : Nat) : Int)) rfl ?_)
        refine sr_nil ?_
        exact st_inLoop (st_live [1, 2, 3, 51, 52, 53] (ih7 _ _ _ (by omega) ⟨i + 1, I12, _, rfl, rfl, H.drop 2, ((hJ5.trans hI12)), by omega⟩))
      · have hc8 := of_decide_eq_false hc8
        refine st_exit rfl ?_
        refine st_seq ?_
        refine st_region ?_
        refine sr_op rfl rfl (ow_fieldAddr fd28_2 ty22 rfl rfl (r := 2) rfl ?_)
        refine sr_op rfl rfl (ow_load (v := .slice d0A2 p.offices.length d0c2) ty22 H rfl 1 rfl rfl rfl rfl ?_)
        refine sr_op rfl rfl (ow_fieldAddr fd28_4 ty26 rfl rfl (r := 4) rfl ?_)
        refine sr_op rfl rfl (ow_load (v := .agg #[.int .i64 ((resolveP p).change.kind), .int .i64 ((resolveP p).change.n), .int .i64 ((resolveP p).change.no), .string ((resolveP p).change.name), .slice d3A8 ((resolveP p).change.l.length) d3c8]) ty26 H rfl 0 rfl rfl rfl rfl ?_)
        have d0_2 := ((d0_2.mono hI3).mono hJ5)
        have d3_8 := (d3_8.mono hJ5)
        refine sr_op rfl rfl (ow_call en29 rfl (leads_ok H d0_2 (x := p.change) (ex_iff.2 ⟨_, rfl, d3_4, d3_5, d3_6, d3_7, d3_8⟩) (names_change hs2) (few_change (by rw [few_resolve]; exact hfw))) ?_)
        rintro _ _ ⟨I16, us16, hI16, H, rfl, hr16⟩
        have d16 := hr16
        obtain ⟨d16v4, rfl, d16_0, d16_1, d16_2, d16_3, d16_4⟩ := ex_iff.1 hr16
        obtain ⟨d16A4, d16c4, rfl, d16m4, d16M4, d16_4⟩ := RepS.open_ d16_4
        refine sr_op rfl rfl (ow_move (v := .tuple #[.agg #[.int .i64 ((bareX 0 (resolveX p.offices p.change)).kind), .int .i64 ((bareX 0 (resolveX p.offices p.change)).n), .int .i64 ((bareX 0 (resolveX p.offices p.change)).no), .string ((bareX 0 (resolveX p.offices p.change)).name), .slice d16A4 ((bareX 0 (resolveX p.offices p.change)).l.length) d16c4], .bool true]) rfl ?_)
        refine sr_op rfl rfl (ow_extract (v := .agg #[.int .i64 ((bareX 0 (resolveX p.offices p.change)).kind), .int .i64 ((bareX 0 (resolveX p.offices p.change)).n), .int .i64 ((bareX 0 (resolveX p.offices p.change)).no), .string ((bareX 0 (resolveX p.offices p.change)).name), .slice d16A4 ((bareX 0 (resolveX p.offices p.change)).l.length) d16c4]) rfl rfl ?_)
        refine sr_op rfl rfl (ow_extract (v := .bool true) rfl rfl ?_)
        refine sr_op rfl rfl (ow_alloc ty26 H [.int .i64 0, .int .i64 0, .int .i64 0, .string ⟨#[]⟩, .slice none 0 0] rfl (fun g17 _ H => ?_))
        refine sr_op rfl rfl (ow_store ty26 H rfl (v := .agg #[.int .i64 ((bareX 0 (resolveX p.offices p.change)).kind), .int .i64 ((bareX 0 (resolveX p.offices p.change)).n), .int .i64 ((bareX 0 (resolveX p.offices p.change)).no), .string ((bareX 0 (resolveX p.offices p.change)).name), .slice d16A4 ((bareX 0 (resolveX p.offices p.change)).l.length) d16c4]) rfl [.int .i64 ((bareX 0 (resolveX p.offices p.change)).kind), .int .i64 ((bareX 0 (resolveX p.offices p.change)).n), .int .i64 ((bareX 0 (resolveX p.offices p.change)).no), .string ((bareX 0 (resolveX p.offices p.change)).name), .slice d16A4 ((bareX 0 (resolveX p.offices p.change)).l.length) d16c4] rfl rfl rfl 0 rfl rfl (fun _ H => ?_))
        refine sr_op rfl rfl (ow_assign (v := .bool true) rfl ?_)
        refine sr_nil ?_
        refine st_seq ?_
        refine st_cut (fun m_ w_ => ∃ (r_ : Sl), m_ = (2, .bool true) :: r_ ∧ Hp B I16 w_ ((g17, Ob [.int .i64 ((bareX 0 (resolveX p.offices p.change)).kind), .int .i64 ((bareX 0 (resolveX p.offices p.change)).n), .int .i64 ((bareX 0 (resolveX p.offices p.change)).no), .string ((bareX 0 (resolveX p.offices p.change)).name), .slice d16A4 ((bareX 0 (resolveX p.offices p.change)).l.length) d16c4] 26) :: (g4, Ob [.string ((resolveP p).name), .slice d3A1 ((resolveP p).kinds.length) d3c1, .slice d3A2 ((resolveP p).offices.length) d3c2, .slice d3A3 p.rules.length d3c3, .int .i64 ((resolveP p).change.kind), .int .i64 ((resolveP p).change.n), .int .i64 ((resolveP p).change.no), .string ((resolveP p).change.name), .slice d3A8 ((resolveP p).change.l.length) d3c8, .int .i64 ((resolveP p).mode)] 28) :: (g1, Ob [.string p.name, .slice d0A1 p.kinds.length d0c1, .slice d0A2 p.offices.length d0c2, .slice d0A3 p.rules.length d0c3, .int .i64 p.change.kind, .int .i64 p.change.n, .int .i64 p.change.no, .string p.change.name, .slice d0A8 p.change.l.length d0c8, .int .i64 p.mode] 28) :: L)) (fun again => ?_) ?_
        · refine st_draw (F := (fun w_ => ∃ I2, Le I16 I2 ∧ Hp B I2 w_ [(g17, Ob [.int .i64 ((bareX 0 (resolveX p.offices p.change)).kind), .int .i64 ((bareX 0 (resolveX p.offices p.change)).n), .int .i64 ((bareX 0 (resolveX p.offices p.change)).no), .string ((bareX 0 (resolveX p.offices p.change)).name), .slice d16A4 ((bareX 0 (resolveX p.offices p.change)).l.length) d16c4] 26), (g4, Ob [.string ((resolveP p).name), .slice d3A1 ((resolveP p).kinds.length) d3c1, .slice d3A2 ((resolveP p).offices.length) d3c2, .slice d3A3 p.rules.length d3c3, .int .i64 ((resolveP p).change.kind), .int .i64 ((resolveP p).change.n), .int .i64 ((resolveP p).change.no), .string ((resolveP p).change.name), .slice d3A8 ((resolveP p).change.l.length) d3c8, .int .i64 ((resolveP p).mode)] 28), (g1, Ob [.string p.name, .slice d0A1 p.kinds.length d0c1, .slice d0A2 p.offices.length d0c2, .slice d0A3 p.rules.length d0c3, .int .i64 p.change.kind, .int .i64 p.change.n, .int .i64 p.change.no, .string p.change.name, .slice d0A8 p.change.l.length d0c8, .int .i64 p.mode] 28)])) (p0 := [0, 1, 2, 4]) (plan := [(3, [], [4]), (5, [], []), (6, [7, 8], [])]) [] [] [(106, .agg #[.string p.name, .slice d0A1 p.kinds.length d0c1, .slice d0A2 p.offices.length d0c2, .slice d0A3 p.rules.length d0c3, .int .i64 p.change.kind, .int .i64 p.change.n, .int .i64 p.change.no, .string p.change.name, .slice d0A8 p.change.l.length d0c8, .int .i64 p.mode]), (104, .agg #[.string ((resolveP p).name), .slice d3A1 ((resolveP p).kinds.length) d3c1, .slice d3A2 ((resolveP p).offices.length) d3c2, .slice d3A3 p.rules.length d3c3, .int .i64 ((resolveP p).change.kind), .int .i64 ((resolveP p).change.n), .int .i64 ((resolveP p).change.no), .string ((resolveP p).change.name), .slice d3A8 ((resolveP p).change.l.length) d3c8, .int .i64 ((resolveP p).mode)]), (103, .bool true), (102, .bool true)] (by kernel_rfl) rfl ?_ ⟨_, Le.refl _, H.drew.pick [0, 1, 2] (by decide)⟩ ?_
          · refine ⟨kn_op rfl rfl (wantB_none rfl) fun _ hF2 => ?_, ?_⟩
            · obtain ⟨_, hle2, H2⟩ := hF2
              refine  (ow_move (v := .bool true) rfl ?_)
              exact ⟨rfl, rfl⟩
            refine ⟨kn_op rfl rfl (wantB_none rfl) fun _ hF2 => ?_, ?_⟩
            · obtain ⟨_, hle2, H2⟩ := hF2
              refine  (ow_move (v := .bool true) rfl ?_)
              exact ⟨rfl, rfl⟩
            refine ⟨kn_op rfl rfl ((wantB_some (j := 1) rfl rfl (d := 103) rfl rfl (u := true) rfl).trans rfl) fun _ hF2 => ?_, ?_⟩
            · obtain ⟨_, hle2, H2⟩ := hF2
              refine  (ow_load (v := .agg #[.string ((resolveP p).name), .slice d3A1 ((resolveP p).kinds.length) d3c1, .slice d3A2 ((resolveP p).offices.length) d3c2, .slice d3A3 p.rules.length d3c3, .int .i64 ((resolveP p).change.kind), .int .i64 ((resolveP p).change.n), .int .i64 ((resolveP p).change.no), .string ((resolveP p).change.name), .slice d3A8 ((resolveP p).change.l.length) d3c8, .int .i64 ((resolveP p).mode)]) ty28 H2 rfl 1 rfl rfl rfl rfl ?_)
              exact ⟨rfl, rfl⟩
            refine ⟨kn_op rfl rfl ((wantB_some (j := 1) rfl rfl (d := 103) rfl rfl (u := true) rfl).trans rfl) fun _ hF2 => ?_, ?_⟩
            · obtain ⟨_, hle2, H2⟩ := hF2
              refine  (ow_load (v := .agg #[.string p.name, .slice d0A1 p.kinds.length d0c1, .slice d0A2 p.offices.length d0c2, .slice d0A3 p.rules.length d0c3, .int .i64 p.change.kind, .int .i64 p.change.n, .int .i64 p.change.no, .string p.change.name, .slice d0A8 p.change.l.length d0c8, .int .i64 p.mode]) ty28 H2 rfl 2 rfl rfl rfl rfl ?_)
              exact ⟨rfl, rfl⟩
            exact trivial
          have H := H.drew
          have d3 := ((d3.mono hJ5).mono hI16)
          refine cw_op rfl ((wantB_some (j := 1) rfl rfl (d := 103) rfl rfl (u := true) rfl).trans rfl) (ow_call en30 rfl (bare_c H d3 (by rw [few_resolve]; exact hfw) 0 (by constructor <;> decide)) ?_)
          rintro _ _ ⟨I18, us18, hI18, H, rfl, hr18⟩
          have d18 := hr18
          obtain ⟨d18v1, d18v2, d18v3, d18v8, rfl, d18_0, d18_1, d18_2, d18_3, d18_4, d18_5, d18_6, d18_7, d18_8, d18_9⟩ := po_iff.1 hr18
          obtain ⟨d18A1, d18c1, rfl, d18m1, d18M1, d18_1⟩ := RepS.open_ d18_1
          obtain ⟨d18A2, d18c2, rfl, d18m2, d18M2, d18_2⟩ := RepS.open_ d18_2
          obtain ⟨d18A3, d18c3, rfl, d18m3, d18M3, d18_3⟩ := RepS.open_ d18_3
          obtain ⟨d18A8, d18c8, rfl, d18m8, d18M8, d18_8⟩ := RepS.open_ d18_8
          refine af_some [] (fun w_ => ∃ I2, Le I18 I2 ∧ Hp B I2 w_ [(g17, Ob [.int .i64 ((bareX 0 (resolveX p.offices p.change)).kind), .int .i64 ((bareX 0 (resolveX p.offices p.change)).n), .int .i64 ((bareX 0 (resolveX p.offices p.change)).no), .string ((bareX 0 (resolveX p.offices p.change)).name), .slice d16A4 ((bareX 0 (resolveX p.offices p.change)).l.length) d16c4] 26), (g4, Ob [.string ((resolveP p).name), .slice d3A1 ((resolveP p).kinds.length) d3c1, .slice d3A2 ((resolveP p).offices.length) d3c2, .slice d3A3 p.rules.length d3c3, .int .i64 ((resolveP p).change.kind), .int .i64 ((resolveP p).change.n), .int .i64 ((resolveP p).change.no), .string ((resolveP p).change.name), .slice d3A8 ((resolveP p).change.l.length) d3c8, .int .i64 ((resolveP p).mode)] 28), (g1, Ob [.string p.name, .slice d0A1 p.kinds.length d0c1, .slice d0A2 p.offices.length d0c2, .slice d0A3 p.rules.length d0c3, .int .i64 p.change.kind, .int .i64 p.change.n, .int .i64 p.change.no, .string p.change.name, .slice d0A8 p.change.l.length d0c8, .int .i64 p.mode] 28)]) rfl ⟨_, Le.refl _, H.pick [0, 1, 2] (by decide)⟩ ?_ ?_
          · refine ⟨kn_op rfl rfl ((wantB_some (j := 1) rfl rfl (d := 103) rfl rfl (u := true) rfl).trans rfl) fun _ hF2 => ?_, ?_⟩
            · obtain ⟨_, hle2, H2⟩ := hF2
              refine  (ow_load (v := .agg #[.string p.name, .slice d0A1 p.kinds.length d0c1, .slice d0A2 p.offices.length d0c2, .slice d0A3 p.rules.length d0c3, .int .i64 p.change.kind, .int .i64 p.change.n, .int .i64 p.change.no, .string p.change.name, .slice d0A8 p.change.l.length d0c8, .int .i64 p.mode]) ty28 H2 rfl 2 rfl rfl rfl rfl ?_)
              exact ⟨rfl, rfl⟩
            exact trivial
          have d0 := ((((d0.mono hI3).mono hJ5).mono hI16).mono hI18)
          refine cw_op rfl ((wantB_some (j := 1) rfl rfl (d := 103) rfl rfl (u := true) rfl).trans rfl) (ow_call en30 rfl (bare_c H d0 hfw 0 (by constructor <;> decide)) ?_)
          rintro _ _ ⟨I19, us19, hI19, H, rfl, hr19⟩
          have d19 := hr19
          obtain ⟨d19v1, d19v2, d19v3, d19v8, rfl, d19_0, d19_1, d19_2, d19_3, d19_4, d19_5, d19_6, d19_7, d19_8, d19_9⟩ := po_iff.1 hr19
          obtain ⟨d19A1, d19c1, rfl, d19m1, d19M1, d19_1⟩ := RepS.open_ d19_1
          obtain ⟨d19A2, d19c2, rfl, d19m2, d19M2, d19_2⟩ := RepS.open_ d19_2
          obtain ⟨d19A3, d19c3, rfl, d19m3, d19M3, d19_3⟩ := RepS.open_ d19_3
          obtain ⟨d19A8, d19c8, rfl, d19m8, d19M8, d19_8⟩ := RepS.open_ d19_8
          refine af_none ?_
          have d18 := (d18.mono hI19)
          refine cw_op rfl ((wantB_some (j := 1) rfl rfl (d := 103) rfl rfl (u := true) rfl).trans rfl) (ow_call en21 rfl (Same_eq H d18 d19 (resolveP_bare 0 p)) ?_)
          rintro _ _ ⟨rfl, H⟩
          refine af_some [(2, .bool true), (109, .bool true)] (fun w_ => ∃ I2, Le I19 I2 ∧ Hp B I2 w_ [(g17, Ob [.int .i64 ((bareX 0 (resolveX p.offices p.change)).kind), .int .i64 ((bareX 0 (resolveX p.offices p.change)).n), .int .i64 ((bareX 0 (resolveX p.offices p.change)).no), .string ((bareX 0 (resolveX p.offices p.change)).name), .slice d16A4 ((bareX 0 (resolveX p.offices p.change)).l.length) d16c4] 26), (g4, Ob [.string ((resolveP p).name), .slice d3A1 ((resolveP p).kinds.length) d3c1, .slice d3A2 ((resolveP p).offices.length) d3c2, .slice d3A3 p.rules.length d3c3, .int .i64 ((resolveP p).change.kind), .int .i64 ((resolveP p).change.n), .int .i64 ((resolveP p).change.no), .string ((resolveP p).change.name), .slice d3A8 ((resolveP p).change.l.length) d3c8, .int .i64 ((resolveP p).mode)] 28), (g1, Ob [.string p.name, .slice d0A1 p.kinds.length d0c1, .slice d0A2 p.offices.length d0c2, .slice d0A3 p.rules.length d0c3, .int .i64 p.change.kind, .int .i64 p.change.n, .int .i64 p.change.no, .string p.change.name, .slice d0A8 p.change.l.length d0c8, .int .i64 p.mode] 28)]) rfl ⟨_, Le.refl _, H.pick [0, 1, 2] (by decide)⟩ ?_ ?_
          · refine ⟨kn_op rfl rfl (wantB_none rfl) fun _ hF2 => ?_, ?_⟩
            · obtain ⟨_, hle2, H2⟩ := hF2
              refine  (ow_pick (v := .bool true) rfl rfl ?_)
              exact ⟨rfl, rfl⟩
            refine ⟨kn_op rfl rfl (wantB_none rfl) fun _ hF2 => ?_, ?_⟩
            · obtain ⟨_, hle2, H2⟩ := hF2
              refine  (ow_assign (v := .bool true) rfl ?_)
              exact ⟨rfl, rfl⟩
            exact trivial
          refine cw_nil ?_
          exact st_live [2] (again _ _ ⟨_, rfl, (Hp.back H (hI18.trans hI19))⟩)
        rintro _ _ ⟨r20, rfl, H⟩
        refine st_ret hb (hR _ _ (.bool true) (res_run (vs := [.bool true]) Tryd.results5 ⟨_, _, rfl, rfl, rfl⟩) ?_)
        exact ⟨_, rfl, rfl, (Hp.back (H.drop 3) ((hI3.trans hJ5).trans hI16))⟩
  · have d0 := hp
    obtain ⟨d0v1, d0v2, d0v3, d0v8, rfl, d0_0, d0_1, d0_2, d0_3, d0_4, d0_5, d0_6, d0_7, d0_8, d0_9⟩ := po_iff.1 hp
    obtain ⟨d0A1, d0c1, rfl, d0m1, d0M1, d0_1⟩ := RepS.open_ d0_1
    obtain ⟨d0A2, d0c2, rfl, d0m2, d0M2, d0_2⟩ := RepS.open_ d0_2
    obtain ⟨d0A3, d0c3, rfl, d0m3, d0M3, d0_3⟩ := RepS.open_ d0_3
    obtain ⟨d0A8, d0c8, rfl, d0m8, d0M8, d0_8⟩ := RepS.open_ d0_8
    refine calls_st (n := 110) Tryd.func5 rfl rfl rfl ?_
    intro G bF cs hb hfn hR hP
    simp only [ini]
    refine st_seq ?_
    refine st_region ?_
    refine sr_op rfl rfl (ow_box H (v := .agg #[.string p.name, .slice d0A1 p.kinds.length d0c1, .slice d0A2 p.offices.length d0c2, .slice d0A3 p.rules.length d0c3, .int .i64 p.change.kind, .int .i64 p.change.n, .int .i64 p.change.no, .string p.change.name, .slice d0A8 p.change.l.length d0c8, .int .i64 p.mode]) rfl [.string p.name, .slice d0A1 p.kinds.length d0c1, .slice d0A2 p.offices.length d0c2, .slice d0A3 p.rules.length d0c3, .int .i64 p.change.kind, .int .i64 p.change.n, .int .i64 p.change.no, .string p.change.name, .slice d0A8 p.change.l.length d0c8, .int .i64 p.mode] rfl (fun g1 _ H => ?_))
    refine sr_op rfl rfl (ow_assign (v := .bool false) rfl ?_)
    refine sr_nil ?_
    refine st_seq ?_
    refine st_seq ?_
    refine st_region ?_
    refine sr_op rfl rfl (ow_call en17 rfl (sane_c H hkd) ?_)
    rintro _ _ ⟨rfl, H⟩
    refine sr_op rfl rfl (ow_not rfl ?_)
    refine sr_nil ?_
    refine st_no rfl ?_
    refine st_skip ?_
    refine st_seq ?_
    refine st_seq ?_
    refine st_region ?_
    refine sr_op rfl rfl (ow_load (v := .agg #[.string p.name, .slice d0A1 p.kinds.length d0c1, .slice d0A2 p.offices.length d0c2, .slice d0A3 p.rules.length d0c3, .int .i64 p.change.kind, .int .i64 p.change.n, .int .i64 p.change.no, .string p.change.name, .slice d0A8 p.change.l.length d0c8, .int .i64 p.mode]) ty28 H rfl 0 rfl rfl rfl rfl ?_)
    refine sr_op rfl rfl (ow_call en18 rfl (Few_c H d0) ?_)
    rintro _ _ ⟨rfl, H⟩
    refine sr_op rfl rfl (ow_not rfl ?_)
    refine sr_nil ?_
    refine st_cond (!(fewB p)) rfl (fun hc2 => ?_) (fun hc2 => ?_)
    · refine st_seq ?_
      refine st_region ?_
      refine sr_op rfl rfl (ow_assign (v := .bool true) rfl ?_)
      refine sr_nil ?_
      refine st_ret hb (hR _ _ (.bool true) (res_run (vs := [.bool true]) Tryd.results5 ⟨_, _, rfl, rfl, rfl⟩) ?_)
      exact ⟨_, rfl, rfl, (H.drop 1)⟩
    · have hfw := bnf hc2
      refine st_skip ?_
      refine st_seq ?_
      refine st_region ?_
      refine sr_op rfl rfl (ow_load (v := .agg #[.string p.name, .slice d0A1 p.kinds.length d0c1, .slice d0A2 p.offices.length d0c2, .slice d0A3 p.rules.length d0c3, .int .i64 p.change.kind, .int .i64 p.change.n, .int .i64 p.change.no, .string p.change.name, .slice d0A8 p.change.l.length d0c8, .int .i64 p.mode]) ty28 H rfl 0 rfl rfl rfl rfl ?_)
      refine sr_op rfl rfl (ow_call en19 rfl (Resolve_bad H d0 hkd hok rfl) ?_)
      rintro _ _ ⟨I3, us3, hI3, H, rfl, hr3⟩
      have d3 := hr3
      obtain ⟨d3v1, d3v2, d3v3, d3v8, rfl, d3_0, d3_1, d3_2, d3_3, d3_4, d3_5, d3_6, d3_7, d3_8, d3_9⟩ := po_iff.1 hr3
      obtain ⟨d3A1, d3c1, rfl, d3m1, d3M1, d3_1⟩ := RepS.open_ d3_1
      obtain ⟨d3A2, d3c2, rfl, d3m2, d3M2, d3_2⟩ := RepS.open_ d3_2
      obtain ⟨d3A3, d3c3, rfl, d3m3, d3M3, d3_3⟩ := RepS.open_ d3_3
      obtain ⟨d3A8, d3c8, rfl, d3m8, d3M8, d3_8⟩ := RepS.open_ d3_8
      refine sr_op rfl rfl (ow_move (v := .tuple #[.agg #[.string zeroPo.name, .slice d3A1 zeroPo.kinds.length d3c1, .slice d3A2 zeroPo.offices.length d3c2, .slice d3A3 zeroPo.rules.length d3c3, .int .i64 zeroPo.change.kind, .int .i64 zeroPo.change.n, .int .i64 zeroPo.change.no, .string zeroPo.change.name, .slice d3A8 zeroPo.change.l.length d3c8, .int .i64 zeroPo.mode], .int .i64 (errOf p)]) rfl ?_)
      refine sr_op rfl rfl (ow_extract (v := .agg #[.string zeroPo.name, .slice d3A1 zeroPo.kinds.length d3c1, .slice d3A2 zeroPo.offices.length d3c2, .slice d3A3 zeroPo.rules.length d3c3, .int .i64 zeroPo.change.kind, .int .i64 zeroPo.change.n, .int .i64 zeroPo.change.no, .string zeroPo.change.name, .slice d3A8 zeroPo.change.l.length d3c8, .int .i64 zeroPo.mode]) rfl rfl ?_)
      refine sr_op rfl rfl (ow_extract (v := .int .i64 (errOf p)) rfl rfl ?_)
      refine sr_op rfl rfl (ow_alloc ty28 H [.string ⟨#[]⟩, .slice none 0 0, .slice none 0 0, .slice none 0 0, .int .i64 0, .int .i64 0, .int .i64 0, .string ⟨#[]⟩, .slice none 0 0, .int .i64 0] rfl (fun g4 _ H => ?_))
      refine sr_op rfl rfl (ow_store ty28 H rfl (v := .agg #[.string zeroPo.name, .slice d3A1 zeroPo.kinds.length d3c1, .slice d3A2 zeroPo.offices.length d3c2, .slice d3A3 zeroPo.rules.length d3c3, .int .i64 zeroPo.change.kind, .int .i64 zeroPo.change.n, .int .i64 zeroPo.change.no, .string zeroPo.change.name, .slice d3A8 zeroPo.change.l.length d3c8, .int .i64 zeroPo.mode]) rfl [.string zeroPo.name, .slice d3A1 zeroPo.kinds.length d3c1, .slice d3A2 zeroPo.offices.length d3c2, .slice d3A3 zeroPo.rules.length d3c3, .int .i64 zeroPo.change.kind, .int .i64 zeroPo.change.n, .int .i64 zeroPo.change.no, .string zeroPo.change.name, .slice d3A8 zeroPo.change.l.length d3c8, .int .i64 zeroPo.mode] rfl rfl rfl 0 rfl rfl (fun _ H => ?_))
      refine sr_op rfl rfl (ow_assign (v := .int .i64 (errOf p)) rfl ?_)
      refine sr_nil ?_
      refine st_seq ?_
      refine st_seq ?_
      refine st_region ?_
      refine sr_op rfl rfl (ow_move (v := .int .i64 (errOf p)) rfl ?_)
      refine sr_op rfl rfl (ow_neq rfl rfl ?_)
      refine sr_nil ?_
      refine st_yes (congrArg Value.bool (by rw [(decide_eq_false hok)] <;> rfl)) ?_
      refine st_seq ?_
      refine st_region ?_
      refine sr_op rfl rfl (ow_load (v := .agg #[.string zeroPo.name, .slice d3A1 zeroPo.kinds.length d3c1, .slice d3A2 zeroPo.offices.length d3c2, .slice d3A3 zeroPo.rules.length d3c3, .int .i64 zeroPo.change.kind, .int .i64 zeroPo.change.n, .int .i64 zeroPo.change.no, .string zeroPo.change.name, .slice d3A8 zeroPo.change.l.length d3c8, .int .i64 zeroPo.mode]) ty28 H rfl 0 rfl rfl rfl rfl ?_)
      refine sr_op rfl rfl (ow_build (ps := []) (v := .agg #[.string ⟨#[]⟩, .slice none 0 0, .slice none 0 0, .slice none 0 0, .int .i64 0, .int .i64 0, .int .i64 0, .string ⟨#[]⟩, .slice none 0 0, .int .i64 0]) rfl (fun _ => by kernel_rfl) ?_)
      refine sr_op rfl rfl (ow_call en21 rfl (Same_eq H d3 (zero_rep _) rfl) ?_)
      rintro _ _ ⟨rfl, H⟩
      refine sr_op rfl rfl (ow_move (v := .bool true) rfl ?_)
      refine sr_want rfl (j := 3) (d := 26) rfl rfl rfl (v := true) rfl rfl (ow_move (v := .int .i64 (errOf p)) rfl ?_)
      refine sr_want rfl (j := 3) (d := 26) rfl rfl rfl (v := true) rfl rfl (ow_eql rfl rfl ?_)
      refine sr_want rfl (j := 3) (d := 26) rfl rfl rfl (v := true) rfl rfl (ow_move (v := .bool (decide (errOf p = 2))) rfl ?_)
      refine sr_cut 3 (fun m_ w_ => ∃ (r_ : Sl) (v_ : Bool), m_ = (32, .bool v_) :: (1, .pointer (some ⟨g1, 0, none⟩)) :: (2, .bool false) :: (3, .pointer (some ⟨g4, 0, none⟩)) :: (4, .int .i64 (errOf p)) :: (26, .bool true) :: r_ ∧ Hp B I3 w_ ((g4, Ob [.string zeroPo.name, .slice d3A1 zeroPo.kinds.length d3c1, .slice d3A2 zeroPo.offices.length d3c2, .slice d3A3 zeroPo.rules.length d3c3, .int .i64 zeroPo.change.kind, .int .i64 zeroPo.change.n, .int .i64 zeroPo.change.no, .string zeroPo.change.name, .slice d3A8 zeroPo.change.l.length d3c8, .int .i64 zeroPo.mode] 28) :: (g1, Ob [.string p.name, .slice d0A1 p.kinds.length d0c1, .slice d0A2 p.offices.length d0c2, .slice d0A3 p.rules.length d0c3, .int .i64 p.change.kind, .int .i64 p.change.n, .int .i64 p.change.no, .string p.change.name, .slice d0A8 p.change.l.length d0c8, .int .i64 p.mode] 28) :: L) ∧ v_ = ((decide (errOf p = 2)) || (decide (errOf p = 201)))) (fun again => ?_) ?_
      · rcases hg : decide (errOf p = 2) with _ | _
        · refine sr_want rfl (j := 6) (d := 29) rfl rfl rfl (v := false) rfl rfl (ow_move (v := .int .i64 (errOf p)) rfl ?_)
          refine sr_want rfl (j := 6) (d := 29) rfl rfl rfl (v := false) rfl rfl (ow_eql rfl rfl ?_)
          refine sr_want rfl (j := 3) (d := 26) rfl rfl rfl (v := true) rfl rfl (ow_pick (v := .bool (decide (errOf p = 201))) rfl rfl ?_)
          exact sr_live [32, 1, 2, 3, 4, 26] (again _ _ ⟨_, _, rfl, H, by rw [hg] <;> rfl⟩)
        · refine sr_pass rfl (j := 6) (d := 29) rfl rfl rfl (u := true) (v := false) rfl rfl ?_
          refine sr_pass rfl (j := 6) (d := 29) rfl rfl rfl (u := true) (v := false) rfl rfl ?_
          refine sr_want rfl (j := 3) (d := 26) rfl rfl rfl (v := true) rfl rfl (ow_pick (v := .bool true) rfl rfl ?_)
          exact sr_live [32, 1, 2, 3, 4, 26] (again _ _ ⟨_, _, rfl, H, by rw [hg] <;> rfl⟩)
      rintro _ _ ⟨r, _, rfl, H, rfl⟩
      refine sr_want rfl (j := 3) (d := 26) rfl rfl rfl (v := true) rfl rfl (ow_move (v := .bool ((decide (errOf p = 2)) || (decide (errOf p = 201)))) rfl ?_)
      refine sr_cut 3 (fun m_ w_ => ∃ (r_ : Sl) (v_ : Bool), m_ = (36, .bool v_) :: (1, .pointer (some ⟨g1, 0, none⟩)) :: (2, .bool false) :: (3, .pointer (some ⟨g4, 0, none⟩)) :: (26, .bool true) :: r_ ∧ Hp B I3 w_ ((g4, Ob [.string zeroPo.name, .slice d3A1 zeroPo.kinds.length d3c1, .slice d3A2 zeroPo.offices.length d3c2, .slice d3A3 zeroPo.rules.length d3c3, .int .i64 zeroPo.change.kind, .int .i64 zeroPo.change.n, .int .i64 zeroPo.change.no, .string zeroPo.change.name, .slice d3A8 zeroPo.change.l.length d3c8, .int .i64 zeroPo.mode] 28) :: (g1, Ob [.string p.name, .slice d0A1 p.kinds.length d0c1, .slice d0A2 p.offices.length d0c2, .slice d0A3 p.rules.length d0c3, .int .i64 p.change.kind, .int .i64 p.change.n, .int .i64 p.change.no, .string p.change.name, .slice d0A8 p.change.l.length d0c8, .int .i64 p.mode] 28) :: L) ∧ v_ = (((decide (errOf p = 2)) || (decide (errOf p = 201))) || (decide (errOf p = 200)))) (fun again => ?_) ?_
      · rcases hg : (decide (errOf p = 2)) || (decide (errOf p = 201)) with _ | _
        · refine sr_want rfl (j := 10) (d := 33) rfl rfl rfl (v := false) rfl rfl (ow_move (v := .int .i64 (errOf p)) rfl ?_)
          refine sr_want rfl (j := 10) (d := 33) rfl rfl rfl (v := false) rfl rfl (ow_eql rfl rfl ?_)
          refine sr_want rfl (j := 3) (d := 26) rfl rfl rfl (v := true) rfl rfl (ow_pick (v := .bool (decide (errOf p = 200))) rfl rfl ?_)
          exact sr_live [36, 1, 2, 3, 26] (again _ _ ⟨_, _, rfl, H, by rw [hg] <;> rfl⟩)
        · refine sr_pass rfl (j := 10) (d := 33) rfl rfl rfl (u := true) (v := false) rfl rfl ?_
          refine sr_pass rfl (j := 10) (d := 33) rfl rfl rfl (u := true) (v := false) rfl rfl ?_
          refine sr_want rfl (j := 3) (d := 26) rfl rfl rfl (v := true) rfl rfl (ow_pick (v := .bool true) rfl rfl ?_)
          exact sr_live [36, 1, 2, 3, 26] (again _ _ ⟨_, _, rfl, H, by rw [hg] <;> rfl⟩)
      rintro _ _ ⟨r, _, rfl, H, rfl⟩
      refine sr_op rfl rfl (ow_pick (v := .bool (((decide (errOf p = 2)) || (decide (errOf p = 201))) || (decide (errOf p = 200)))) rfl rfl ?_)
      refine sr_op rfl rfl (ow_assign (v := .bool (((decide (errOf p = 2)) || (decide (errOf p = 201))) || (decide (errOf p = 200)))) rfl ?_)
      refine sr_nil ?_
      refine st_ret hb (hR _ _ (.bool (((decide (errOf p = 2)) || (decide (errOf p = 201))) || (decide (errOf p = 200)))) (res_run (vs := [.bool (((decide (errOf p = 2)) || (decide (errOf p = 201))) || (decide (errOf p = 200)))]) Tryd.results5 ⟨_, _, rfl, rfl, rfl⟩) ?_)
      exact ⟨_, rfl, congrArg Value.bool (by rcases err_cases p with h_ | h_ | h_ | h_ <;> first | exact absurd h_ hok | simp [h_]), (Hp.back (H.drop 2) hI3)⟩
end Go.Proofs.YtbbflenaeihmeaaDoor
