/-
  Walks: the reference of policies: Resolve, Check.
-/
import Derived.Test.YtbbflenaeihmeaaDoorP14
set_option linter.unusedVariables false
set_option linter.unusedSimpArgs false
set_option maxRecDepth 10000
set_option maxHeartbeats 4000000
namespace Go.Proofs.YtbbflenaeihmeaaDoor
open Go Go.RowKit

theorem depthXs_iff : ∀ (l : List Ex) (n m : Int), depthXs l n ≤ m ↔ n ≤ m ∧ ∀ y ∈ l, depthX y ≤ m
  | [], n, m => by simp [depthXs]
  | x :: l, n, m => by
    simp only [depthXs, depthXs_iff l (max n (depthX x)) m, List.mem_cons, forall_eq_or_imp]
    constructor
    · rintro ⟨h1, h2⟩
      exact ⟨by omega, by omega, h2⟩
    · rintro ⟨h1, h2, h3⟩
      exact ⟨by omega, h3⟩
mutual
theorem depth_parts : ∀ (x : Ex) (d : Nat), (partsX x d).all depthB = true ↔ (d : Int) + depthX x ≤ 17
  | ⟨k, n, no, nm, l⟩, d => by
    simp only [partsX, depthX, List.all_cons, Bool.and_eq_true, depths_parts l (d + 1), depthB, decide_eq_true_eq]
    have h := depthXs_iff l 0 (16 - d)
    have h0 := (depthXs_le l 0 (by omega)).1
    constructor
    · rintro ⟨h1, h2⟩
      have := h.2 ⟨by omega, fun y hy => by have := h2 y hy; omega⟩
      omega
    · intro h1
      have := h.1 (by omega)
      exact ⟨by omega, fun y hy => by have := this.2 y hy; omega⟩
theorem depths_parts : ∀ (l : List Ex) (d : Nat), (partsXs l d).all depthB = true ↔ ∀ y ∈ l, (d : Int) + depthX y ≤ 17
  | [], d => by simp [partsXs]
  | x :: l, d => by
    simp only [partsXs, List.all_append, Bool.and_eq_true, depth_parts x d, depths_parts l d, List.mem_cons, forall_eq_or_imp]
end
theorem large_eq (x : Ex) : largeB x = !sizeB x := by
  have h1 := partsN_spec x 256
  have h2 := depth_parts x 1
  have e1 : decide (256 < partsN x 256) = !decide (((partsX x 1).length : Int) ≤ 256) := by
    rw [partsX_len]
    by_cases h : (x.pc : Int) ≤ 256
    · have := h1.1 h
      rw [this, ← decide_not, decide_eq_decide]
      omega
    · have := h1.2.1 (by omega)
      rw [← decide_not, decide_eq_decide]
      omega
  have e2 : decide (16 < depthX x) = !(partsX x 1).all depthB := by
    cases h : (partsX x 1).all depthB with
    | true =>
      rw [h] at h2
      have := h2.1 rfl
      simp
      omega
    | false =>
      rw [h] at h2
      simp
      rcases Int.lt_or_le 16 (depthX x) with h3 | h3
      · exact h3
      · have := h2.2 (by omega)
        cases this
  rw [largeB, sizeB, e1, e2]
  cases decide (((partsX x 1).length : Int) ≤ 256) <;> cases (partsX x 1).all depthB <;> rfl
theorem tooLarge_eq (p : Po) : tooLargeB p = !sizesB p := by
  rw [tooLargeB, sizesB, exprs_all, large_eq]
  have e : p.rules.any (fun r => largeB r.expr) = !p.rules.all (fun r => sizeB r.expr) := by
    rw [List.not_all_eq_any_not]
    congr 1
    funext r
    exact large_eq _
  have e1 : decide (32 < (p.offices.length : Int)) = !decide ((p.offices.length : Int) ≤ 32) := by rw [← decide_not, decide_eq_decide]; omega
  have e2 : decide (16 < (p.kinds.length : Int)) = !decide ((p.kinds.length : Int) ≤ 16) := by rw [← decide_not, decide_eq_decide]; omega
  have e3 : decide (16 < (p.rules.length : Int)) = !decide ((p.rules.length : Int) ≤ 16) := by rw [← decide_not, decide_eq_decide]; omega
  rw [e, e1, e2, e3]
  cases decide ((p.offices.length : Int) ≤ 32) <;> cases decide ((p.kinds.length : Int) ≤ 16) <;> cases decide ((p.rules.length : Int) ≤ 16) <;> cases sizeB p.change <;> cases p.rules.all (fun r => sizeB r.expr) <;> rfl
theorem refResolved_c {B : World} {off : List ByteArray} : ∀ (d : Nat) {x : Ex} {I : Im} {L : List (Nat × Obj)} {w : World} {vo v : Value}, x.pc ≤ d → d ≤ 1000000 → Hp B I w L → RepS encS I 1 off vo → RepL I (encEx x) [.int .i64 x.kind, .int .i64 x.n, .int .i64 x.no, .string x.name, v] →
    Calls Tryd.prog 65 #[vo, exV x v] w (Rt fun r w' => ∃ I' us, Le I I' ∧ Hp B I' w' L ∧ r = .agg us.toArray ∧ RepL I' (encEx (resolveX off x)) us) := by
  intro d
  induction d with
  | zero =>
    intro x _ _ _ _ _ h0
    have := x.pc_eq
    omega
  | succ d ih =>
  intro x I L w vo v hd hd6 H ho hx
  unfold exV
  obtain ⟨v', he, hxk, hxn, hxo, hxs, hxl⟩ := ex_iff.1 hx
  obtain rfl : v' = v := by simpa using he.symm
  clear he
  obtain ⟨A, c, rfl, hlc, hcm, hxl⟩ := RepS.open_ hxl
  obtain ⟨Ao, co, rfl, hol, hom, ho⟩ := RepS.open_ ho
  refine calls_st (n := 43) Tryd.func65 rfl rfl rfl ?_
  intro G bF cs hb hfn hR hP
  simp only [ini]
  refine st_seq ?_
  refine st_region ?_
  refine sr_op rfl rfl (ow_box H (v := .agg #[.int .i64 x.kind, .int .i64 x.n, .int .i64 x.no, .string x.name, .slice A x.l.length c]) rfl [.int .i64 x.kind, .int .i64 x.n, .int .i64 x.no, .string x.name, .slice A x.l.length c] rfl (fun g1 _ H => ?_))
  refine sr_op rfl rfl (ow_alloc ty26 H [.int .i64 0, .int .i64 0, .int .i64 0, .string ⟨#[]⟩, .slice none 0 0] rfl (fun g2 _ H => ?_))
  refine sr_nil ?_
  refine st_seq ?_
  refine st_region ?_
  refine sr_op rfl rfl (ow_load (v := .agg #[.int .i64 x.kind, .int .i64 x.n, .int .i64 x.no, .string x.name, .slice A x.l.length c]) ty26 H rfl 1 rfl rfl rfl rfl ?_)
  refine sr_op rfl rfl (ow_alloc ty26 H [.int .i64 0, .int .i64 0, .int .i64 0, .string ⟨#[]⟩, .slice none 0 0] rfl (fun g3 _ H => ?_))
  refine sr_op rfl rfl (ow_store ty26 H rfl (v := .agg #[.int .i64 x.kind, .int .i64 x.n, .int .i64 x.no, .string x.name, .slice A x.l.length c]) rfl [.int .i64 x.kind, .int .i64 x.n, .int .i64 x.no, .string x.name, .slice A x.l.length c] rfl rfl rfl 0 rfl rfl (fun _ H => ?_))
  refine sr_nil ?_
  refine st_seq ?_
  refine st_region ?_
  refine sr_op rfl rfl (ow_fieldAddr fd26_2 ty3 rfl rfl (r := 2) rfl ?_)
  refine sr_op rfl rfl (ow_store ty3 H rfl (v := .int .i64 0) rfl [.int .i64 0] rfl rfl rfl 0 rfl rfl (fun _ H => ?_))
  refine sr_nil ?_
  refine st_seq ?_
  refine st_seq ?_
  refine st_region ?_
  refine sr_op rfl rfl (ow_fieldAddr fd26_0 ty3 rfl rfl (r := 0) rfl ?_)
  refine sr_op rfl rfl (ow_load (v := .int .i64 x.kind) ty3 H rfl 2 rfl rfl rfl rfl ?_)
  refine sr_op rfl rfl (ow_eql rfl rfl ?_)
  refine sr_op rfl rfl (ow_move (v := .bool (decide (x.kind = 1))) rfl ?_)
  refine sr_cut 4 (fun m_ w_ => ∃ (r_ : Sl) (v_ : Bool), m_ = (16, .bool v_) :: (0, .slice Ao off.length co) :: (3, .pointer (some ⟨g1, 0, none⟩)) :: (4, .pointer (some ⟨g2, 0, none⟩)) :: (5, .pointer (some ⟨g3, 0, none⟩)) :: r_ ∧ Hp B I w_ ((g3, Ob [.int .i64 x.kind, .int .i64 x.n, .int .i64 0, .string x.name, .slice A x.l.length c] 26) :: (g2, Ob [.int .i64 0, .int .i64 0, .int .i64 0, .string ⟨#[]⟩, .slice none 0 0] 26) :: (g1, Ob [.int .i64 x.kind, .int .i64 x.n, .int .i64 x.no, .string x.name, .slice A x.l.length c] 26) :: L) ∧ v_ = ((decide (x.kind = 1)) || (decide (x.kind = 2)))) (fun again => ?_) ?_
  · rcases hg : decide (x.kind = 1) with _ | _
    · refine sr_want rfl (j := 3) (d := 12) rfl rfl rfl (v := false) rfl rfl (ow_fieldAddr fd26_0 ty3 rfl rfl (r := 0) rfl ?_)
      refine sr_want rfl (j := 3) (d := 12) rfl rfl rfl (v := false) rfl rfl (ow_load (v := .int .i64 x.kind) ty3 H rfl 2 rfl rfl rfl rfl ?_)
      refine sr_want rfl (j := 3) (d := 12) rfl rfl rfl (v := false) rfl rfl (ow_eql rfl rfl ?_)
      refine sr_op rfl rfl (ow_pick (v := .bool (decide (x.kind = 2))) rfl rfl ?_)
      exact sr_live [16, 0, 3, 4, 5] (again _ _ ⟨_, _, rfl, H, by rw [hg] <;> rfl⟩)
    · refine sr_pass rfl (j := 3) (d := 12) rfl rfl rfl (u := true) (v := false) rfl rfl ?_
      refine sr_pass rfl (j := 3) (d := 12) rfl rfl rfl (u := true) (v := false) rfl rfl ?_
      refine sr_pass rfl (j := 3) (d := 12) rfl rfl rfl (u := true) (v := false) rfl rfl ?_
      refine sr_op rfl rfl (ow_pick (v := .bool true) rfl rfl ?_)
      exact sr_live [16, 0, 3, 4, 5] (again _ _ ⟨_, _, rfl, H, by rw [hg] <;> rfl⟩)
  rintro _ _ ⟨r, _, rfl, H, rfl⟩
  refine sr_nil ?_
  refine st_cut (fun m_ w_ => ∃ (r_ : Sl), m_ = (0, .slice Ao off.length co) :: (3, .pointer (some ⟨g1, 0, none⟩)) :: (4, .pointer (some ⟨g2, 0, none⟩)) :: (5, .pointer (some ⟨g3, 0, none⟩)) :: r_ ∧ Hp B I w_ ((g3, Ob [.int .i64 x.kind, .int .i64 x.n, .int .i64 (if isNamed x.kind = true then idx off x.name else 0), .string x.name, .slice A x.l.length c] 26) :: (g2, Ob [.int .i64 0, .int .i64 0, .int .i64 0, .string ⟨#[]⟩, .slice none 0 0] 26) :: (g1, Ob [.int .i64 x.kind, .int .i64 x.n, .int .i64 x.no, .string x.name, .slice A x.l.length c] 26) :: L)) (fun again => ?_) ?_
  · refine st_cond ((decide (x.kind = 1)) || (decide (x.kind = 2))) rfl (fun hc4 => ?_) (fun hc4 => ?_)
    · have hnm : isNamed x.kind = true := hc4
      rw [if_pos hnm] at again
      refine st_region ?_
      refine sr_op rfl rfl (ow_move (v := .slice Ao off.length co) rfl ?_)
      refine sr_op rfl rfl (ow_fieldAddr fd26_3 ty9 rfl rfl (r := 3) rfl ?_)
      refine sr_op rfl rfl (ow_load (v := .string x.name) ty9 H rfl 2 rfl rfl rfl rfl ?_)
      refine sr_op rfl rfl (ow_call en106 rfl (refIndex_c H ho x.name) ?_)
      rintro _ _ ⟨rfl, H⟩
      refine sr_op rfl rfl (ow_fieldAddr fd26_2 ty3 rfl rfl (r := 2) rfl ?_)
      refine sr_op rfl rfl (ow_store ty3 H rfl (v := .int .i64 (idx off x.name)) rfl [.int .i64 (idx off x.name)] rfl rfl rfl 0 rfl rfl (fun _ H => ?_))
      refine sr_nil ?_
      exact st_live [0, 3, 4, 5] (again _ _ ⟨_, rfl, H⟩)
    · have hnm : isNamed x.kind = false := hc4
      rw [if_neg (by rw [hnm]; decide)] at again
      refine st_skip ?_
      exact st_live [0, 3, 4, 5] (again _ _ ⟨_, rfl, H⟩)
  rintro _ _ ⟨r5, rfl, H⟩
  refine st_seq ?_
  refine st_region ?_
  refine sr_op rfl rfl (ow_fieldAddr fd26_4 ty24 rfl rfl (r := 4) rfl ?_)
  refine sr_op rfl rfl (ow_store ty24 H rfl (v := .slice none 0 0) rfl [.slice none 0 0] rfl rfl rfl 0 rfl rfl (fun _ H => ?_))
  refine sr_nil ?_
  refine st_seq ?_
  refine st_seq ?_
  refine st_region ?_
  refine sr_op rfl rfl (ow_assign (v := .int .i64 0) rfl ?_)
  refine sr_nil ?_
  refine st_block ?_
  refine st_loop ?_
  refine st_live [0, 3, 4, 5, 6] ?_
  refine st_ind (fun d_ m_ w_ => ∃ (i : Nat) (I1 : Im) (Aa : Option Addr) (na ca : Nat) (cs_ : List Value) (r_ : Sl), d_ = x.l.length - i ∧ m_ = (0, .slice Ao off.length co) :: (3, .pointer (some ⟨g1, 0, none⟩)) :: (4, .pointer (some ⟨g2, 0, none⟩)) :: (5, .pointer (some ⟨g3, 0, none⟩)) :: (6, .int .i64 (i : Int)) :: r_ ∧ Hp B I1 w_ ((g3, Ob [.int .i64 x.kind, .int .i64 x.n, .int .i64 (if isNamed x.kind = true then idx off x.name else 0), .string x.name, .slice Aa na ca] 26) :: (g2, Ob [.int .i64 0, .int .i64 0, .int .i64 0, .string ⟨#[]⟩, .slice none 0 0] 26) :: (g1, Ob [.int .i64 x.kind, .int .i64 x.n, .int .i64 x.no, .string x.name, .slice A x.l.length c] 26) :: (rowL (.slice Aa na ca) cs_ 26 ++ L)) ∧ i ≤ x.l.length ∧ Le I I1 ∧ Acc I1 5 (.slice Aa na ca) cs_ (((x.l.take i).map (resolveX off)).map encEx)) _ ⟨0, I, none, 0, 0, [], _, rfl, rfl, H, Nat.zero_le _, Le.refl I, Acc.none_ _ _ _⟩ ?_
  rintro _ _ _ ⟨i, I1, Aa, na, ca, cs_, r6, rfl, rfl, H, hi, hI1, ha⟩ ih7
  have ho := ho.mono hI1
  have hxl := hxl.mono hI1
  refine st_seq ?_
  refine st_seq ?_
  refine st_region ?_
  refine sr_op rfl rfl (ow_move (v := .int .i64 (i : Int)) rfl ?_)
  refine sr_op rfl rfl (ow_fieldAddr fd26_4 ty24 rfl rfl (r := 4) rfl ?_)
  refine sr_op rfl rfl (ow_load (v := .slice A x.l.length c) ty24 H rfl 2 rfl rfl rfl rfl ?_)
  refine sr_op rfl rfl (ow_lenS sl24 rfl rfl ?_)
  refine sr_op rfl rfl (ow_lss rfl rfl ?_)
  refine sr_nil ?_
  refine st_cond (decide ((i : Int) < (x.l.length : Int))) rfl (fun hc8 => ?_) (fun hc8 => ?_)
  · have hc8 := of_decide_eq_true hc8
    refine st_skip ?_
    refine st_seq ?_
    refine st_block ?_
    obtain ⟨y9, he9⟩ : ∃ q_, x.l[i]? = some q_ := ⟨_, List.getElem?_eq_getElem (by omega)⟩
    obtain ⟨b9, o9, us9, hA9, hat9, hul9, hr9⟩ := RepS.get hxl he9
    obtain ⟨v9, rfl, y9k, y9n, y9o, y9s, y9l⟩ := ex_iff.1 hr9
    obtain ⟨A9, c9, rfl, y9c, y9m, y9l⟩ := RepS.open_ y9l
    refine st_draw (F := (fun w_ => ∃ I2, Le I1 I2 ∧ Hp B I2 w_ [(g3, Ob [.int .i64 x.kind, .int .i64 x.n, .int .i64 (if isNamed x.kind = true then idx off x.name else 0), .string x.name, .slice Aa na ca] 26), (g2, Ob [.int .i64 0, .int .i64 0, .int .i64 0, .string ⟨#[]⟩, .slice none 0 0] 26), (g1, Ob [.int .i64 x.kind, .int .i64 x.n, .int .i64 x.no, .string x.name, .slice A x.l.length c] 26)])) (p0 := [0, 1, 2, 3, 4, 5, 6, 7]) (plan := [(8, [], [0, 1]), (9, [], [0, 1]), (10, [11], []), (12, [], [])]) [] [] [(37, .agg #[.int .i64 y9.kind, .int .i64 y9.n, .int .i64 y9.no, .string y9.name, .slice A9 y9.l.length c9]), (36, .pointer (some ⟨b9, o9 + i * 5, none⟩)), (35, .int .i64 (i : Int)), (34, .slice A x.l.length c), (33, .pointer (some ⟨g1, 4, none⟩)), (32, .slice Ao off.length co), (31, .slice Aa na ca), (30, .pointer (some ⟨g3, 4, none⟩))] (by kernel_rfl) rfl ?_ ⟨_, Le.refl _, H.drew.pick [0, 1, 2] (by decide)⟩ ?_
    · refine ⟨kn_op rfl rfl (wantB_none rfl) fun _ hF2 => ?_, ?_⟩
      · obtain ⟨_, hle2, H2⟩ := hF2
        refine  (ow_fieldAddr fd26_4 ty24 rfl rfl (r := 4) rfl ?_)
        exact ⟨rfl, rfl⟩
      refine ⟨kn_op rfl rfl (wantB_none rfl) fun _ hF2 => ?_, ?_⟩
      · obtain ⟨_, hle2, H2⟩ := hF2
        refine  (ow_load (v := .slice Aa na ca) ty24 H2 rfl 0 rfl rfl rfl rfl ?_)
        exact ⟨rfl, rfl⟩
      refine ⟨kn_op rfl rfl (wantB_none rfl) fun _ hF2 => ?_, ?_⟩
      · obtain ⟨_, hle2, H2⟩ := hF2
        refine  (ow_move (v := .slice Ao off.length co) rfl ?_)
        exact ⟨rfl, rfl⟩
      refine ⟨kn_op rfl rfl (wantB_none rfl) fun _ hF2 => ?_, ?_⟩
      · obtain ⟨_, hle2, H2⟩ := hF2
        refine  (ow_fieldAddr fd26_4 ty24 rfl rfl (r := 4) rfl ?_)
        exact ⟨rfl, rfl⟩
      refine ⟨kn_op rfl rfl (wantB_none rfl) fun _ hF2 => ?_, ?_⟩
      · obtain ⟨_, hle2, H2⟩ := hF2
        refine  (ow_load (v := .slice A x.l.length c) ty24 H2 rfl 2 rfl rfl rfl rfl ?_)
        exact ⟨rfl, rfl⟩
      refine ⟨kn_op rfl rfl (wantB_none rfl) fun _ hF2 => ?_, ?_⟩
      · obtain ⟨_, hle2, H2⟩ := hF2
        refine  (ow_move (v := .int .i64 (i : Int)) rfl ?_)
        exact ⟨rfl, rfl⟩
      refine ⟨kn_op rfl rfl (wantB_none rfl) fun _ hF2 => ?_, ?_⟩
      · obtain ⟨_, hle2, H2⟩ := hF2
        refine  (ow_indexAddrA sl24 ty26 hA9 rfl rfl (by omega) (by omega) (r := o9 + i * 5) rfl ?_)
        exact ⟨rfl, rfl⟩
      refine ⟨kn_op rfl rfl (wantB_none rfl) fun _ hF2 => ?_, ?_⟩
      · obtain ⟨_, hle2, H2⟩ := hF2
        refine  (ow_loadI (v := .agg #[.int .i64 y9.kind, .int .i64 y9.n, .int .i64 y9.no, .string y9.name, .slice A9 y9.l.length c9]) ty26 H2 rfl (At.mono hle2 hat9) rfl rfl rfl ?_)
        exact ⟨rfl, rfl⟩
      exact trivial
    have H := H.drew
    refine cw_op rfl (wantB_none rfl) (ow_call en65 rfl (ih (x := y9) (by have := Ex.pc_at he9; omega) (by omega) H ho (ex_iff.2 ⟨_, rfl, y9k, y9n, y9o, y9s, y9l⟩)) ?_)
    rintro _ _ ⟨I10, us10, hI10, H, rfl, hr10⟩
    obtain ⟨vr10, rfl, hrk10, hrn10, hro10, hrs10, hrl10⟩ := ex_iff.1 hr10
    obtain ⟨Ar10, cr10, rfl, _, _, hrl10⟩ := RepS.open_ hrl10
    have ho := ho.mono hI10
    have hxl := hxl.mono hI10
    have ha := ha.mono hI10
    refine af_some [] (fun w_ => ∃ I2, Le I10 I2 ∧ Hp B I2 w_ [(g3, Ob [.int .i64 x.kind, .int .i64 x.n, .int .i64 (if isNamed x.kind = true then idx off x.name else 0), .string x.name, .slice Aa na ca] 26), (g2, Ob [.int .i64 0, .int .i64 0, .int .i64 0, .string ⟨#[]⟩, .slice none 0 0] 26), (g1, Ob [.int .i64 x.kind, .int .i64 x.n, .int .i64 x.no, .string x.name, .slice A x.l.length c] 26)]) rfl ⟨_, Le.refl _, H.pick [0, 1, 2] (by decide)⟩ ?_ ?_
    · refine ⟨kn_op rfl rfl (wantB_none rfl) fun _ hF2 => ?_, ?_⟩
      · obtain ⟨_, hle2, H2⟩ := hF2
        refine  (ow_fieldAddr fd26_4 ty24 rfl rfl (r := 4) rfl ?_)
        exact ⟨rfl, rfl⟩
      refine ⟨kn_op rfl rfl (wantB_none rfl) fun _ hF2 => ?_, ?_⟩
      · obtain ⟨_, hle2, H2⟩ := hF2
        refine  (ow_load (v := .slice Aa na ca) ty24 H2 rfl 0 rfl rfl rfl rfl ?_)
        exact ⟨rfl, rfl⟩
      exact trivial
    refine cw_op rfl (wantB_none rfl) (ow_buildSlice H (e := 26) (ps := [(0, .agg #[.int .i64 ((resolveX off y9).kind), .int .i64 ((resolveX off y9).n), .int .i64 ((resolveX off y9).no), .string ((resolveX off y9).name), .slice Ar10 ((resolveX off y9).l.length) cr10])]) rfl [.int .i64 ((resolveX off y9).kind), .int .i64 ((resolveX off y9).n), .int .i64 ((resolveX off y9).no), .string ((resolveX off y9).name), .slice Ar10 ((resolveX off y9).l.length) cr10] (fun _ => by kernel_rfl) (fun g11 _ H => ?_))
    refine af_some [] (fun w_ => ∃ I2, Le I10 I2 ∧ Hp B I2 w_ [(g11, Ob [.int .i64 ((resolveX off y9).kind), .int .i64 ((resolveX off y9).n), .int .i64 ((resolveX off y9).no), .string ((resolveX off y9).name), .slice Ar10 ((resolveX off y9).l.length) cr10] 26), (g3, Ob [.int .i64 x.kind, .int .i64 x.n, .int .i64 (if isNamed x.kind = true then idx off x.name else 0), .string x.name, .slice Aa na ca] 26), (g2, Ob [.int .i64 0, .int .i64 0, .int .i64 0, .string ⟨#[]⟩, .slice none 0 0] 26), (g1, Ob [.int .i64 x.kind, .int .i64 x.n, .int .i64 x.no, .string x.name, .slice A x.l.length c] 26)]) rfl ⟨_, Le.refl _, H.pick [0, 1, 2, 3] (by decide)⟩ ?_ ?_
    · refine ⟨kn_op rfl rfl (wantB_none rfl) fun _ hF2 => ?_, ?_⟩
      · obtain ⟨_, hle2, H2⟩ := hF2
        refine  (ow_fieldAddr fd26_4 ty24 rfl rfl (r := 4) rfl ?_)
        exact ⟨rfl, rfl⟩
      refine ⟨kn_op rfl rfl (wantB_none rfl) fun _ hF2 => ?_, ?_⟩
      · obtain ⟨_, hle2, H2⟩ := hF2
        refine  (ow_load (v := .slice Aa na ca) ty24 H2 rfl 1 rfl rfl rfl rfl ?_)
        exact ⟨rfl, rfl⟩
      exact trivial
    refine cw_op rfl (wantB_none rfl) (ow_append1 sl24 ty26 rfl rfl [(g3, Ob [.int .i64 x.kind, .int .i64 x.n, .int .i64 (if isNamed x.kind = true then idx off x.name else 0), .string x.name, .slice Aa na ca] 26), (g2, Ob [.int .i64 0, .int .i64 0, .int .i64 0, .string ⟨#[]⟩, .slice none 0 0] 26), (g1, Ob [.int .i64 x.kind, .int .i64 x.n, .int .i64 x.no, .string x.name, .slice A x.l.length c] 26)] (v := .slice Aa na ca) (cs := cs_) (L := L) H ha rfl rfl ((ex_iff.2 ⟨_, rfl, hrk10, hrn10, hro10, hrs10, hrl10⟩)) (len_ex _) (plain_ex _) (by have := x.len_pc; simp only [List.length_map, List.length_take]; omega) (by have := x.len_pc; simp only [List.length_map, List.length_take]; omega) (fun va12 cs13 _ H ha => ?_))
    obtain ⟨Aa14, na14, ca14, rfl⟩ := Acc.form ha
    refine af_some [(41, .pointer (some ⟨g3, 4, none⟩))] (fun w_ => ∃ I2, Le I10 I2 ∧ Hp B I2 w_ [(g3, Ob [.int .i64 x.kind, .int .i64 x.n, .int .i64 (if isNamed x.kind = true then idx off x.name else 0), .string x.name, .slice Aa na ca] 26), (g2, Ob [.int .i64 0, .int .i64 0, .int .i64 0, .string ⟨#[]⟩, .slice none 0 0] 26), (g1, Ob [.int .i64 x.kind, .int .i64 x.n, .int .i64 x.no, .string x.name, .slice A x.l.length c] 26)]) rfl ⟨_, Le.refl _, H.pick [0, 1, 2] (by decide)⟩ ?_ ?_
    · refine ⟨kn_op rfl rfl (wantB_none rfl) fun _ hF2 => ?_, ?_⟩
      · obtain ⟨_, hle2, H2⟩ := hF2
        refine  (ow_fieldAddr fd26_4 ty24 rfl rfl (r := 4) rfl ?_)
        exact ⟨rfl, rfl⟩
      exact trivial
    refine cw_op rfl (wantB_none rfl) (ow_store ty24 H rfl (v := .slice Aa14 na14 ca14) rfl [.slice Aa14 na14 ca14] rfl rfl rfl 0 rfl rfl (fun _ H => ?_))
    refine af_none ?_
    refine cw_nil ?_
    refine st_inBlock ?_
    refine st_region ?_
    refine sr_op rfl rfl (ow_move (v := .int .i64 (i : Int)) rfl ?_)
    refine sr_op rfl rfl (ow_add (r := ((i + 1 : Nat) : Int)) rfl rfl (inc_i64 (by omega)) ?_)
    refine sr_op rfl rfl (ow_assign (v := .int .i64 ((i + 1 : Nat) : Int)) rfl ?_)
    refine sr_nil ?_
    exact st_inLoop (st_live [0, 3, 4, 5, 6] (ih7 _ _ _ (by omega) ⟨i + 1, _, _, _, _, _, _, rfl, rfl, H, by omega, Le.trans hI1 hI10, by rw [take_some he9, List.map_append, List.map_append]; exact ha⟩))
  · have hc8 := of_decide_eq_false hc8
    refine st_exit rfl ?_
    refine st_seq ?_
    refine st_region ?_
    refine sr_op rfl rfl (ow_load (v := .agg #[.int .i64 x.kind, .int .i64 x.n, .int .i64 (if isNamed x.kind = true then idx off x.name else 0), .string x.name, .slice Aa na ca]) ty26 H rfl 0 rfl rfl rfl rfl ?_)
    refine sr_op rfl rfl (ow_store ty26 H rfl (v := .agg #[.int .i64 x.kind, .int .i64 x.n, .int .i64 (if isNamed x.kind = true then idx off x.name else 0), .string x.name, .slice Aa na ca]) rfl [.int .i64 x.kind, .int .i64 x.n, .int .i64 (if isNamed x.kind = true then idx off x.name else 0), .string x.name, .slice Aa na ca] rfl rfl rfl 1 rfl rfl (fun _ H => ?_))
    refine sr_nil ?_
    refine st_ret hb (hR _ _ (.agg #[.int .i64 x.kind, .int .i64 x.n, .int .i64 (if isNamed x.kind = true then idx off x.name else 0), .string x.name, .slice Aa na ca]) (res_run (vs := [.agg #[.int .i64 x.kind, .int .i64 x.n, .int .i64 (if isNamed x.kind = true then idx off x.name else 0), .string x.name, .slice Aa na ca]]) Tryd.results65 ⟨_, _, rfl, resV_own (v := .agg #[.int .i64 x.kind, .int .i64 x.n, .int .i64 (if isNamed x.kind = true then idx off x.name else 0), .string x.name, .slice Aa na ca]) ty26 H rfl 1 rfl rfl rfl rfl, rfl⟩) ?_)
    obtain ⟨I9, hI9, H, hr⟩ := Acc.done ha (H.drop 3)
    have : x.l.take i = x.l := List.take_of_length_le (by omega)
    rw [this] at hr
    refine ⟨_, rfl, I9, _, Le.trans hI1 hI9, H, rfl, ex_iff.2 ⟨_, by rw [resolveX_kind, resolveX_n, resolveX_no, resolveX_name], by rw [resolveX_kind]; exact hxk, by rw [resolveX_n]; exact hxn, ?_, by rw [resolveX_name]; exact hxs, ?_⟩⟩
    · rw [resolveX_no]
      split
      · exact idx_I64 _ _ (by omega)
      · unfold I64; omega
    · rw [resolveX_l]
      exact hr
theorem refResolve_c {B I L w} (H : Hp B I w L) {p : Po} {us : List Value} (hp : RepL I (encPo p) us) : Calls Tryd.prog 20 #[.agg us.toArray] w (Rt fun r w' => ∃ I' us', Le I I' ∧ Hp B I' w' L ∧ r = .tuple #[.agg us'.toArray, .int .i64 (errOf p)] ∧ RepL I' (encPo (resP p)) us') := by
  have hp0 := hp
  obtain ⟨v1, v2, v3, v4, rfl, hpn, hpk, hpo, hpr, hck, hcn, hcno, hcs, hcl, hpm⟩ := po_iff.1 hp
  obtain ⟨Ak, ck, rfl, hckl, hckm, hpk⟩ := RepS.open_ hpk
  obtain ⟨Ao, co, rfl, hcol, hcom, hpo⟩ := RepS.open_ hpo
  obtain ⟨Ar, cr, rfl, hcrl, hcrm, hpr⟩ := RepS.open_ hpr
  obtain ⟨Ac, cc, rfl, hccl, hccm, hcl⟩ := RepS.open_ hcl
  refine calls_st (n := 53) Tryd.func20 rfl rfl rfl ?_
  intro G bF cs hb hfn hR hP
  simp only [ini]
  refine st_seq ?_
  refine st_region ?_
  refine sr_op rfl rfl (ow_box H (v := .agg #[.string p.name, .slice Ak p.kinds.length ck, .slice Ao p.offices.length co, .slice Ar p.rules.length cr, .int .i64 p.change.kind, .int .i64 p.change.n, .int .i64 p.change.no, .string p.change.name, .slice Ac p.change.l.length cc, .int .i64 p.mode]) rfl [.string p.name, .slice Ak p.kinds.length ck, .slice Ao p.offices.length co, .slice Ar p.rules.length cr, .int .i64 p.change.kind, .int .i64 p.change.n, .int .i64 p.change.no, .string p.change.name, .slice Ac p.change.l.length cc, .int .i64 p.mode] rfl (fun g1 _ H => ?_))
  refine sr_op rfl rfl (ow_alloc ty28 H [.string ⟨#[]⟩, .slice none 0 0, .slice none 0 0, .slice none 0 0, .int .i64 0, .int .i64 0, .int .i64 0, .string ⟨#[]⟩, .slice none 0 0, .int .i64 0] rfl (fun g2 _ H => ?_))
  refine sr_op rfl rfl (ow_assign (v := .int .i64 0) rfl ?_)
  refine sr_nil ?_
  refine st_seq ?_
  refine st_seq ?_
  refine st_region ?_
  refine sr_op rfl rfl (ow_load (v := .agg #[.string p.name, .slice Ak p.kinds.length ck, .slice Ao p.offices.length co, .slice Ar p.rules.length cr, .int .i64 p.change.kind, .int .i64 p.change.n, .int .i64 p.change.no, .string p.change.name, .slice Ac p.change.l.length cc, .int .i64 p.mode]) ty28 H rfl 1 rfl rfl rfl rfl ?_)
  refine sr_op rfl rfl (ow_call en62 rfl (tooLarge_c H hp0) ?_)
  rintro _ _ ⟨rfl, H⟩
  refine sr_nil ?_
  refine st_cond (tooLargeB p) rfl (fun hc3 => ?_) (fun hc3 => ?_)
  · have herr : errOf p = 2 := by rw [tooLarge_eq] at hc3; simp only [errOf, bnt hc3]; rfl
    refine st_seq ?_
    refine st_region ?_
    refine sr_op rfl rfl (ow_build (ps := []) (v := .agg #[.string ⟨#[]⟩, .slice none 0 0, .slice none 0 0, .slice none 0 0, .int .i64 0, .int .i64 0, .int .i64 0, .string ⟨#[]⟩, .slice none 0 0, .int .i64 0]) rfl (fun _ => by kernel_rfl) ?_)
    refine sr_op rfl rfl (ow_store ty28 H rfl (v := .agg #[.string ⟨#[]⟩, .slice none 0 0, .slice none 0 0, .slice none 0 0, .int .i64 0, .int .i64 0, .int .i64 0, .string ⟨#[]⟩, .slice none 0 0, .int .i64 0]) rfl [.string ⟨#[]⟩, .slice none 0 0, .slice none 0 0, .slice none 0 0, .int .i64 0, .int .i64 0, .int .i64 0, .string ⟨#[]⟩, .slice none 0 0, .int .i64 0] rfl rfl rfl 0 rfl rfl (fun _ H => ?_))
    refine sr_op rfl rfl (ow_assign (v := .int .i64 2) rfl ?_)
    refine sr_nil ?_
    refine st_ret hb (hR _ _ (.tuple #[.agg #[.string ⟨#[]⟩, .slice none 0 0, .slice none 0 0, .slice none 0 0, .int .i64 0, .int .i64 0, .int .i64 0, .string ⟨#[]⟩, .slice none 0 0, .int .i64 0], .int .i64 2]) (res_run (vs := [.agg #[.string ⟨#[]⟩, .slice none 0 0, .slice none 0 0, .slice none 0 0, .int .i64 0, .int .i64 0, .int .i64 0, .string ⟨#[]⟩, .slice none 0 0, .int .i64 0], .int .i64 2]) Tryd.results20 ⟨_, _, rfl, resV_own (v := .agg #[.string ⟨#[]⟩, .slice none 0 0, .slice none 0 0, .slice none 0 0, .int .i64 0, .int .i64 0, .int .i64 0, .string ⟨#[]⟩, .slice none 0 0, .int .i64 0]) ty28 H rfl 0 rfl rfl rfl rfl, ⟨_, _, rfl, rfl, rfl⟩⟩) ?_)
    exact ⟨_, rfl, I, _, Le.refl _, H.drop 2, by rw [herr], by rw [resP, if_neg (by rw [herr]; decide)]; exact zero_rep _⟩
  · rw [tooLarge_eq] at hc3
    have hs1 := bnf hc3
    obtain ⟨hlo, hlk, hlr⟩ := sizes_len hs1
    refine st_skip ?_
    refine st_seq ?_
    refine st_seq ?_
    refine st_region ?_
    refine sr_op rfl rfl (ow_load (v := .agg #[.string p.name, .slice Ak p.kinds.length ck, .slice Ao p.offices.length co, .slice Ar p.rules.length cr, .int .i64 p.change.kind, .int .i64 p.change.n, .int .i64 p.change.no, .string p.change.name, .slice Ac p.change.l.length cc, .int .i64 p.mode]) ty28 H rfl 1 rfl rfl rfl rfl ?_)
    refine sr_op rfl rfl (ow_call en63 rfl (refNames_c H hp0) ?_)
    rintro _ _ ⟨rfl, H⟩
    refine sr_op rfl rfl (ow_not rfl ?_)
    refine sr_nil ?_
    refine st_cond (!(namesB p)) rfl (fun hc4 => ?_) (fun hc4 => ?_)
    · have herr : errOf p = 201 := by simp only [errOf, hs1, bnt hc4]; rfl
      refine st_seq ?_
      refine st_region ?_
      refine sr_op rfl rfl (ow_build (ps := []) (v := .agg #[.string ⟨#[]⟩, .slice none 0 0, .slice none 0 0, .slice none 0 0, .int .i64 0, .int .i64 0, .int .i64 0, .string ⟨#[]⟩, .slice none 0 0, .int .i64 0]) rfl (fun _ => by kernel_rfl) ?_)
      refine sr_op rfl rfl (ow_store ty28 H rfl (v := .agg #[.string ⟨#[]⟩, .slice none 0 0, .slice none 0 0, .slice none 0 0, .int .i64 0, .int .i64 0, .int .i64 0, .string ⟨#[]⟩, .slice none 0 0, .int .i64 0]) rfl [.string ⟨#[]⟩, .slice none 0 0, .slice none 0 0, .slice none 0 0, .int .i64 0, .int .i64 0, .int .i64 0, .string ⟨#[]⟩, .slice none 0 0, .int .i64 0] rfl rfl rfl 0 rfl rfl (fun _ H => ?_))
      refine sr_op rfl rfl (ow_assign (v := .int .i64 201) rfl ?_)
      refine sr_nil ?_
      refine st_ret hb (hR _ _ (.tuple #[.agg #[.string ⟨#[]⟩, .slice none 0 0, .slice none 0 0, .slice none 0 0, .int .i64 0, .int .i64 0, .int .i64 0, .string ⟨#[]⟩, .slice none 0 0, .int .i64 0], .int .i64 201]) (res_run (vs := [.agg #[.string ⟨#[]⟩, .slice none 0 0, .slice none 0 0, .slice none 0 0, .int .i64 0, .int .i64 0, .int .i64 0, .string ⟨#[]⟩, .slice none 0 0, .int .i64 0], .int .i64 201]) Tryd.results20 ⟨_, _, rfl, resV_own (v := .agg #[.string ⟨#[]⟩, .slice none 0 0, .slice none 0 0, .slice none 0 0, .int .i64 0, .int .i64 0, .int .i64 0, .string ⟨#[]⟩, .slice none 0 0, .int .i64 0]) ty28 H rfl 0 rfl rfl rfl rfl, ⟨_, _, rfl, rfl, rfl⟩⟩) ?_)
      exact ⟨_, rfl, I, _, Le.refl _, H.drop 2, by rw [herr], by rw [resP, if_neg (by rw [herr]; decide)]; exact zero_rep _⟩
    · have hs2 := bnf hc4
      refine st_skip ?_
      refine st_seq ?_
      refine st_seq ?_
      refine st_region ?_
      refine sr_op rfl rfl (ow_load (v := .agg #[.string p.name, .slice Ak p.kinds.length ck, .slice Ao p.offices.length co, .slice Ar p.rules.length cr, .int .i64 p.change.kind, .int .i64 p.change.n, .int .i64 p.change.no, .string p.change.name, .slice Ac p.change.l.length cc, .int .i64 p.mode]) ty28 H rfl 1 rfl rfl rfl rfl ?_)
      refine sr_op rfl rfl (ow_call en64 rfl (refFormed_c H hp0) ?_)
      rintro _ _ ⟨rfl, H⟩
      refine sr_op rfl rfl (ow_not rfl ?_)
      refine sr_nil ?_
      refine st_cond (!(formB p)) rfl (fun hc5 => ?_) (fun hc5 => ?_)
      · have herr : errOf p = 200 := by simp only [errOf, hs1, hs2, bnt hc5]; rfl
        refine st_seq ?_
        refine st_region ?_
        refine sr_op rfl rfl (ow_build (ps := []) (v := .agg #[.string ⟨#[]⟩, .slice none 0 0, .slice none 0 0, .slice none 0 0, .int .i64 0, .int .i64 0, .int .i64 0, .string ⟨#[]⟩, .slice none 0 0, .int .i64 0]) rfl (fun _ => by kernel_rfl) ?_)
        refine sr_op rfl rfl (ow_store ty28 H rfl (v := .agg #[.string ⟨#[]⟩, .slice none 0 0, .slice none 0 0, .slice none 0 0, .int .i64 0, .int .i64 0, .int .i64 0, .string ⟨#[]⟩, .slice none 0 0, .int .i64 0]) rfl [.string ⟨#[]⟩, .slice none 0 0, .slice none 0 0, .slice none 0 0, .int .i64 0, .int .i64 0, .int .i64 0, .string ⟨#[]⟩, .slice none 0 0, .int .i64 0] rfl rfl rfl 0 rfl rfl (fun _ H => ?_))
        refine sr_op rfl rfl (ow_assign (v := .int .i64 200) rfl ?_)
        refine sr_nil ?_
        refine st_ret hb (hR _ _ (.tuple #[.agg #[.string ⟨#[]⟩, .slice none 0 0, .slice none 0 0, .slice none 0 0, .int .i64 0, .int .i64 0, .int .i64 0, .string ⟨#[]⟩, .slice none 0 0, .int .i64 0], .int .i64 200]) (res_run (vs := [.agg #[.string ⟨#[]⟩, .slice none 0 0, .slice none 0 0, .slice none 0 0, .int .i64 0, .int .i64 0, .int .i64 0, .string ⟨#[]⟩, .slice none 0 0, .int .i64 0], .int .i64 200]) Tryd.results20 ⟨_, _, rfl, resV_own (v := .agg #[.string ⟨#[]⟩, .slice none 0 0, .slice none 0 0, .slice none 0 0, .int .i64 0, .int .i64 0, .int .i64 0, .string ⟨#[]⟩, .slice none 0 0, .int .i64 0]) ty28 H rfl 0 rfl rfl rfl rfl, ⟨_, _, rfl, rfl, rfl⟩⟩) ?_)
        exact ⟨_, rfl, I, _, Le.refl _, H.drop 2, by rw [herr], by rw [resP, if_neg (by rw [herr]; decide)]; exact zero_rep _⟩
      · have hs3 := bnf hc5
        have hok : errOf p = 0 := by simp only [errOf, hs1, hs2, hs3]; rfl
        refine st_skip ?_
        refine st_seq ?_
        refine st_region ?_
        refine sr_op rfl rfl (ow_load (v := .agg #[.string p.name, .slice Ak p.kinds.length ck, .slice Ao p.offices.length co, .slice Ar p.rules.length cr, .int .i64 p.change.kind, .int .i64 p.change.n, .int .i64 p.change.no, .string p.change.name, .slice Ac p.change.l.length cc, .int .i64 p.mode]) ty28 H rfl 1 rfl rfl rfl rfl ?_)
        refine sr_op rfl rfl (ow_alloc ty28 H [.string ⟨#[]⟩, .slice none 0 0, .slice none 0 0, .slice none 0 0, .int .i64 0, .int .i64 0, .int .i64 0, .string ⟨#[]⟩, .slice none 0 0, .int .i64 0] rfl (fun g6 _ H => ?_))
        refine sr_op rfl rfl (ow_store ty28 H rfl (v := .agg #[.string p.name, .slice Ak p.kinds.length ck, .slice Ao p.offices.length co, .slice Ar p.rules.length cr, .int .i64 p.change.kind, .int .i64 p.change.n, .int .i64 p.change.no, .string p.change.name, .slice Ac p.change.l.length cc, .int .i64 p.mode]) rfl [.string p.name, .slice Ak p.kinds.length ck, .slice Ao p.offices.length co, .slice Ar p.rules.length cr, .int .i64 p.change.kind, .int .i64 p.change.n, .int .i64 p.change.no, .string p.change.name, .slice Ac p.change.l.length cc, .int .i64 p.mode] rfl rfl rfl 0 rfl rfl (fun _ H => ?_))
        refine sr_nil ?_
        refine st_seq ?_
        refine st_region ?_
        refine sr_op rfl rfl (ow_fieldAddr fd28_3 ty23 rfl rfl (r := 3) rfl ?_)
        refine sr_op rfl rfl (ow_store ty23 H rfl (v := .slice none 0 0) rfl [.slice none 0 0] rfl rfl rfl 0 rfl rfl (fun _ H => ?_))
        refine sr_nil ?_
        refine st_seq ?_
        refine st_seq ?_
        refine st_region ?_
        refine sr_op rfl rfl (ow_assign (v := .int .i64 0) rfl ?_)
        refine sr_nil ?_
        refine st_block ?_
        refine st_loop ?_
        refine st_live [1, 2, 3, 4, 5] ?_
        refine st_ind (fun d_ m_ w_ => ∃ (i : Nat) (I3 : Im) (Aa : Option Addr) (na ca : Nat) (cs_ : List Value) (r_ : Sl), d_ = p.rules.length - i ∧ m_ = (1, .pointer (some ⟨g1, 0, none⟩)) :: (2, .pointer (some ⟨g2, 0, none⟩)) :: (3, .int .i64 0) :: (4, .pointer (some ⟨g6, 0, none⟩)) :: (5, .int .i64 (i : Int)) :: r_ ∧ Hp B I3 w_ ((g6, Ob [.string p.name, .slice Ak p.kinds.length ck, .slice Ao p.offices.length co, .slice Aa na ca, .int .i64 p.change.kind, .int .i64 p.change.n, .int .i64 p.change.no, .string p.change.name, .slice Ac p.change.l.length cc, .int .i64 p.mode] 28) :: (g2, Ob [.string ⟨#[]⟩, .slice none 0 0, .slice none 0 0, .slice none 0 0, .int .i64 0, .int .i64 0, .int .i64 0, .string ⟨#[]⟩, .slice none 0 0, .int .i64 0] 28) :: (g1, Ob [.string p.name, .slice Ak p.kinds.length ck, .slice Ao p.offices.length co, .slice Ar p.rules.length cr, .int .i64 p.change.kind, .int .i64 p.change.n, .int .i64 p.change.no, .string p.change.name, .slice Ac p.change.l.length cc, .int .i64 p.mode] 28) :: (rowL (.slice Aa na ca) cs_ 43 ++ L)) ∧ i ≤ p.rules.length ∧ Le I I3 ∧ Acc I3 8 (.slice Aa na ca) cs_ ((rulesR p.offices (p.rules.take i) 0).map encRu)) _ ⟨0, I, none, 0, 0, [], _, rfl, rfl, H, Nat.zero_le _, Le.refl _, Acc.none_ _ _ _⟩ ?_
        rintro _ _ _ ⟨i, I3, Aa, na, ca, cs_, r7, rfl, rfl, H, hi, hI3, ha⟩ ih8
        have hpo := hpo.mono hI3
        have hpr := hpr.mono hI3
        have hcl := hcl.mono hI3
        have hpk := hpk.mono hI3
        refine st_seq ?_
        refine st_seq ?_
        refine st_region ?_
        refine sr_op rfl rfl (ow_move (v := .int .i64 (i : Int)) rfl ?_)
        refine sr_op rfl rfl (ow_fieldAddr fd28_3 ty23 rfl rfl (r := 3) rfl ?_)
        refine sr_op rfl rfl (ow_load (v := .slice Ar p.rules.length cr) ty23 H rfl 2 rfl rfl rfl rfl ?_)
        refine sr_op rfl rfl (ow_lenS sl23 rfl rfl ?_)
        refine sr_op rfl rfl (ow_lss rfl rfl ?_)
        refine sr_nil ?_
        refine st_cond (decide ((i : Int) < (p.rules.length : Int))) rfl (fun hc9 => ?_) (fun hc9 => ?_)
        · have hc9 := of_decide_eq_true hc9
          refine st_skip ?_
          refine st_seq ?_
          refine st_block ?_
          refine st_seq ?_
          refine st_region ?_
          refine sr_op rfl rfl (ow_fieldAddr fd28_3 ty23 rfl rfl (r := 3) rfl ?_)
          refine sr_op rfl rfl (ow_load (v := .slice Ar p.rules.length cr) ty23 H rfl 2 rfl rfl rfl rfl ?_)
          refine sr_op rfl rfl (ow_move (v := .int .i64 (i : Int)) rfl ?_)
          obtain ⟨r10, he10⟩ : ∃ q_, p.rules[i]? = some q_ := ⟨_, List.getElem?_eq_getElem (by omega)⟩
          obtain ⟨b10, o10, us10, hA10, hat10, hul10, hr10⟩ := RepS.get hpr he10
          obtain ⟨v10, rfl, r10K, r10Kn, r10Th, r10k, r10n, r10o, r10s, r10l⟩ := ru_iff.1 hr10
          obtain ⟨A10, c10, rfl, r10c, r10m, r10l⟩ := RepS.open_ r10l
          refine sr_op rfl rfl (ow_indexAddrA sl23 ty43 hA10 rfl rfl (by omega) (by omega) (r := o10 + i * 8) rfl ?_)
          refine sr_op rfl rfl (ow_loadI (v := .agg #[.string r10.kind, .int .i64 r10.kindNo, .int .i64 r10.think, .int .i64 r10.expr.kind, .int .i64 r10.expr.n, .int .i64 r10.expr.no, .string r10.expr.name, .slice A10 r10.expr.l.length c10]) ty43 H rfl hat10 rfl rfl rfl ?_)
          refine sr_op rfl rfl (ow_alloc ty43 H [.string ⟨#[]⟩, .int .i64 0, .int .i64 0, .int .i64 0, .int .i64 0, .int .i64 0, .string ⟨#[]⟩, .slice none 0 0] rfl (fun g11 _ H => ?_))
          refine sr_op rfl rfl (ow_store ty43 H rfl (v := .agg #[.string r10.kind, .int .i64 r10.kindNo, .int .i64 r10.think, .int .i64 r10.expr.kind, .int .i64 r10.expr.n, .int .i64 r10.expr.no, .string r10.expr.name, .slice A10 r10.expr.l.length c10]) rfl [.string r10.kind, .int .i64 r10.kindNo, .int .i64 r10.think, .int .i64 r10.expr.kind, .int .i64 r10.expr.n, .int .i64 r10.expr.no, .string r10.expr.name, .slice A10 r10.expr.l.length c10] rfl rfl rfl 0 rfl rfl (fun _ H => ?_))
          refine sr_nil ?_
          refine st_seq ?_
          refine st_region ?_
          refine sr_op rfl rfl (ow_move (v := .int .i64 (i : Int)) rfl ?_)
          refine sr_op rfl rfl (ow_fieldAddr fd43_1 ty3 rfl rfl (r := 1) rfl ?_)
          refine sr_op rfl rfl (ow_store ty3 H rfl (v := .int .i64 (i : Int)) rfl [.int .i64 (i : Int)] rfl rfl rfl 0 rfl rfl (fun _ H => ?_))
          refine sr_nil ?_
          refine st_seq ?_
          refine st_region ?_
          refine sr_op rfl rfl (ow_fieldAddr fd28_2 ty22 rfl rfl (r := 2) rfl ?_)
          refine sr_op rfl rfl (ow_load (v := .slice Ao p.offices.length co) ty22 H rfl 3 rfl rfl rfl rfl ?_)
          refine sr_op rfl rfl (ow_fieldAddr fd43_3 ty26 rfl rfl (r := 3) rfl ?_)
          refine sr_op rfl rfl (ow_load (v := .agg #[.int .i64 r10.expr.kind, .int .i64 r10.expr.n, .int .i64 r10.expr.no, .string r10.expr.name, .slice A10 r10.expr.l.length c10]) ty26 H rfl 0 rfl rfl rfl rfl ?_)
          have hbd12 : r10.expr.pc ≤ 1000000 := pc_small hs1 (rule_in he10)
          refine sr_op rfl rfl (ow_call en65 rfl (refResolved_c 1000000 (x := r10.expr) hbd12 (Nat.le_refl _) H hpo (ex_iff.2 ⟨_, rfl, r10k, r10n, r10o, r10s, r10l⟩)) ?_)
          rintro _ _ ⟨I12, us12, hI12, H, rfl, hr12⟩
          obtain ⟨vr12, rfl, hrk12, hrn12, hro12, hrs12, hrl12⟩ := ex_iff.1 hr12
          obtain ⟨Ar12, cr12, rfl, _, _, hrl12⟩ := RepS.open_ hrl12
          have hpo := hpo.mono hI12
          have hpr := hpr.mono hI12
          have hcl := hcl.mono hI12
          have hpk := hpk.mono hI12
          have ha := ha.mono hI12
          refine sr_op rfl rfl (ow_fieldAddr fd43_3 ty26 rfl rfl (r := 3) rfl ?_)
          refine sr_op rfl rfl (ow_store ty26 H rfl (v := .agg #[.int .i64 ((resolveX p.offices r10.expr).kind), .int .i64 ((resolveX p.offices r10.expr).n), .int .i64 ((resolveX p.offices r10.expr).no), .string ((resolveX p.offices r10.expr).name), .slice Ar12 ((resolveX p.offices r10.expr).l.length) cr12]) rfl [.int .i64 ((resolveX p.offices r10.expr).kind), .int .i64 ((resolveX p.offices r10.expr).n), .int .i64 ((resolveX p.offices r10.expr).no), .string ((resolveX p.offices r10.expr).name), .slice Ar12 ((resolveX p.offices r10.expr).l.length) cr12] rfl rfl rfl 0 rfl rfl (fun _ H => ?_))
          refine sr_nil ?_
          refine st_region ?_
          refine sr_op rfl rfl (ow_fieldAddr fd28_3 ty23 rfl rfl (r := 3) rfl ?_)
          refine sr_op rfl rfl (ow_load (v := .slice Aa na ca) ty23 H rfl 1 rfl rfl rfl rfl ?_)
          refine sr_op rfl rfl (ow_load (v := .agg #[.string r10.kind, .int .i64 (i : Int), .int .i64 r10.think, .int .i64 ((resolveX p.offices r10.expr).kind), .int .i64 ((resolveX p.offices r10.expr).n), .int .i64 ((resolveX p.offices r10.expr).no), .string ((resolveX p.offices r10.expr).name), .slice Ar12 ((resolveX p.offices r10.expr).l.length) cr12]) ty43 H rfl 0 rfl rfl rfl rfl ?_)
          refine sr_op rfl rfl (ow_buildSlice H (e := 43) (ps := [(0, .agg #[.string r10.kind, .int .i64 (i : Int), .int .i64 r10.think, .int .i64 ((resolveX p.offices r10.expr).kind), .int .i64 ((resolveX p.offices r10.expr).n), .int .i64 ((resolveX p.offices r10.expr).no), .string ((resolveX p.offices r10.expr).name), .slice Ar12 ((resolveX p.offices r10.expr).l.length) cr12])]) rfl [.string r10.kind, .int .i64 (i : Int), .int .i64 r10.think, .int .i64 ((resolveX p.offices r10.expr).kind), .int .i64 ((resolveX p.offices r10.expr).n), .int .i64 ((resolveX p.offices r10.expr).no), .string ((resolveX p.offices r10.expr).name), .slice Ar12 ((resolveX p.offices r10.expr).l.length) cr12] (fun _ => by kernel_rfl) (fun g13 _ H => ?_))
          refine sr_op rfl rfl (ow_append1 sl23 ty43 rfl rfl [(g11, Ob [.string r10.kind, .int .i64 (i : Int), .int .i64 r10.think, .int .i64 ((resolveX p.offices r10.expr).kind), .int .i64 ((resolveX p.offices r10.expr).n), .int .i64 ((resolveX p.offices r10.expr).no), .string ((resolveX p.offices r10.expr).name), .slice Ar12 ((resolveX p.offices r10.expr).l.length) cr12] 43), (g6, Ob [.string p.name, .slice Ak p.kinds.length ck, .slice Ao p.offices.length co, .slice Aa na ca, .int .i64 p.change.kind, .int .i64 p.change.n, .int .i64 p.change.no, .string p.change.name, .slice Ac p.change.l.length cc, .int .i64 p.mode] 28), (g2, Ob [.string ⟨#[]⟩, .slice none 0 0, .slice none 0 0, .slice none 0 0, .int .i64 0, .int .i64 0, .int .i64 0, .string ⟨#[]⟩, .slice none 0 0, .int .i64 0] 28), (g1, Ob [.string p.name, .slice Ak p.kinds.length ck, .slice Ao p.offices.length co, .slice Ar p.rules.length cr, .int .i64 p.change.kind, .int .i64 p.change.n, .int .i64 p.change.no, .string p.change.name, .slice Ac p.change.l.length cc, .int .i64 p.mode] 28)] (v := .slice Aa na ca) (cs := cs_) (L := L) H ha rfl rfl (((ru_iff (r := ruR p.offices i r10)).2 ⟨_, rfl, r10K, (by unfold I64 ruR; simp only; omega), r10Th, hrk12, hrn12, hro12, hrs12, hrl12⟩)) (len_ru _) (plain_ru _) (by simp only [List.length_map, rulesR_length, List.length_take]; omega) (by simp only [List.length_map, rulesR_length, List.length_take]; omega) (fun va14 cs15 _ H ha => ?_))
          obtain ⟨Aa16, na16, ca16, rfl⟩ := Acc.form ha
          refine sr_op rfl rfl (ow_fieldAddr fd28_3 ty23 rfl rfl (r := 3) rfl ?_)
          refine sr_op rfl rfl (ow_store ty23 H rfl (v := .slice Aa16 na16 ca16) rfl [.slice Aa16 na16 ca16] rfl rfl rfl 1 rfl rfl (fun _ H => ?_))
          refine sr_nil ?_
          refine st_inBlock ?_
          refine st_region ?_
          refine sr_op rfl rfl (ow_move (v := .int .i64 (i : Int)) rfl ?_)
          refine sr_op rfl rfl (ow_add (r := ((i + 1 : Nat) : Int)) rfl rfl (inc_i64 (by omega)) ?_)
          refine sr_op rfl rfl (ow_assign (v := .int .i64 ((i + 1 : Nat) : Int)) rfl ?_)
          refine sr_nil ?_
          exact st_inLoop (st_live [1, 2, 3, 4, 5] (ih8 _ _ _ (by omega) ⟨i + 1, _, _, _, _, _, _, rfl, rfl, H.drop 1, by omega, Le.trans hI3 hI12, by rw [take_some he10, rulesR_snoc, List.map_append, List.length_take, Nat.min_eq_left (by omega), Nat.zero_add]; exact ha⟩))
        · have hc9 := of_decide_eq_false hc9
          refine st_exit rfl ?_
          refine st_seq ?_
          refine st_region ?_
          refine sr_op rfl rfl (ow_fieldAddr fd28_2 ty22 rfl rfl (r := 2) rfl ?_)
          refine sr_op rfl rfl (ow_load (v := .slice Ao p.offices.length co) ty22 H rfl 2 rfl rfl rfl rfl ?_)
          refine sr_op rfl rfl (ow_fieldAddr fd28_4 ty26 rfl rfl (r := 4) rfl ?_)
          refine sr_op rfl rfl (ow_load (v := .agg #[.int .i64 p.change.kind, .int .i64 p.change.n, .int .i64 p.change.no, .string p.change.name, .slice Ac p.change.l.length cc]) ty26 H rfl 2 rfl rfl rfl rfl ?_)
          have hbd17 : p.change.pc ≤ 1000000 := pc_small hs1 change_in
          refine sr_op rfl rfl (ow_call en65 rfl (refResolved_c 1000000 (x := p.change) hbd17 (Nat.le_refl _) H hpo (ex_iff.2 ⟨_, rfl, hck, hcn, hcno, hcs, hcl⟩)) ?_)
          rintro _ _ ⟨I17, us17, hI17, H, rfl, hr17⟩
          obtain ⟨vr17, rfl, hrk17, hrn17, hro17, hrs17, hrl17⟩ := ex_iff.1 hr17
          obtain ⟨Ar17, cr17, rfl, _, _, hrl17⟩ := RepS.open_ hrl17
          have hpo := hpo.mono hI17
          have hpr := hpr.mono hI17
          have hcl := hcl.mono hI17
          have hpk := hpk.mono hI17
          have ha := ha.mono hI17
          refine sr_op rfl rfl (ow_fieldAddr fd28_4 ty26 rfl rfl (r := 4) rfl ?_)
          refine sr_op rfl rfl (ow_store ty26 H rfl (v := .agg #[.int .i64 ((resolveX p.offices p.change).kind), .int .i64 ((resolveX p.offices p.change).n), .int .i64 ((resolveX p.offices p.change).no), .string ((resolveX p.offices p.change).name), .slice Ar17 ((resolveX p.offices p.change).l.length) cr17]) rfl [.int .i64 ((resolveX p.offices p.change).kind), .int .i64 ((resolveX p.offices p.change).n), .int .i64 ((resolveX p.offices p.change).no), .string ((resolveX p.offices p.change).name), .slice Ar17 ((resolveX p.offices p.change).l.length) cr17] rfl rfl rfl 0 rfl rfl (fun _ H => ?_))
          refine sr_nil ?_
          refine st_seq ?_
          refine st_region ?_
          refine sr_op rfl rfl (ow_load (v := .agg #[.string p.name, .slice Ak p.kinds.length ck, .slice Ao p.offices.length co, .slice Aa na ca, .int .i64 ((resolveX p.offices p.change).kind), .int .i64 ((resolveX p.offices p.change).n), .int .i64 ((resolveX p.offices p.change).no), .string ((resolveX p.offices p.change).name), .slice Ar17 ((resolveX p.offices p.change).l.length) cr17, .int .i64 p.mode]) ty28 H rfl 0 rfl rfl rfl rfl ?_)
          refine sr_op rfl rfl (ow_store ty28 H rfl (v := .agg #[.string p.name, .slice Ak p.kinds.length ck, .slice Ao p.offices.length co, .slice Aa na ca, .int .i64 ((resolveX p.offices p.change).kind), .int .i64 ((resolveX p.offices p.change).n), .int .i64 ((resolveX p.offices p.change).no), .string ((resolveX p.offices p.change).name), .slice Ar17 ((resolveX p.offices p.change).l.length) cr17, .int .i64 p.mode]) rfl [.string p.name, .slice Ak p.kinds.length ck, .slice Ao p.offices.length co, .slice Aa na ca, .int .i64 ((resolveX p.offices p.change).kind), .int .i64 ((resolveX p.offices p.change).n), .int .i64 ((resolveX p.offices p.change).no), .string ((resolveX p.offices p.change).name), .slice Ar17 ((resolveX p.offices p.change).l.length) cr17, .int .i64 p.mode] rfl rfl rfl 1 rfl rfl (fun _ H => ?_))
          refine sr_op rfl rfl (ow_assign (v := .int .i64 0) rfl ?_)
          refine sr_nil ?_
          refine st_ret hb (hR _ _ (.tuple #[.agg #[.string p.name, .slice Ak p.kinds.length ck, .slice Ao p.offices.length co, .slice Aa na ca, .int .i64 ((resolveX p.offices p.change).kind), .int .i64 ((resolveX p.offices p.change).n), .int .i64 ((resolveX p.offices p.change).no), .string ((resolveX p.offices p.change).name), .slice Ar17 ((resolveX p.offices p.change).l.length) cr17, .int .i64 p.mode], .int .i64 0]) (res_run (vs := [.agg #[.string p.name, .slice Ak p.kinds.length ck, .slice Ao p.offices.length co, .slice Aa na ca, .int .i64 ((resolveX p.offices p.change).kind), .int .i64 ((resolveX p.offices p.change).n), .int .i64 ((resolveX p.offices p.change).no), .string ((resolveX p.offices p.change).name), .slice Ar17 ((resolveX p.offices p.change).l.length) cr17, .int .i64 p.mode], .int .i64 0]) Tryd.results20 ⟨_, _, rfl, resV_own (v := .agg #[.string p.name, .slice Ak p.kinds.length ck, .slice Ao p.offices.length co, .slice Aa na ca, .int .i64 ((resolveX p.offices p.change).kind), .int .i64 ((resolveX p.offices p.change).n), .int .i64 ((resolveX p.offices p.change).no), .string ((resolveX p.offices p.change).name), .slice Ar17 ((resolveX p.offices p.change).l.length) cr17, .int .i64 p.mode]) ty28 H rfl 1 rfl rfl rfl rfl, ⟨_, _, rfl, rfl, rfl⟩⟩) ?_)
          obtain ⟨I9, hI9, H, hr⟩ := Acc.done ha (H.drop 3)
          have ht : p.rules.take i = p.rules := List.take_of_length_le (by omega)
          rw [ht] at hr
          refine ⟨_, rfl, I9, _, (hI3.trans hI17).trans hI9, H, by rw [hok], ?_⟩
          rw [resP, if_pos hok]
          exact po_iff.2 ⟨_, _, _, _, rfl, hpn, hpk.mono hI9, hpo.mono hI9, hr, hrk17, hrn17, hro17, hrs17, hrl17.mono hI9, hpm⟩
end Go.Proofs.YtbbflenaeihmeaaDoor
