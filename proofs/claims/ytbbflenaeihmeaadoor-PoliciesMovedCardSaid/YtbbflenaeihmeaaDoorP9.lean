/-
  Walks: resolved, Resolve.
-/
import Derived.Test.YtbbflenaeihmeaaDoorP8
set_option linter.unusedVariables false
set_option linter.unusedSimpArgs false
set_option maxRecDepth 10000
set_option maxHeartbeats 4000000
namespace Go.Proofs.YtbbflenaeihmeaaDoor
open Go Go.RowKit

def resOk (off : List ByteArray) (q : Pt) : Bool := decide (q.1.no = (if isNamed q.1.kind = true then idx off q.1.name else 0))
def resolvedB (off : List ByteArray) (x : Ex) : Bool := (partsX x 1).all (resOk off)
def errOf (p : Po) : Int := if sizesB p = true then (if namesB p = true then (if formB p = true then 0 else 200) else 201) else 2
def ruR (off : List ByteArray) (i : Nat) (r : Ru) : Ru := ⟨r.kind, i, r.think, resolveX off r.expr⟩
def rulesR (off : List ByteArray) : List Ru → Nat → List Ru
  | [], _ => []
  | r :: l, i => ruR off i r :: rulesR off l (i + 1)
def resolveP (p : Po) : Po := ⟨p.name, p.kinds, p.offices, rulesR p.offices p.rules 0, resolveX p.offices p.change, p.mode⟩
def zeroEx : Ex := ⟨0, 0, 0, ⟨#[]⟩, []⟩
def zeroPo : Po := ⟨⟨#[]⟩, [], [], [], zeroEx, 0⟩
def resP (p : Po) : Po := if errOf p = 0 then resolveP p else zeroPo
mutual
theorem partsX_len : ∀ (x : Ex) (d : Nat), (partsX x d).length = x.pc
  | ⟨k, n, no, nm, l⟩, d => by simp only [partsX, Ex.pc, List.length_cons, partsXs_len l (d + 1)]; omega
theorem partsXs_len : ∀ (l : List Ex) (d : Nat), (partsXs l d).length = Ex.pcs l
  | [], _ => rfl
  | x :: l, d => by simp only [partsXs, Ex.pcs, List.length_append, partsX_len x d, partsXs_len l d]
end
theorem pc_small {p : Po} {x : Ex} (h : sizesB p = true) (hx : x ∈ exprs p) : x.pc ≤ 1000000 := by
  simp only [sizesB, Bool.and_eq_true] at h
  have := List.all_eq_true.1 h.2 x hx
  simp only [sizeB, Bool.and_eq_true, decide_eq_true_eq, partsX_len] at this
  omega
theorem rule_in {p : Po} {r : Ru} {i : Nat} (h : p.rules[i]? = some r) : r.expr ∈ exprs p := by
  unfold exprs
  exact List.mem_append_left _ (List.mem_map_of_mem (List.mem_of_getElem? h))
theorem change_in {p : Po} : p.change ∈ exprs p := by simp [exprs]
theorem rulesR_snoc (off : List ByteArray) (x : Ru) : ∀ (l : List Ru) (k : Nat), rulesR off (l ++ [x]) k = rulesR off l k ++ [ruR off (k + l.length) x]
  | [], k => by simp [rulesR]
  | r :: l, k => by
    simp only [List.cons_append, rulesR, rulesR_snoc off x l (k + 1), List.length_cons]
    rw [show k + 1 + l.length = k + (l.length + 1) by omega]
theorem rulesR_length (off : List ByteArray) : ∀ (l : List Ru) (k : Nat), (rulesR off l k).length = l.length
  | [], k => rfl
  | r :: l, k => by simp [rulesR, rulesR_length off l (k + 1)]
theorem err_ok {p : Po} (h : errOf p = 0) : sizesB p = true ∧ namesB p = true ∧ formB p = true := by
  unfold errOf at h
  split at h
  · split at h
    · split at h
      · exact ⟨by assumption, by assumption, by assumption⟩
      · cases h
    · cases h
  · cases h
theorem zero_rep (I : Im) : RepL I (encPo zeroPo) [.string ⟨#[]⟩, .slice none 0 0, .slice none 0 0, .slice none 0 0, .int .i64 0, .int .i64 0, .int .i64 0, .string ⟨#[]⟩, .slice none 0 0, .int .i64 0] :=
  po_iff.2 ⟨_, _, _, _, rfl, by unfold S63; decide, RepS.nil _ _ _, RepS.nil _ _ _, RepS.nil _ _ _, by unfold I64 zeroPo zeroEx; decide, by unfold I64 zeroPo zeroEx; decide, by unfold I64 zeroPo zeroEx; decide, by unfold S63 zeroPo zeroEx; decide, RepS.nil _ _ _, by unfold I64 zeroPo; decide⟩
theorem resolved_c {B I L w} (H : Hp B I w L) {off : List ByteArray} {x : Ex} {vo : Value} {us : List Value} (ho : RepS encS I 1 off vo) (hx : RepL I (encEx x) us) (hsx : sizeB x = true) : Calls Tryd.prog 68 #[vo, .agg us.toArray] w (Rt fun r w' => r = .bool (resolvedB off x) ∧ ∃ I', Le I I' ∧ Hp B I' w' L) := by
  obtain ⟨v, rfl, hxk, hxn, hxo, hxs, hxl⟩ := ex_iff.1 hx
  obtain ⟨A, c, rfl, hlc, hcm, hxl⟩ := RepS.open_ hxl
  obtain ⟨Ao, co, rfl, hol, hom, ho⟩ := RepS.open_ ho
  refine calls_st (n := 23) Tryd.func68 rfl rfl rfl ?_
  intro G bF cs hb hfn hR hP
  simp only [ini]
  refine st_seq ?_
  refine st_region ?_
  refine sr_op rfl rfl (ow_box H (v := .slice Ao off.length co) rfl [.slice Ao off.length co] rfl (fun g1 _ H => ?_))
  refine sr_op rfl rfl (ow_box H (v := .agg #[.int .i64 x.kind, .int .i64 x.n, .int .i64 x.no, .string x.name, .slice A x.l.length c]) rfl [.int .i64 x.kind, .int .i64 x.n, .int .i64 x.no, .string x.name, .slice A x.l.length c] rfl (fun g2 _ H => ?_))
  refine sr_op rfl rfl (ow_alloc ty4 H [.bool false] rfl (fun g3 _ H => ?_))
  refine sr_nil ?_
  refine st_seq ?_
  refine st_seq ?_
  refine st_region ?_
  refine sr_op rfl rfl (ow_load (v := .agg #[.int .i64 x.kind, .int .i64 x.n, .int .i64 x.no, .string x.name, .slice A x.l.length c]) ty26 H rfl 1 rfl rfl rfl rfl ?_)
  refine sr_op rfl rfl (ow_call en95 rfl (parts_c H (ex_iff.2 ⟨_, rfl, hxk, hxn, hxo, hxs, hxl⟩) _) ?_)
  rintro _ _ ⟨I3, gx2, gd2, hI3, H, rfl, hax2, had2⟩
  have ho := ho.mono hI3
  have hxl := hxl.mono hI3
  refine sr_nil ?_
  refine st_block ?_
  refine st_range (f := 116) (cap := [.pointer (some ⟨gx2, 0, none⟩), .pointer (some ⟨gd2, 0, none⟩)]) (parts_it _ (x := x) (d := 1) (Nat.le_refl _) hax2 (ex_iff.2 ⟨_, rfl, hxk, hxn, hxo, hxs, hxl⟩) had2 (by omega)) hb hfn Tryd.func68 rfl en116 [(g3, Ob [.bool false] 4), (g2, Ob [.int .i64 x.kind, .int .i64 x.n, .int .i64 x.no, .string x.name, .slice A x.l.length c] 26), (g1, Ob [.slice Ao off.length co] 22)] (dfs [] ++ L) H (fun pre_ I_ L_ => L_ = [(g3, Ob [.bool false] 4), (g2, Ob [.int .i64 x.kind, .int .i64 x.n, .int .i64 x.no, .string x.name, .slice A x.l.length c] 26), (g1, Ob [.slice Ao off.length co] 22)] ∧ pre_.all (resOk off) = true ∧ ∀ q_, q_ ∈ pre_ → q_.2 ≤ 1000000) (fun c_ I_ L_ => c_ = .ret ∧ L_ = [(g3, Ob [.bool false] 4), (g2, Ob [.int .i64 x.kind, .int .i64 x.n, .int .i64 x.no, .string x.name, .slice A x.l.length c] 26), (g1, Ob [.slice Ao off.length co] 22)] ∧ resolvedB off x = false) (fun ch_ I_ L_ => False) ⟨rfl, rfl, fun _ h_ => by cases h_⟩ (fun pre_ q_ I_ L_ h_ => h_.2.2 q_ (by simp)) (fun pre_ I_ I_' L_ hle_ h_ => h_) ?_ ?_ ?_ ?_
  · intro pre4 q4 us4 I14 Lx4 Lo4 _ l4 rc4 G1 b1 cs1 hpre hle hJ hr hb1 E H
    obtain ⟨rfl, hJa, hJb⟩ := hJ
    obtain ⟨vq, rfl, hqk, hqn, hqo, hqs, hql, hqd⟩ := pt_iff.1 hr
    obtain ⟨Aq, cq, rfl, _, _, hql⟩ := RepS.open_ hql
    have hle9 := hle
    have ho := ho.mono hle
    have hxl := hxl.mono hle
    refine st_region ?_
    refine sr_op rfl rfl (ow_alloc ty110 H [.int .i64 0, .int .i64 0, .int .i64 0, .string ⟨#[]⟩, .slice none 0 0, .int .i64 0] rfl (fun g5 _ H => ?_))
    refine sr_op rfl rfl (ow_store ty110 H rfl (v := .agg #[.int .i64 q4.1.kind, .int .i64 q4.1.n, .int .i64 q4.1.no, .string q4.1.name, .slice Aq q4.1.l.length cq, .int .i64 (q4.2 : Int)]) rfl [.int .i64 q4.1.kind, .int .i64 q4.1.n, .int .i64 q4.1.no, .string q4.1.name, .slice Aq q4.1.l.length cq, .int .i64 (q4.2 : Int)] rfl rfl rfl 0 rfl rfl (fun _ H => ?_))
    refine sr_nil ?_
    refine st_begin hb1 H 1 rfl rfl (fun _ H => ?_)
    refine st_block ?_
    refine st_seq ?_
    refine st_region ?_
    refine sr_op rfl rfl (ow_assign (v := .int .i64 0) rfl ?_)
    refine sr_nil ?_
    refine st_seq ?_
    refine st_seq ?_
    refine st_region ?_
    refine sr_op rfl rfl (ow_fieldAddr fd110_0 ty26 rfl rfl (r := 0) rfl ?_)
    refine sr_op rfl rfl (ow_load (v := .agg #[.int .i64 q4.1.kind, .int .i64 q4.1.n, .int .i64 q4.1.no, .string q4.1.name, .slice Aq q4.1.l.length cq]) ty26 H rfl 0 rfl rfl rfl rfl ?_)
    refine sr_op rfl rfl (ow_call en98 rfl (isNamed_c H q4.1.kind q4.1.n q4.1.no q4.1.name (.slice Aq q4.1.l.length cq)) ?_)
    rintro _ _ ⟨rfl, H⟩
    refine sr_nil ?_
    refine st_cut (fun m_ w_ => ∃ (r_ : Sl), m_ = (4, .pointer (some ⟨g3, 0, none⟩)) :: (5, .pointer (some ⟨g5, 0, none⟩)) :: (6, .int .i64 (if isNamed q4.1.kind = true then idx off q4.1.name else 0)) :: r_ ∧ Hp B I14 w_ ((g5, Ob [.int .i64 q4.1.kind, .int .i64 q4.1.n, .int .i64 q4.1.no, .string q4.1.name, .slice Aq q4.1.l.length cq, .int .i64 (q4.2 : Int)] 110) :: (l4, .loop (rcS rc4 .busy none)) :: (g3, Ob [.bool false] 4) :: (g2, Ob [.int .i64 x.kind, .int .i64 x.n, .int .i64 x.no, .string x.name, .slice A x.l.length c] 26) :: (g1, Ob [.slice Ao off.length co] 22) :: Lx4)) (fun again => ?_) ?_
    · refine st_cond (isNamed q4.1.kind) rfl (fun hc6 => ?_) (fun hc6 => ?_)
      · rw [if_pos hc6] at again
        refine st_region ?_
        refine sr_op rfl rfl (ow_load (v := .slice Ao off.length co) ty22 H rfl 4 rfl rfl rfl rfl ?_)
        refine sr_op rfl rfl (ow_fieldAddr fd110_0 ty26 rfl rfl (r := 0) rfl ?_)
        refine sr_op rfl rfl (ow_fieldAddr fd26_3 ty9 rfl rfl (r := 3) rfl ?_)
        refine sr_op rfl rfl (ow_load (v := .string q4.1.name) ty9 H rfl 0 rfl rfl rfl rfl ?_)
        refine sr_op rfl rfl (ow_call en100 rfl (index_c H ho q4.1.name) ?_)
        rintro _ _ ⟨rfl, H⟩
        refine sr_op rfl rfl (ow_assign (v := .int .i64 (idx off q4.1.name)) rfl ?_)
        refine sr_nil ?_
        exact st_live [4, 5, 6] (again _ _ ⟨_, rfl, H⟩)
      · rw [if_neg (by rw [hc6]; decide)] at again
        refine st_skip ?_
        exact st_live [4, 5, 6] (again _ _ ⟨_, rfl, H⟩)
    rintro _ _ ⟨r7, rfl, H⟩
    refine st_seq ?_
    refine st_region ?_
    refine sr_op rfl rfl (ow_fieldAddr fd110_0 ty26 rfl rfl (r := 0) rfl ?_)
    refine sr_op rfl rfl (ow_fieldAddr fd26_2 ty3 rfl rfl (r := 2) rfl ?_)
    refine sr_op rfl rfl (ow_load (v := .int .i64 q4.1.no) ty3 H rfl 0 rfl rfl rfl rfl ?_)
    refine sr_op rfl rfl (ow_move (v := .int .i64 (if isNamed q4.1.kind = true then idx off q4.1.name else 0)) rfl ?_)
    refine sr_op rfl rfl (ow_neq rfl rfl ?_)
    refine sr_nil ?_
    refine st_cond (!decide (q4.1.no = (if isNamed q4.1.kind = true then idx off q4.1.name else 0))) rfl (fun hc8 => ?_) (fun hc8 => ?_)
    · refine st_seq ?_
      refine st_region ?_
      refine sr_op rfl rfl (ow_store ty4 H rfl (v := .bool false) rfl [.bool false] rfl rfl rfl 2 rfl rfl (fun _ H => ?_))
      refine sr_nil ?_
      exact E.ret (Lo := [(g3, Ob [.bool false] 4), (g2, Ob [.int .i64 x.kind, .int .i64 x.n, .int .i64 x.no, .string x.name, .slice A x.l.length c] 26), (g1, Ob [.slice Ao off.length co] 22)]) (Le.refl _) (H.drop 1) ⟨rfl, rfl, part_no hpre (by unfold resOk; exact bnt hc8)⟩
    · refine st_skip ?_
      refine st_inBlock ?_
      exact E.on (Lo := [(g3, Ob [.bool false] 4), (g2, Ob [.int .i64 x.kind, .int .i64 x.n, .int .i64 x.no, .string x.name, .slice A x.l.length c] 26), (g1, Ob [.slice Ao off.length co] 22)]) (Le.refl _) (H.drop 1) ⟨rfl, all_snoc hJa (by unfold resOk; exact bnf hc8), mem_snoc hJb (depth_in hsx hpre)⟩
  · intro r2 I2 Lo2 _ hle2 hJ2 H
    obtain ⟨rfl, hJa, hJb⟩ := hJ2
    have H : Hp B I2 _ ((g3, Ob [.bool false] 4) :: (g2, Ob [.int .i64 x.kind, .int .i64 x.n, .int .i64 x.no, .string x.name, .slice A x.l.length c] 26) :: (g1, Ob [.slice Ao off.length co] 22) :: (dfs (r2 :: []) ++ L)) := H.perm (List.perm_middle (l₁ := [(g3, Ob [.bool false] 4), (g2, Ob [.int .i64 x.kind, .int .i64 x.n, .int .i64 x.no, .string x.name, .slice A x.l.length c] 26), (g1, Ob [.slice Ao off.length co] 22)]))
    have hI9 := hI3.trans hle2
    have ho := ho.mono hle2
    have hxl := hxl.mono hle2
    refine st_inBlock ?_
    refine st_seq ?_
    refine st_region ?_
    refine sr_op rfl rfl (ow_store ty4 H rfl (v := .bool true) rfl [.bool true] rfl rfl rfl 0 rfl rfl (fun _ H => ?_))
    refine sr_nil ?_
    exact st_ret hb (rn_marks (r2 :: []) (ds := []) (fun _ H => hR _ _ (.bool true) (res_run (vs := [.bool true]) Tryd.results68 ⟨_, _, rfl, resV_own (v := .bool true) ty4 H rfl 0 rfl rfl rfl rfl, rfl⟩) ⟨_, rfl, by rw [resolvedB, hJa], I2, hI9, H.drop 3⟩) (H.perm (List.perm_middle (l₁ := [(g3, Ob [.bool true] 4), (g2, Ob [.int .i64 x.kind, .int .i64 x.n, .int .i64 x.no, .string x.name, .slice A x.l.length c] 26), (g1, Ob [.slice Ao off.length co] 22)])).symm))
  · intro r2 c2 I2 Lo2 _ hle2 hS2 H
    obtain ⟨rfl, rfl, hno⟩ := hS2
    have H : Hp B I2 _ ((g3, Ob [.bool false] 4) :: (g2, Ob [.int .i64 x.kind, .int .i64 x.n, .int .i64 x.no, .string x.name, .slice A x.l.length c] 26) :: (g1, Ob [.slice Ao off.length co] 22) :: (dfs (r2 :: []) ++ L)) := H.perm (List.perm_middle (l₁ := [(g3, Ob [.bool false] 4), (g2, Ob [.int .i64 x.kind, .int .i64 x.n, .int .i64 x.no, .string x.name, .slice A x.l.length c] 26), (g1, Ob [.slice Ao off.length co] 22)]))
    have hI9 := hI3.trans hle2
    exact st_ret hb (rn_marks (r2 :: []) (ds := []) (fun _ H => hR _ _ (.bool false) (res_run (vs := [.bool false]) Tryd.results68 ⟨_, _, rfl, resV_own (v := .bool false) ty4 H rfl 0 rfl rfl rfl rfl, rfl⟩) ⟨_, rfl, by rw [hno], I2, hI9, H.drop 3⟩) (H.perm (List.perm_middle (l₁ := [(g3, Ob [.bool false] 4), (g2, Ob [.int .i64 x.kind, .int .i64 x.n, .int .i64 x.no, .string x.name, .slice A x.l.length c] 26), (g1, Ob [.slice Ao off.length co] 22)])).symm))
  · intro r2 ch2 I2 Lo2 _ hle2 hT2 H
    have H : Hp B I2 _ (dfs (r2 :: []) ++ L) := H.sub ((List.sublist_append_right _ _).cons_cons _)
    have hI9 := hI3.trans hle2
    exact hT2.elim
theorem resolve1_c {B I L w} (H : Hp B I w L) {p : Po} {us : List Value} {g : Nat} (hp : RepL I (encPo p) us) (hat : At I g 0 us) (hg : At I 0 0 kindsV) : Calls Tryd.prog 57 #[.pointer (some ⟨g, 0, none⟩)] w (fun q w' => ∃ I', Le I I' ∧ Hp B I' w' L ∧ ((∃ v, q = .returned v ∧ errOf p = 0) ∨ q = .panicked (stopV (errOf p)))) := by
  have hp0 := hp
  obtain ⟨v1, v2, v3, v4, rfl, hpn, hpk, hpo, hpr, hck, hcn, hcno, hcs, hcl, hpm⟩ := po_iff.1 hp
  obtain ⟨Ak, ck, rfl, hckl, hckm, hpk⟩ := RepS.open_ hpk
  obtain ⟨Ao, co, rfl, hcol, hcom, hpo⟩ := RepS.open_ hpo
  obtain ⟨Ar, cr, rfl, hcrl, hcrm, hpr⟩ := RepS.open_ hpr
  obtain ⟨Ac, cc, rfl, hccl, hccm, hcl⟩ := RepS.open_ hcl
  refine calls_st (n := 7) Tryd.func57 rfl rfl rfl ?_
  intro G bF cs hb hfn hR hP
  simp only [ini]
  refine st_seq ?_
  refine st_region ?_
  refine sr_op rfl rfl (ow_loadI (v := .agg #[.string p.name, .slice Ak p.kinds.length ck, .slice Ao p.offices.length co, .slice Ar p.rules.length cr, .int .i64 p.change.kind, .int .i64 p.change.n, .int .i64 p.change.no, .string p.change.name, .slice Ac p.change.l.length cc, .int .i64 p.mode]) ty28 H rfl hat rfl rfl rfl ?_)
  refine sr_op rfl rfl (ow_enter (run_callF en58 rfl) (sizes_c H hp0) ?_ ?_ (fun _ h => by obtain ⟨_, _, _, ⟨h, _⟩ | ⟨h, _⟩⟩ := h <;> cases h))
  rotate_left
  · rintro ch _ ⟨I2, hI2, H, ⟨h, _⟩ | ⟨h, hs1⟩⟩
    · cases h
    · cases h
      exact (hP _ _ ⟨I2, hI2, H, .inr (by rw [show errOf p = 2 by simp [errOf, hs1]])⟩).one
  rintro _ _ ⟨I2, hI2, H, ⟨h, hs1⟩ | ⟨h, _⟩⟩
  rotate_left
  · cases h
  cases h
  have hp0 := hp0.mono hI2
  have hat := hat.mono hI2
  have hg := hg.mono hI2
  refine sr_nil ?_
  refine st_seq ?_
  refine st_region ?_
  refine sr_op rfl rfl (ow_loadI (v := .agg #[.string p.name, .slice Ak p.kinds.length ck, .slice Ao p.offices.length co, .slice Ar p.rules.length cr, .int .i64 p.change.kind, .int .i64 p.change.n, .int .i64 p.change.no, .string p.change.name, .slice Ac p.change.l.length cc, .int .i64 p.mode]) ty28 H rfl hat rfl rfl rfl ?_)
  refine sr_op rfl rfl (ow_enter (run_callF en59 rfl) (names_c H hp0 hs1) ?_ ?_ (fun _ h => by obtain ⟨_, _, _, ⟨h, _⟩ | ⟨h, _⟩⟩ := h <;> cases h))
  rotate_left
  · rintro ch _ ⟨I3, hI3, H, ⟨h, _⟩ | ⟨h, hs2⟩⟩
    · cases h
    · cases h
      exact (hP _ _ ⟨I3, (hI2.trans hI3), H, .inr (by rw [show errOf p = 201 by simp [errOf, hs1, hs2]])⟩).one
  rintro _ _ ⟨I3, hI3, H, ⟨h, hs2⟩ | ⟨h, _⟩⟩
  rotate_left
  · cases h
  cases h
  have hp0 := hp0.mono hI3
  have hat := hat.mono hI3
  have hg := hg.mono hI3
  refine sr_nil ?_
  refine st_region ?_
  refine sr_op rfl rfl (ow_loadI (v := .agg #[.string p.name, .slice Ak p.kinds.length ck, .slice Ao p.offices.length co, .slice Ar p.rules.length cr, .int .i64 p.change.kind, .int .i64 p.change.n, .int .i64 p.change.no, .string p.change.name, .slice Ac p.change.l.length cc, .int .i64 p.mode]) ty28 H rfl hat rfl rfl rfl ?_)
  refine sr_op rfl rfl (ow_enter (run_callF en60 rfl) (form_c H hp0 hg hs1) ?_ ?_ (fun _ h => by obtain ⟨_, _, _, ⟨h, _⟩ | ⟨h, _⟩⟩ := h <;> cases h))
  rotate_left
  · rintro ch _ ⟨I4, hI4, H, ⟨h, _⟩ | ⟨h, hs3⟩⟩
    · cases h
    · cases h
      exact (hP _ _ ⟨I4, ((hI2.trans hI3).trans hI4), H, .inr (by rw [show errOf p = 200 by simp [errOf, hs1, hs2, hs3]])⟩).one
  rintro _ _ ⟨I4, hI4, H, ⟨h, hs3⟩ | ⟨h, _⟩⟩
  rotate_left
  · cases h
  cases h
  have hp0 := hp0.mono hI4
  have hat := hat.mono hI4
  have hg := hg.mono hI4
  refine sr_nil ?_
  refine st_end hb (hR _ _ (.tuple #[]) (res_run (vs := []) Tryd.results57 rfl) ?_)
  exact ⟨I4, ((hI2.trans hI3).trans hI4), H, .inl ⟨_, rfl, by simp [errOf, hs1, hs2, hs3]⟩⟩
theorem Resolve_c {B I L w} (H : Hp B I w L) {p : Po} {us : List Value} (hp : RepL I (encPo p) us) (hg : At I 0 0 kindsV) : Calls Tryd.prog 19 #[.agg us.toArray] w (Rt fun r w' => ∃ I' us', Le I I' ∧ Hp B I' w' L ∧ r = .tuple #[.agg us'.toArray, .int .i64 (errOf p)] ∧ RepL I' (encPo (resP p)) us') := by
  have hp0 := hp
  obtain ⟨v1, v2, v3, v4, rfl, hpn, hpk, hpo, hpr, hck, hcn, hcno, hcs, hcl, hpm⟩ := po_iff.1 hp
  obtain ⟨Ak, ck, rfl, hckl, hckm, hpk⟩ := RepS.open_ hpk
  obtain ⟨Ao, co, rfl, hcol, hcom, hpo⟩ := RepS.open_ hpo
  obtain ⟨Ar, cr, rfl, hcrl, hcrm, hpr⟩ := RepS.open_ hpr
  obtain ⟨Ac, cc, rfl, hccl, hccm, hcl⟩ := RepS.open_ hcl
  refine calls_st (n := 44) Tryd.func19 rfl rfl rfl ?_
  intro G bF cs hb hfn hR hP
  simp only [ini]
  refine st_seq ?_
  refine st_region ?_
  refine sr_op rfl rfl (ow_box H (v := .agg #[.string p.name, .slice Ak p.kinds.length ck, .slice Ao p.offices.length co, .slice Ar p.rules.length cr, .int .i64 p.change.kind, .int .i64 p.change.n, .int .i64 p.change.no, .string p.change.name, .slice Ac p.change.l.length cc, .int .i64 p.mode]) rfl [.string p.name, .slice Ak p.kinds.length ck, .slice Ao p.offices.length co, .slice Ar p.rules.length cr, .int .i64 p.change.kind, .int .i64 p.change.n, .int .i64 p.change.no, .string p.change.name, .slice Ac p.change.l.length cc, .int .i64 p.mode] rfl (fun g1 _ H => ?_))
  refine sr_op rfl rfl (ow_alloc ty28 H [.string ⟨#[]⟩, .slice none 0 0, .slice none 0 0, .slice none 0 0, .int .i64 0, .int .i64 0, .int .i64 0, .string ⟨#[]⟩, .slice none 0 0, .int .i64 0] rfl (fun g2 _ H => ?_))
  refine sr_op rfl rfl (ow_assign (v := .int .i64 0) rfl ?_)
  refine sr_nil ?_
  refine st_seq ?_
  refine st_region ?_
  refine sr_op rfl rfl (ow_makeFunc (fv := []) (cv := [.pointer (some ⟨g1, 0, none⟩)]) rfl rfl ?_)
  have hgn := H.sep _ (List.mem_cons_of_mem _ (List.mem_cons_self ..))
  have H := (H.perm (List.Perm.swap _ _ _)).freeze
  have hI1 : Le I (I.put g1 (Ob [.string p.name, .slice Ak p.kinds.length ck, .slice Ao p.offices.length co, .slice Ar p.rules.length cr, .int .i64 p.change.kind, .int .i64 p.change.n, .int .i64 p.change.no, .string p.change.name, .slice Ac p.change.l.length cc, .int .i64 p.mode] 28)) := Im.le_put hgn
  have hat := at_ob (Im.at_put I g1 (Ob [.string p.name, .slice Ak p.kinds.length ck, .slice Ao p.offices.length co, .slice Ar p.rules.length cr, .int .i64 p.change.kind, .int .i64 p.change.n, .int .i64 p.change.no, .string p.change.name, .slice Ac p.change.l.length cc, .int .i64 p.mode] 28))
  generalize hI1e : I.put g1 (Ob [.string p.name, .slice Ak p.kinds.length ck, .slice Ao p.offices.length co, .slice Ar p.rules.length cr, .int .i64 p.change.kind, .int .i64 p.change.n, .int .i64 p.change.no, .string p.change.name, .slice Ac p.change.l.length cc, .int .i64 p.mode] 28) = I1 at hI1 hat H
  clear hI1e
  have hp0 := hp0.mono hI1
  have hg := hg.mono hI1
  have hpk := hpk.mono hI1
  have hpo := hpo.mono hI1
  have hpr := hpr.mono hI1
  have hcl := hcl.mono hI1
  have hat0 := hat
  refine sr_op rfl rfl (ow_call en56 rfl (attempt_c H en57 (cap := [.pointer (some ⟨g1, 0, none⟩)]) (errOf p) (fun g9 w9 H9 => resolve1_c H9 hp0 hat hg)) ?_)
  rintro _ _ ⟨rfl, I2, hI2, H⟩
  have hp0 := hp0.mono hI2
  have hg := hg.mono hI2
  have hat := hat.mono hI2
  have hpk := hpk.mono hI2
  have hpo := hpo.mono hI2
  have hpr := hpr.mono hI2
  have hcl := hcl.mono hI2
  refine sr_op rfl rfl (ow_assign (v := .int .i64 (errOf p)) rfl ?_)
  refine sr_nil ?_
  refine st_seq ?_
  refine st_seq ?_
  refine st_region ?_
  refine sr_op rfl rfl (ow_move (v := .int .i64 (errOf p)) rfl ?_)
  refine sr_op rfl rfl (ow_neq rfl rfl ?_)
  refine sr_nil ?_
  refine st_cond (!decide (errOf p = 0)) rfl (fun hc3 => ?_) (fun hc3 => ?_)
  · have hne := of_decide_eq_false (bnt hc3)
    refine st_seq ?_
    refine st_region ?_
    refine sr_op rfl rfl (ow_load (v := .agg #[.string ⟨#[]⟩, .slice none 0 0, .slice none 0 0, .slice none 0 0, .int .i64 0, .int .i64 0, .int .i64 0, .string ⟨#[]⟩, .slice none 0 0, .int .i64 0]) ty28 H rfl 0 rfl rfl rfl rfl ?_)
    refine sr_op rfl rfl (ow_move (v := .int .i64 (errOf p)) rfl ?_)
    refine sr_op rfl rfl (ow_store ty28 H rfl (v := .agg #[.string ⟨#[]⟩, .slice none 0 0, .slice none 0 0, .slice none 0 0, .int .i64 0, .int .i64 0, .int .i64 0, .string ⟨#[]⟩, .slice none 0 0, .int .i64 0]) rfl [.string ⟨#[]⟩, .slice none 0 0, .slice none 0 0, .slice none 0 0, .int .i64 0, .int .i64 0, .int .i64 0, .string ⟨#[]⟩, .slice none 0 0, .int .i64 0] rfl rfl rfl 0 rfl rfl (fun _ H => ?_))
    refine sr_op rfl rfl (ow_assign (v := .int .i64 (errOf p)) rfl ?_)
    refine sr_nil ?_
    refine st_ret hb (hR _ _ (.tuple #[.agg #[.string ⟨#[]⟩, .slice none 0 0, .slice none 0 0, .slice none 0 0, .int .i64 0, .int .i64 0, .int .i64 0, .string ⟨#[]⟩, .slice none 0 0, .int .i64 0], .int .i64 (errOf p)]) (res_run (vs := [.agg #[.string ⟨#[]⟩, .slice none 0 0, .slice none 0 0, .slice none 0 0, .int .i64 0, .int .i64 0, .int .i64 0, .string ⟨#[]⟩, .slice none 0 0, .int .i64 0], .int .i64 (errOf p)]) Tryd.results19 ⟨_, _, rfl, resV_own (v := .agg #[.string ⟨#[]⟩, .slice none 0 0, .slice none 0 0, .slice none 0 0, .int .i64 0, .int .i64 0, .int .i64 0, .string ⟨#[]⟩, .slice none 0 0, .int .i64 0]) ty28 H rfl 0 rfl rfl rfl rfl, ⟨_, _, rfl, rfl, rfl⟩⟩) ?_)
    exact ⟨_, rfl, I2, _, hI1.trans hI2, H.drop 1, rfl, by rw [resP, if_neg hne]; exact zero_rep _⟩
  · have hok := of_decide_eq_true (bnf hc3)
    obtain ⟨hs1, hs2, hs3⟩ := err_ok hok
    obtain ⟨hlo, hlk, hlr⟩ := sizes_len hs1
    refine st_skip ?_
    refine st_seq ?_
    refine st_region ?_
    refine sr_op rfl rfl (ow_loadI (v := .agg #[.string p.name, .slice Ak p.kinds.length ck, .slice Ao p.offices.length co, .slice Ar p.rules.length cr, .int .i64 p.change.kind, .int .i64 p.change.n, .int .i64 p.change.no, .string p.change.name, .slice Ac p.change.l.length cc, .int .i64 p.mode]) ty28 H rfl hat rfl rfl rfl ?_)
    refine sr_op rfl rfl (ow_store ty28 H rfl (v := .agg #[.string p.name, .slice Ak p.kinds.length ck, .slice Ao p.offices.length co, .slice Ar p.rules.length cr, .int .i64 p.change.kind, .int .i64 p.change.n, .int .i64 p.change.no, .string p.change.name, .slice Ac p.change.l.length cc, .int .i64 p.mode]) rfl [.string p.name, .slice Ak p.kinds.length ck, .slice Ao p.offices.length co, .slice Ar p.rules.length cr, .int .i64 p.change.kind, .int .i64 p.change.n, .int .i64 p.change.no, .string p.change.name, .slice Ac p.change.l.length cc, .int .i64 p.mode] rfl rfl rfl 0 rfl rfl (fun _ H => ?_))
    refine sr_nil ?_
    refine st_seq ?_
    refine st_region ?_
    refine sr_op rfl rfl (ow_fieldAddr fd28_3 ty23 rfl rfl (r := 3) rfl ?_)
    refine sr_op rfl rfl (ow_store ty23 H rfl (v := .slice none 0 0) rfl [.slice none 0 0] rfl rfl rfl 0 rfl rfl (fun _ H => ?_))
    refine sr_nil ?_
    refine st_seq ?_
    refine st_seq ?_
    refine st_region ?_
    refine sr_op rfl rfl (ow_fieldAddr fd28_3 ty23 rfl rfl (r := 0 + 3) rfl ?_)
    refine sr_op rfl rfl (ow_loadI (v := .slice Ar p.rules.length cr) ty23 H rfl (At.sub (vs := [.slice Ar p.rules.length cr]) hat 3 rfl) rfl rfl rfl ?_)
    refine sr_op rfl rfl (ow_lenS sl23 rfl rfl ?_)
    refine sr_op rfl rfl (ow_move (v := .int .i64 0) rfl ?_)
    refine sr_nil ?_
    refine st_block ?_
    refine st_loop ?_
    refine st_live [1, 2, 3, 15, 16, 17] ?_
    refine st_ind (fun d_ m_ w_ => ∃ (i : Nat) (I3 : Im) (Aa : Option Addr) (na ca : Nat) (cs_ : List Value) (r_ : Sl), d_ = p.rules.length - i ∧ m_ = (1, .pointer (some ⟨g1, 0, none⟩)) :: (2, .pointer (some ⟨g2, 0, none⟩)) :: (3, .int .i64 (errOf p)) :: (15, .slice Ar p.rules.length cr) :: (16, .int .i64 (p.rules.length : Int)) :: (17, .int .i64 (i : Int)) :: r_ ∧ Hp B I3 w_ ((g2, Ob [.string p.name, .slice Ak p.kinds.length ck, .slice Ao p.offices.length co, .slice Aa na ca, .int .i64 p.change.kind, .int .i64 p.change.n, .int .i64 p.change.no, .string p.change.name, .slice Ac p.change.l.length cc, .int .i64 p.mode] 28) :: (rowL (.slice Aa na ca) cs_ 43 ++ L)) ∧ i ≤ p.rules.length ∧ Le I2 I3 ∧ Acc I3 8 (.slice Aa na ca) cs_ ((rulesR p.offices (p.rules.take i) 0).map encRu)) _ ⟨0, I2, none, 0, 0, [], _, rfl, rfl, H, Nat.zero_le _, Le.refl _, Acc.none_ _ _ _⟩ ?_
    rintro _ _ _ ⟨i, I3, Aa, na, ca, cs_, r4, rfl, rfl, H, hi, hI3, ha⟩ ih5
    have hpo := hpo.mono hI3
    have hpr := hpr.mono hI3
    have hcl := hcl.mono hI3
    have hat := hat.mono hI3
    have hg := hg.mono hI3
    refine st_seq ?_
    refine st_region ?_
    refine sr_op rfl rfl (ow_lss rfl rfl ?_)
    refine sr_nil ?_
    refine st_seq ?_
    refine st_cond (decide ((i : Int) < (p.rules.length : Int))) rfl (fun hc6 => ?_) (fun hc6 => ?_)
    · have hc6 := of_decide_eq_true hc6
      refine st_skip ?_
      refine st_seq ?_
      refine st_block ?_
      refine st_seq ?_
      refine st_region ?_
      refine sr_op rfl rfl (ow_move (v := .int .i64 (i : Int)) rfl ?_)
      obtain ⟨r7, he7⟩ : ∃ q_, p.rules[i]? = some q_ := ⟨_, List.getElem?_eq_getElem (by omega)⟩
      obtain ⟨b7, o7, us7, hA7, hat7, hul7, hr7⟩ := RepS.get hpr he7
      obtain ⟨v7, rfl, r7K, r7Kn, r7Th, r7k, r7n, r7o, r7s, r7l⟩ := ru_iff.1 hr7
      obtain ⟨A7, c7, rfl, r7c, r7m, r7l⟩ := RepS.open_ r7l
      refine sr_op rfl rfl (ow_indexAddrA sl23 ty43 hA7 rfl rfl (by omega) (by omega) (r := o7 + i * 8) rfl ?_)
      refine sr_op rfl rfl (ow_loadI (v := .agg #[.string r7.kind, .int .i64 r7.kindNo, .int .i64 r7.think, .int .i64 r7.expr.kind, .int .i64 r7.expr.n, .int .i64 r7.expr.no, .string r7.expr.name, .slice A7 r7.expr.l.length c7]) ty43 H rfl hat7 rfl rfl rfl ?_)
      refine sr_op rfl rfl (ow_alloc ty43 H [.string ⟨#[]⟩, .int .i64 0, .int .i64 0, .int .i64 0, .int .i64 0, .int .i64 0, .string ⟨#[]⟩, .slice none 0 0] rfl (fun g8 _ H => ?_))
      refine sr_op rfl rfl (ow_assign (v := .int .i64 (i : Int)) rfl ?_)
      refine sr_op rfl rfl (ow_store ty43 H rfl (v := .agg #[.string r7.kind, .int .i64 r7.kindNo, .int .i64 r7.think, .int .i64 r7.expr.kind, .int .i64 r7.expr.n, .int .i64 r7.expr.no, .string r7.expr.name, .slice A7 r7.expr.l.length c7]) rfl [.string r7.kind, .int .i64 r7.kindNo, .int .i64 r7.think, .int .i64 r7.expr.kind, .int .i64 r7.expr.n, .int .i64 r7.expr.no, .string r7.expr.name, .slice A7 r7.expr.l.length c7] rfl rfl rfl 0 rfl rfl (fun _ H => ?_))
      refine sr_nil ?_
      refine st_seq ?_
      refine st_region ?_
      refine sr_op rfl rfl (ow_move (v := .int .i64 (i : Int)) rfl ?_)
      refine sr_op rfl rfl (ow_fieldAddr fd28_2 ty22 rfl rfl (r := 0 + 2) rfl ?_)
      refine sr_op rfl rfl (ow_loadI (v := .slice Ao p.offices.length co) ty22 H rfl (At.sub (vs := [.slice Ao p.offices.length co]) hat 2 rfl) rfl rfl rfl ?_)
      refine sr_op rfl rfl (ow_fieldAddr fd43_3 ty26 rfl rfl (r := 3) rfl ?_)
      refine sr_op rfl rfl (ow_load (v := .agg #[.int .i64 r7.expr.kind, .int .i64 r7.expr.n, .int .i64 r7.expr.no, .string r7.expr.name, .slice A7 r7.expr.l.length c7]) ty26 H rfl 0 rfl rfl rfl rfl ?_)
      have hbd9 : r7.expr.pc ≤ 1000000 := pc_small hs1 (rule_in he7)
      refine sr_op rfl rfl (ow_call en61 rfl (resolve_c 1000000 (x := r7.expr) hbd9 (Nat.le_refl _) H hpo (ex_iff.2 ⟨_, rfl, r7k, r7n, r7o, r7s, r7l⟩)) ?_)
      rintro _ _ ⟨I9, us9, hI9, H, rfl, hr9⟩
      obtain ⟨vr9, rfl, hrk9, hrn9, hro9, hrs9, hrl9⟩ := ex_iff.1 hr9
      obtain ⟨Ar9, cr9, rfl, _, _, hrl9⟩ := RepS.open_ hrl9
      have hpo := hpo.mono hI9
      have hpr := hpr.mono hI9
      have hcl := hcl.mono hI9
      have hat := hat.mono hI9
      have hg := hg.mono hI9
      have ha := ha.mono hI9
      refine sr_op rfl rfl (ow_fieldAddr fd43_1 ty3 rfl rfl (r := 1) rfl ?_)
      refine sr_op rfl rfl (ow_store ty3 H rfl (v := .int .i64 (i : Int)) rfl [.int .i64 (i : Int)] rfl rfl rfl 0 rfl rfl (fun _ H => ?_))
      refine sr_op rfl rfl (ow_fieldAddr fd43_3 ty26 rfl rfl (r := 3) rfl ?_)
      refine sr_op rfl rfl (ow_store ty26 H rfl (v := .agg #[.int .i64 ((resolveX p.offices r7.expr).kind), .int .i64 ((resolveX p.offices r7.expr).n), .int .i64 ((resolveX p.offices r7.expr).no), .string ((resolveX p.offices r7.expr).name), .slice Ar9 ((resolveX p.offices r7.expr).l.length) cr9]) rfl [.int .i64 ((resolveX p.offices r7.expr).kind), .int .i64 ((resolveX p.offices r7.expr).n), .int .i64 ((resolveX p.offices r7.expr).no), .string ((resolveX p.offices r7.expr).name), .slice Ar9 ((resolveX p.offices r7.expr).l.length) cr9] rfl rfl rfl 0 rfl rfl (fun _ H => ?_))
      refine sr_nil ?_
      refine st_region ?_
      refine sr_op rfl rfl (ow_fieldAddr fd28_3 ty23 rfl rfl (r := 3) rfl ?_)
      refine sr_op rfl rfl (ow_load (v := .slice Aa na ca) ty23 H rfl 1 rfl rfl rfl rfl ?_)
      refine sr_op rfl rfl (ow_load (v := .agg #[.string r7.kind, .int .i64 (i : Int), .int .i64 r7.think, .int .i64 ((resolveX p.offices r7.expr).kind), .int .i64 ((resolveX p.offices r7.expr).n), .int .i64 ((resolveX p.offices r7.expr).no), .string ((resolveX p.offices r7.expr).name), .slice Ar9 ((resolveX p.offices r7.expr).l.length) cr9]) ty43 H rfl 0 rfl rfl rfl rfl ?_)
      refine sr_op rfl rfl (ow_buildSlice H (e := 43) (ps := [(0, .agg #[.string r7.kind, .int .i64 (i : Int), .int .i64 r7.think, .int .i64 ((resolveX p.offices r7.expr).kind), .int .i64 ((resolveX p.offices r7.expr).n), .int .i64 ((resolveX p.offices r7.expr).no), .string ((resolveX p.offices r7.expr).name), .slice Ar9 ((resolveX p.offices r7.expr).l.length) cr9])]) rfl [.string r7.kind, .int .i64 (i : Int), .int .i64 r7.think, .int .i64 ((resolveX p.offices r7.expr).kind), .int .i64 ((resolveX p.offices r7.expr).n), .int .i64 ((resolveX p.offices r7.expr).no), .string ((resolveX p.offices r7.expr).name), .slice Ar9 ((resolveX p.offices r7.expr).l.length) cr9] (fun _ => by kernel_rfl) (fun g10 _ H => ?_))
      refine sr_op rfl rfl (ow_append1 sl23 ty43 rfl rfl [(g8, Ob [.string r7.kind, .int .i64 (i : Int), .int .i64 r7.think, .int .i64 ((resolveX p.offices r7.expr).kind), .int .i64 ((resolveX p.offices r7.expr).n), .int .i64 ((resolveX p.offices r7.expr).no), .string ((resolveX p.offices r7.expr).name), .slice Ar9 ((resolveX p.offices r7.expr).l.length) cr9] 43), (g2, Ob [.string p.name, .slice Ak p.kinds.length ck, .slice Ao p.offices.length co, .slice Aa na ca, .int .i64 p.change.kind, .int .i64 p.change.n, .int .i64 p.change.no, .string p.change.name, .slice Ac p.change.l.length cc, .int .i64 p.mode] 28)] (v := .slice Aa na ca) (cs := cs_) (L := L) H ha rfl rfl (((ru_iff (r := ruR p.offices i r7)).2 ⟨_, rfl, r7K, (by unfold I64 ruR; simp only; omega), r7Th, hrk9, hrn9, hro9, hrs9, hrl9⟩)) (len_ru _) (plain_ru _) (by simp only [List.length_map, rulesR_length, List.length_take]; omega) (by simp only [List.length_map, rulesR_length, List.length_take]; omega) (fun va11 cs12 _ H ha => ?_))
      obtain ⟨Aa13, na13, ca13, rfl⟩ := Acc.form ha
      refine sr_op rfl rfl (ow_fieldAddr fd28_3 ty23 rfl rfl (r := 3) rfl ?_)
      refine sr_op rfl rfl (ow_store ty23 H rfl (v := .slice Aa13 na13 ca13) rfl [.slice Aa13 na13 ca13] rfl rfl rfl 1 rfl rfl (fun _ H => ?_))
      refine sr_nil ?_
      refine st_inBlock ?_
      refine st_region ?_
      refine sr_op rfl rfl (ow_add (r := ((i + 1 : Nat) : Int)) rfl rfl (inc_i64 (by omega)) ?_)
      refine sr_op rfl rfl (ow_move (v := .int .i64 ((i + 1 : Nat) : Int)) rfl ?_)
      refine sr_nil ?_
      exact st_inLoop (st_live [1, 2, 3, 15, 16, 17] (ih5 _ _ _ (by omega) ⟨i + 1, _, _, _, _, _, _, rfl, rfl, H.drop 1, by omega, Le.trans hI3 hI9, by rw [take_some he7, rulesR_snoc, List.map_append, List.length_take, Nat.min_eq_left (by omega), Nat.zero_add]; exact ha⟩))
    · have hc6 := of_decide_eq_false hc6
      refine st_exit rfl ?_
      refine st_seq ?_
      refine st_region ?_
      refine sr_op rfl rfl (ow_fieldAddr fd28_2 ty22 rfl rfl (r := 0 + 2) rfl ?_)
      refine sr_op rfl rfl (ow_loadI (v := .slice Ao p.offices.length co) ty22 H rfl (At.sub (vs := [.slice Ao p.offices.length co]) hat 2 rfl) rfl rfl rfl ?_)
      refine sr_op rfl rfl (ow_fieldAddr fd28_4 ty26 rfl rfl (r := 0 + 4) rfl ?_)
      refine sr_op rfl rfl (ow_loadI (v := .agg #[.int .i64 p.change.kind, .int .i64 p.change.n, .int .i64 p.change.no, .string p.change.name, .slice Ac p.change.l.length cc]) ty26 H rfl (At.sub (vs := [.int .i64 p.change.kind, .int .i64 p.change.n, .int .i64 p.change.no, .string p.change.name, .slice Ac p.change.l.length cc]) hat 4 rfl) rfl rfl rfl ?_)
      have hbd14 : p.change.pc ≤ 1000000 := pc_small hs1 change_in
      refine sr_op rfl rfl (ow_call en61 rfl (resolve_c 1000000 (x := p.change) hbd14 (Nat.le_refl _) H hpo (ex_iff.2 ⟨_, rfl, hck, hcn, hcno, hcs, hcl⟩)) ?_)
      rintro _ _ ⟨I14, us14, hI14, H, rfl, hr14⟩
      obtain ⟨vr14, rfl, hrk14, hrn14, hro14, hrs14, hrl14⟩ := ex_iff.1 hr14
      obtain ⟨Ar14, cr14, rfl, _, _, hrl14⟩ := RepS.open_ hrl14
      have hpo := hpo.mono hI14
      have hpr := hpr.mono hI14
      have hcl := hcl.mono hI14
      have hat := hat.mono hI14
      have hg := hg.mono hI14
      have ha := ha.mono hI14
      refine sr_op rfl rfl (ow_fieldAddr fd28_4 ty26 rfl rfl (r := 4) rfl ?_)
      refine sr_op rfl rfl (ow_store ty26 H rfl (v := .agg #[.int .i64 ((resolveX p.offices p.change).kind), .int .i64 ((resolveX p.offices p.change).n), .int .i64 ((resolveX p.offices p.change).no), .string ((resolveX p.offices p.change).name), .slice Ar14 ((resolveX p.offices p.change).l.length) cr14]) rfl [.int .i64 ((resolveX p.offices p.change).kind), .int .i64 ((resolveX p.offices p.change).n), .int .i64 ((resolveX p.offices p.change).no), .string ((resolveX p.offices p.change).name), .slice Ar14 ((resolveX p.offices p.change).l.length) cr14] rfl rfl rfl 0 rfl rfl (fun _ H => ?_))
      refine sr_nil ?_
      refine st_seq ?_
      refine st_region ?_
      refine sr_op rfl rfl (ow_load (v := .agg #[.string p.name, .slice Ak p.kinds.length ck, .slice Ao p.offices.length co, .slice Aa na ca, .int .i64 ((resolveX p.offices p.change).kind), .int .i64 ((resolveX p.offices p.change).n), .int .i64 ((resolveX p.offices p.change).no), .string ((resolveX p.offices p.change).name), .slice Ar14 ((resolveX p.offices p.change).l.length) cr14, .int .i64 p.mode]) ty28 H rfl 0 rfl rfl rfl rfl ?_)
      refine sr_op rfl rfl (ow_store ty28 H rfl (v := .agg #[.string p.name, .slice Ak p.kinds.length ck, .slice Ao p.offices.length co, .slice Aa na ca, .int .i64 ((resolveX p.offices p.change).kind), .int .i64 ((resolveX p.offices p.change).n), .int .i64 ((resolveX p.offices p.change).no), .string ((resolveX p.offices p.change).name), .slice Ar14 ((resolveX p.offices p.change).l.length) cr14, .int .i64 p.mode]) rfl [.string p.name, .slice Ak p.kinds.length ck, .slice Ao p.offices.length co, .slice Aa na ca, .int .i64 ((resolveX p.offices p.change).kind), .int .i64 ((resolveX p.offices p.change).n), .int .i64 ((resolveX p.offices p.change).no), .string ((resolveX p.offices p.change).name), .slice Ar14 ((resolveX p.offices p.change).l.length) cr14, .int .i64 p.mode] rfl rfl rfl 0 rfl rfl (fun _ H => ?_))
      refine sr_op rfl rfl (ow_assign (v := .int .i64 0) rfl ?_)
      refine sr_nil ?_
      refine st_ret hb (hR _ _ (.tuple #[.agg #[.string p.name, .slice Ak p.kinds.length ck, .slice Ao p.offices.length co, .slice Aa na ca, .int .i64 ((resolveX p.offices p.change).kind), .int .i64 ((resolveX p.offices p.change).n), .int .i64 ((resolveX p.offices p.change).no), .string ((resolveX p.offices p.change).name), .slice Ar14 ((resolveX p.offices p.change).l.length) cr14, .int .i64 p.mode], .int .i64 0]) (res_run (vs := [.agg #[.string p.name, .slice Ak p.kinds.length ck, .slice Ao p.offices.length co, .slice Aa na ca, .int .i64 ((resolveX p.offices p.change).kind), .int .i64 ((resolveX p.offices p.change).n), .int .i64 ((resolveX p.offices p.change).no), .string ((resolveX p.offices p.change).name), .slice Ar14 ((resolveX p.offices p.change).l.length) cr14, .int .i64 p.mode], .int .i64 0]) Tryd.results19 ⟨_, _, rfl, resV_own (v := .agg #[.string p.name, .slice Ak p.kinds.length ck, .slice Ao p.offices.length co, .slice Aa na ca, .int .i64 ((resolveX p.offices p.change).kind), .int .i64 ((resolveX p.offices p.change).n), .int .i64 ((resolveX p.offices p.change).no), .string ((resolveX p.offices p.change).name), .slice Ar14 ((resolveX p.offices p.change).l.length) cr14, .int .i64 p.mode]) ty28 H rfl 0 rfl rfl rfl rfl, ⟨_, _, rfl, rfl, rfl⟩⟩) ?_)
      obtain ⟨I9, hI9, H, hr⟩ := Acc.done ha (H.drop 1)
      have ht : p.rules.take i = p.rules := List.take_of_length_le (by omega)
      rw [ht] at hr
      have hlen : p.rules.length = (rulesR p.offices p.rules 0).length := (rulesR_length _ _ _).symm
      refine ⟨_, by rw [hok], I9, _, (((hI1.trans hI2).trans hI3).trans hI14).trans hI9, H, rfl, ?_⟩
      rw [resP, if_pos hok]
      exact po_iff.2 ⟨_, _, _, _, rfl, hpn, (((hpk.mono hI3).mono hI14).mono hI9), hpo.mono hI9, hr, hrk14, hrn14, hro14, hrs14, hrl14.mono hI9, hpm⟩
end Go.Proofs.YtbbflenaeihmeaaDoor
