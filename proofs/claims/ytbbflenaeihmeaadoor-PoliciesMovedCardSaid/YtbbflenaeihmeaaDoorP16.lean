/-
  Walks: the reference of policies: Check, CheckAll.
-/
import Derived.Test.YtbbflenaeihmeaaDoorP15
set_option linter.unusedVariables false
set_option linter.unusedSimpArgs false
set_option maxRecDepth 10000
set_option maxHeartbeats 4000000
namespace Go.Proofs.YtbbflenaeihmeaaDoor
open Go Go.RowKit

def resG (off : List ByteArray) (x : Ex) : Bool := decide (x.no = (if isNamed x.kind = true then idx off x.name else 0))
theorem resolved_all (off : List ByteArray) (x : Ex) : resolvedB off x = allX (resG off) x := parts_all (resG off) x 1
mutual
theorem same_resolve (off : List ByteArray) : ∀ x : Ex, sameX (resolveX off x) x = allX (resG off) x
  | ⟨k, n, no, nm, l⟩ => by
    simp only [resolveX, sameX, allX, resG, sames_resolve off l, decide_true, Bool.true_and, Bool.and_true]
    congr 1
    rw [decide_eq_decide]
    exact eq_comm
theorem sames_resolve (off : List ByteArray) : ∀ l : List Ex, sameXs (resolveXs off l) l = allXs (resG off) l
  | [] => rfl
  | x :: l => by simp only [resolveXs, sameXs, allXs, same_resolve off x, sames_resolve off l]
end
theorem sameRs_resolve (off : List ByteArray) : ∀ (l : List Ru) (i : Nat), sameRs (rulesR off l i) l = chF off l i
  | [], i => rfl
  | r :: l, i => by
    simp only [rulesR, sameRs, chF, sameR, ruR, sameRs_resolve off l (i + 1), same_resolve, resolved_all, decide_true, Bool.true_and, Bool.and_true]
    congr 2
    rw [decide_eq_decide]
    exact eq_comm
theorem sameT_refl (l : List ByteArray) : sameT l l = true := sameT_iff.2 rfl
theorem check_same (p : Po) : sameP (resolveP p) p = (chF p.offices p.rules 0 && resolvedB p.offices p.change) := by
  simp only [sameP, resolveP, sameT_refl, sameRs_resolve, same_resolve, resolved_all, decide_true, Bool.true_and]
theorem refCheck_c {B I L w} (H : Hp B I w L) {p : Po} {us : List Value} (hp : RepL I (encPo p) us) : Calls Tryd.prog 23 #[.agg us.toArray] w (Rt fun r w' => r = .int .i64 (checkE p) ∧ Hp B I w' L) := by
  have hp0 := hp
  obtain ⟨v1, v2, v3, v4, rfl, hpn, hpk, hpo, hpr, hck, hcn, hcno, hcs, hcl, hpm⟩ := po_iff.1 hp
  obtain ⟨Ak, ck, rfl, hckl, hckm, hpk⟩ := RepS.open_ hpk
  obtain ⟨Ao, co, rfl, hcol, hcom, hpo⟩ := RepS.open_ hpo
  obtain ⟨Ar, cr, rfl, hcrl, hcrm, hpr⟩ := RepS.open_ hpr
  obtain ⟨Ac, cc, rfl, hccl, hccm, hcl⟩ := RepS.open_ hcl
  refine calls_st (n := 17) Tryd.func23 rfl rfl rfl ?_
  intro G bF cs hb hfn hR hP
  simp only [ini]
  refine st_seq ?_
  refine st_region ?_
  refine sr_op rfl rfl (ow_box H (v := .agg #[.string p.name, .slice Ak p.kinds.length ck, .slice Ao p.offices.length co, .slice Ar p.rules.length cr, .int .i64 p.change.kind, .int .i64 p.change.n, .int .i64 p.change.no, .string p.change.name, .slice Ac p.change.l.length cc, .int .i64 p.mode]) rfl [.string p.name, .slice Ak p.kinds.length ck, .slice Ao p.offices.length co, .slice Ar p.rules.length cr, .int .i64 p.change.kind, .int .i64 p.change.n, .int .i64 p.change.no, .string p.change.name, .slice Ac p.change.l.length cc, .int .i64 p.mode] rfl (fun g1 _ H => ?_))
  refine sr_op rfl rfl (ow_assign (v := .int .i64 0) rfl ?_)
  refine sr_nil ?_
  refine st_seq ?_
  refine st_region ?_
  refine sr_op rfl rfl (ow_load (v := .agg #[.string p.name, .slice Ak p.kinds.length ck, .slice Ao p.offices.length co, .slice Ar p.rules.length cr, .int .i64 p.change.kind, .int .i64 p.change.n, .int .i64 p.change.no, .string p.change.name, .slice Ac p.change.l.length cc, .int .i64 p.mode]) ty28 H rfl 0 rfl rfl rfl rfl ?_)
  refine sr_op rfl rfl (ow_call en20 rfl (refResolve_c H hp0) ?_)
  rintro _ _ ⟨I9, us9, hI9, H, rfl, hq⟩
  generalize hqe : resP p = q at hq
  have hq0 := hq
  obtain ⟨w1, w2, w3, w4, rfl, _, hqk, hqo, hqr, _, _, _, _, hql, _⟩ := po_iff.1 hq
  obtain ⟨Bk, dk_, rfl, _, _, hqk⟩ := RepS.open_ hqk
  obtain ⟨Bo, do_, rfl, _, _, hqo⟩ := RepS.open_ hqo
  obtain ⟨Br, dr_, rfl, _, _, hqr⟩ := RepS.open_ hqr
  obtain ⟨Bc, dc_, rfl, _, _, hql⟩ := RepS.open_ hql
  have hp0 := hp0.mono hI9
  refine sr_op rfl rfl (ow_move (v := .tuple #[.agg #[.string q.name, .slice Bk q.kinds.length dk_, .slice Bo q.offices.length do_, .slice Br q.rules.length dr_, .int .i64 q.change.kind, .int .i64 q.change.n, .int .i64 q.change.no, .string q.change.name, .slice Bc q.change.l.length dc_, .int .i64 q.mode], .int .i64 (errOf p)]) rfl ?_)
  refine sr_op rfl rfl (ow_extract (v := .agg #[.string q.name, .slice Bk q.kinds.length dk_, .slice Bo q.offices.length do_, .slice Br q.rules.length dr_, .int .i64 q.change.kind, .int .i64 q.change.n, .int .i64 q.change.no, .string q.change.name, .slice Bc q.change.l.length dc_, .int .i64 q.mode]) rfl rfl ?_)
  refine sr_op rfl rfl (ow_extract (v := .int .i64 (errOf p)) rfl rfl ?_)
  refine sr_op rfl rfl (ow_alloc ty28 H [.string ⟨#[]⟩, .slice none 0 0, .slice none 0 0, .slice none 0 0, .int .i64 0, .int .i64 0, .int .i64 0, .string ⟨#[]⟩, .slice none 0 0, .int .i64 0] rfl (fun g2 _ H => ?_))
  refine sr_op rfl rfl (ow_store ty28 H rfl (v := .agg #[.string q.name, .slice Bk q.kinds.length dk_, .slice Bo q.offices.length do_, .slice Br q.rules.length dr_, .int .i64 q.change.kind, .int .i64 q.change.n, .int .i64 q.change.no, .string q.change.name, .slice Bc q.change.l.length dc_, .int .i64 q.mode]) rfl [.string q.name, .slice Bk q.kinds.length dk_, .slice Bo q.offices.length do_, .slice Br q.rules.length dr_, .int .i64 q.change.kind, .int .i64 q.change.n, .int .i64 q.change.no, .string q.change.name, .slice Bc q.change.l.length dc_, .int .i64 q.mode] rfl rfl rfl 0 rfl rfl (fun _ H => ?_))
  refine sr_op rfl rfl (ow_assign (v := .int .i64 (errOf p)) rfl ?_)
  refine sr_nil ?_
  refine st_seq ?_
  refine st_seq ?_
  refine st_region ?_
  refine sr_op rfl rfl (ow_move (v := .int .i64 (errOf p)) rfl ?_)
  refine sr_op rfl rfl (ow_neq rfl rfl ?_)
  refine sr_nil ?_
  refine st_cond (!decide (errOf p = 0)) rfl (fun hc3 => ?_) (fun hc3 => ?_)
  · have hne := of_decide_eq_false (bnt hc3)
    refine st_seq ?_
    refine st_region ?_
    refine sr_op rfl rfl (ow_move (v := .int .i64 (errOf p)) rfl ?_)
    refine sr_op rfl rfl (ow_assign (v := .int .i64 (errOf p)) rfl ?_)
    refine sr_nil ?_
    refine st_ret hb (hR _ _ (.int .i64 (errOf p)) (res_run (vs := [.int .i64 (errOf p)]) Tryd.results23 ⟨_, _, rfl, rfl, rfl⟩) ?_)
    exact ⟨_, rfl, by rw [checkE, if_neg hne], (H.drop 2).back hI9⟩
  · have hok := of_decide_eq_true (bnf hc3)
    refine st_skip ?_
    refine st_seq ?_
    refine st_seq ?_
    refine st_region ?_
    refine sr_op rfl rfl (ow_load (v := .agg #[.string q.name, .slice Bk q.kinds.length dk_, .slice Bo q.offices.length do_, .slice Br q.rules.length dr_, .int .i64 q.change.kind, .int .i64 q.change.n, .int .i64 q.change.no, .string q.change.name, .slice Bc q.change.l.length dc_, .int .i64 q.mode]) ty28 H rfl 0 rfl rfl rfl rfl ?_)
    refine sr_op rfl rfl (ow_load (v := .agg #[.string p.name, .slice Ak p.kinds.length ck, .slice Ao p.offices.length co, .slice Ar p.rules.length cr, .int .i64 p.change.kind, .int .i64 p.change.n, .int .i64 p.change.no, .string p.change.name, .slice Ac p.change.l.length cc, .int .i64 p.mode]) ty28 H rfl 1 rfl rfl rfl rfl ?_)
    refine sr_op rfl rfl (ow_call en21 rfl (Same_c H hq0 hp0) ?_)
    rintro _ _ ⟨rfl, H⟩
    refine sr_op rfl rfl (ow_not rfl ?_)
    refine sr_nil ?_
    refine st_cond (!(sameP q p)) rfl (fun hc4 => ?_) (fun hc4 => ?_)
    · have hs := bnt hc4
      refine st_seq ?_
      refine st_region ?_
      refine sr_op rfl rfl (ow_assign (v := .int .i64 200) rfl ?_)
      refine sr_nil ?_
      refine st_ret hb (hR _ _ (.int .i64 200) (res_run (vs := [.int .i64 200]) Tryd.results23 ⟨_, _, rfl, rfl, rfl⟩) ?_)
      rw [← hqe, resP, if_pos hok, check_same] at hs
      exact ⟨_, rfl, by rw [checkE, if_pos hok, hs]; rfl, (H.drop 2).back hI9⟩
    · have hs := bnf hc4
      refine st_skip ?_
      refine st_seq ?_
      refine st_region ?_
      refine sr_op rfl rfl (ow_assign (v := .int .i64 0) rfl ?_)
      refine sr_nil ?_
      refine st_ret hb (hR _ _ (.int .i64 0) (res_run (vs := [.int .i64 0]) Tryd.results23 ⟨_, _, rfl, rfl, rfl⟩) ?_)
      rw [← hqe, resP, if_pos hok, check_same] at hs
      exact ⟨_, rfl, by rw [checkE, if_pos hok, hs]; rfl, (H.drop 2).back hI9⟩
end Go.Proofs.YtbbflenaeihmeaaDoor
