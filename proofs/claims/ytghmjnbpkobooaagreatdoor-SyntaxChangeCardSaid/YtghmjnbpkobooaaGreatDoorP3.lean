/-
  Walks: the parts of an expression.
-/
import Derived.Test.YtghmjnbpkobooaaGreatDoorP2
set_option linter.unusedVariables false
set_option linter.unusedSimpArgs false
set_option maxRecDepth 10000
set_option maxHeartbeats 4000000
namespace Go.Proofs.YtghmjnbpkobooaaGreatDoor
open Go Go.RowKit

theorem parts_c {B I L w} (H : Hp B I w L) {x : Ex} {us : List Value} (hx : RepL I (encEx x) us) (d : Int) : Calls Tryz.prog 120 #[.agg us.toArray, .int .i64 d] w (Rt fun r w' => ∃ I' gx gd, Le I I' ∧ Hp B I' w' L ∧ r = .func (.func 203) #[] #[.pointer (some ⟨gx, 0, none⟩), .pointer (some ⟨gd, 0, none⟩)] ∧ At I' gx 0 us ∧ At I' gd 0 [.int .i64 d]) := by
  obtain ⟨v, rfl, hxk, hxn, hxo, hxs, hxl⟩ := ex_iff.1 hx
  refine calls_st (n := 6) Tryz.func120 rfl rfl rfl ?_
  intro G bF cs hb hfn hR hP
  simp only [ini]
  refine st_seq ?_
  refine st_region ?_
  refine sr_op rfl rfl (ow_box H (v := .agg #[.int .i64 x.kind, .int .i64 x.n, .int .i64 x.no, .string x.name, v]) rfl [.int .i64 x.kind, .int .i64 x.n, .int .i64 x.no, .string x.name, v] rfl (fun g1 _ H => ?_))
  refine sr_op rfl rfl (ow_box H (v := .int .i64 d) rfl [.int .i64 d] rfl (fun g2 _ H => ?_))
  refine sr_op rfl rfl (ow_assign (v := .nilFunc) rfl ?_)
  refine sr_nil ?_
  refine st_seq ?_
  refine st_region ?_
  refine sr_op rfl rfl (ow_makeFunc (fv := []) (cv := [.pointer (some ⟨g1, 0, none⟩), .pointer (some ⟨g2, 0, none⟩)]) rfl rfl ?_)
  refine sr_op rfl rfl (ow_assign (v := .func (.func 203) #[] #[.pointer (some ⟨g1, 0, none⟩), .pointer (some ⟨g2, 0, none⟩)]) rfl ?_)
  refine sr_nil ?_
  refine st_ret hb (hR _ _ (.func (.func 203) #[] #[.pointer (some ⟨g1, 0, none⟩), .pointer (some ⟨g2, 0, none⟩)]) (res_run (vs := [.func (.func 203) #[] #[.pointer (some ⟨g1, 0, none⟩), .pointer (some ⟨g2, 0, none⟩)]]) Tryz.results120 ⟨_, _, rfl, rfl, rfl⟩) ?_)
  have hgd := H.sep _ (List.mem_cons_self ..)
  have hgx := H.tail.sep _ (List.mem_cons_self ..)
  have hne : g1 ≠ g2 := fun e => (List.nodup_cons.1 H.nd).1 (by simp [e])
  refine ⟨_, rfl, _, g1, g2, (Im.le_put hgd).trans (Im.le_put (by unfold Im.put; rw [if_neg hne]; exact hgx)), H.freeze.freeze, rfl, at_ob (Im.at_put ..), at_ob (t := 3) ?_⟩
  unfold Im.put
  rw [if_neg (Ne.symm hne), if_pos rfl]
theorem parts_prefix {x y : Ex} {d i : Nat} {pre : List Pt} {q : Pt} (he : x.l[i]? = some y) (h : pre ++ [q] <+: partsX y (d + 1)) : ((x, d) :: partsXs (x.l.take i) (d + 1) ++ pre) ++ [q] <+: partsX x d := by
  obtain ⟨t, ht⟩ := h
  have h1 : x.l = x.l.take i ++ y :: x.l.drop (i + 1) := by rw [← drop_some he, List.take_append_drop]
  refine ⟨t ++ partsXs (x.l.drop (i + 1)) (d + 1), ?_⟩
  rw [partsX_eq x d]
  conv => rhs; rw [h1]
  rw [partsXs_append, partsXs, ← ht]
  simp
theorem perm_in (p : Nat × Obj) (D X Lo : List (Nat × Obj)) : ((p :: Lo) ++ (D ++ X)).Perm (p :: (D ++ (X ++ Lo))) := by
  rw [← List.append_assoc D X Lo]
  exact (List.perm_append_comm).cons p
theorem perm_y (A Lo X : List (Nat × Obj)) : ((A ++ X) ++ Lo).Perm (A ++ (Lo ++ X)) := by
  rw [List.append_assoc]
  exact (List.perm_append_comm).append_left A
theorem perm_out (p r : Nat × Obj) (D X Lo : List (Nat × Obj)) : (p :: ((r :: D) ++ (X ++ Lo))).Perm (r :: ((p :: Lo) ++ (D ++ X))) := by
  refine List.Perm.trans (List.Perm.swap r p _) ?_
  exact ((perm_in p D X Lo).symm).cons r
theorem parts_it {B : World} : ∀ (bd : Nat) {x : Ex} {d : Nat} {I0 : Im} {gx gd : Nat} {us : List Value}, x.pc ≤ bd → At I0 gx 0 us → RepL I0 (encEx x) us → At I0 gd 0 [.int .i64 (d : Int)] → d ≤ 1000001 →
    IterOk Tryz.prog B I0 203 [.pointer (some ⟨gx, 0, none⟩), .pointer (some ⟨gd, 0, none⟩)] (fun us => .agg us.toArray) encPt (partsX x d) (fun q => q.2 ≤ 1000000) := by
  intro bd
  induction bd with
  | zero =>
    intro x _ _ _ _ _ h0
    have := x.pc_eq
    omega
  | succ bd ih =>
  intro x d I0 gx gd us hpc hax0 hx0 had0 hd6 l0 J S_ T hy hQ hJm I Lx Lo w hI0 H hJ
  have hall := partsX_eq x d
  obtain ⟨v, rfl, hxk, hxn, hxo, hxs, hxl0⟩ := ex_iff.1 hx0
  obtain ⟨A, c, rfl, hlc, hcm, hxl0⟩ := RepS.open_ hxl0
  have hax := hax0.mono hI0
  have had := had0.mono hI0
  have hxl := hxl0.mono hI0
  refine calls_st (n := 30) Tryz.func203 rfl rfl rfl ?_
  intro G bF cs hb hfn hR hP
  simp only [ini]
  refine st_seq ?_
  refine st_region ?_
  refine sr_op rfl rfl (ow_box H (v := (.func (.yield l0) #[] #[])) rfl [(.func (.yield l0) #[] #[])] rfl (fun g1 _ H => ?_))
  refine sr_nil ?_
  refine st_seq ?_
  refine st_seq ?_
  refine st_region ?_
  refine sr_op rfl rfl (ow_load (v := (.func (.yield l0) #[] #[])) ty257 H rfl 0 rfl rfl rfl rfl ?_)
  refine sr_op rfl rfl (ow_loadI (v := .agg #[.int .i64 x.kind, .int .i64 x.n, .int .i64 x.no, .string x.name, .slice A x.l.length c]) ty26 H rfl hax rfl rfl rfl ?_)
  refine sr_op rfl rfl (ow_loadI (v := .int .i64 (d : Int)) ty3 H rfl had rfl rfl rfl ?_)
  refine sr_op rfl rfl (ow_build (ps := [(0, .agg #[.int .i64 x.kind, .int .i64 x.n, .int .i64 x.no, .string x.name, .slice A x.l.length c]), (1, .int .i64 (d : Int))]) (v := .agg #[.int .i64 x.kind, .int .i64 x.n, .int .i64 x.no, .string x.name, .slice A x.l.length c, .int .i64 (d : Int)]) rfl (fun _ => by kernel_rfl) ?_)
  refine sr_op rfl rfl (ow_yieldJ hy rfl (us := [.int .i64 x.kind, .int .i64 x.n, .int .i64 x.no, .string x.name, .slice A x.l.length c, .int .i64 (d : Int)]) rfl [] (x, d) (by rw [hall]; exact ⟨_, rfl⟩) ([(g1, Ob [(.func (.yield l0) #[] #[])] 257)] ++ Lx) Lo H hJ (pt_iff.2 ⟨_, rfl, hxk, hxn, hxo, hxs, hxl, by unfold I64; simp only; omega⟩) (fun v1 I2 Lo2 _ hI2 H hJ1 hS1 => ?_) (fun ch I2 Lo2 _ hI2 H hT => ?_))
  rotate_left
  · exact (hP _ _ ⟨I2, Lo2, hI2, H.drop 1, .inr ⟨ch, rfl, hT⟩⟩).one
  have H : Hp B I2 _ ((g1, Ob [(.func (.yield l0) #[] #[])] 257) :: (Lx ++ Lo2)) := H
  have hax := hax.mono hI2
  have had := had.mono hI2
  have hxl := hxl.mono hI2
  refine sr_op rfl rfl (ow_not rfl ?_)
  refine sr_nil ?_
  refine st_cond (!v1) rfl (fun hc2 => ?_) (fun hc2 => ?_)
  · obtain rfl : v1 = false := by simpa using hc2
    have hS := hS1 rfl
    --S
    exact st_ret hb (hR _ _ _ (res_run (vs := []) Tryz.results203 rfl) ⟨I2, Lo2, hI2, H.drop 1, .inl ⟨_, rfl, .inr hS⟩⟩)
  · obtain rfl : v1 = true := by simpa using hc2
    have hJ := hJ1 rfl
    have hd : d ≤ 1000000 := hQ [] (x, d) _ _ hJ
    refine st_skip ?_
    refine st_seq ?_
    refine st_region ?_
    refine sr_op rfl rfl (ow_fieldAddr fd26_4 ty24 rfl rfl (r := 0 + 4) rfl ?_)
    refine sr_op rfl rfl (ow_loadI (v := .slice A x.l.length c) ty24 H rfl (At.sub (vs := [.slice A x.l.length c]) hax 4 rfl) rfl rfl rfl ?_)
    refine sr_op rfl rfl (ow_lenS sl24 rfl rfl ?_)
    refine sr_op rfl rfl (ow_move (v := .int .i64 0) rfl ?_)
    refine sr_nil ?_
    refine st_block ?_
    refine st_loop ?_
    refine st_live [1, 2, 3, 14, 15, 16] ?_
    refine st_indD (fun d_ m_ ds_ w_ => ∃ (i : Nat) (rs : List Nat) (I2 : Im) (Lo2 : List (Nat × Obj)) (r_ : Sl), d_ = x.l.length - i ∧ m_ = (1, .pointer (some ⟨gx, 0, none⟩)) :: (2, .pointer (some ⟨gd, 0, none⟩)) :: (3, .pointer (some ⟨g1, 0, none⟩)) :: (14, .slice A x.l.length c) :: (15, .int .i64 (x.l.length : Int)) :: (16, .int .i64 (i : Int)) :: r_ ∧ ds_ = mks rs ++ [] ∧ Hp B I2 w_ ((g1, Ob [(.func (.yield l0) #[] #[])] 257) :: (dfs rs ++ (Lx ++ Lo2))) ∧ i ≤ x.l.length ∧ Le I I2 ∧ J ((x, d) :: partsXs (x.l.take i) (d + 1)) I2 Lo2) _ ⟨0, [], I2, Lo2, _, rfl, rfl, rfl, H, Nat.zero_le _, hI2, hJ⟩ ?_
    rintro _ _ _ _ ⟨i, rs, I2, Lo2, r3, rfl, rfl, rfl, H, hi, hI2, hJ⟩ ih4
    have hax := hax0.mono (hI0.trans hI2)
    have had := had0.mono (hI0.trans hI2)
    have hxl := hxl0.mono (hI0.trans hI2)
    refine st_seq ?_
    refine st_region ?_
    refine sr_op rfl rfl (ow_lss rfl rfl ?_)
    refine sr_nil ?_
    refine st_seq ?_
    refine st_cond (decide ((i : Int) < (x.l.length : Int))) rfl (fun hc5 => ?_) (fun hc5 => ?_)
    · have hc5 := of_decide_eq_true hc5
      refine st_skip ?_
      refine st_seq ?_
      refine st_block ?_
      refine st_seq ?_
      refine st_region ?_
      obtain ⟨y6, he6⟩ : ∃ q_, x.l[i]? = some q_ := ⟨_, List.getElem?_eq_getElem (by omega)⟩
      obtain ⟨b6, o6, us6, hA6, hat6, hul6, hr6⟩ := RepS.get hxl he6
      obtain ⟨v6, rfl, y6k, y6n, y6o, y6s, y6l⟩ := ex_iff.1 hr6
      obtain ⟨A6, c6, rfl, y6c, y6m, y6l⟩ := RepS.open_ y6l
      refine sr_op rfl rfl (ow_indexAddrA sl24 ty26 hA6 rfl rfl (by omega) (by omega) (r := o6 + i * 5) rfl ?_)
      refine sr_op rfl rfl (ow_loadI (v := .agg #[.int .i64 y6.kind, .int .i64 y6.n, .int .i64 y6.no, .string y6.name, .slice A6 y6.l.length c6]) ty26 H rfl hat6 rfl rfl rfl ?_)
      refine sr_op rfl rfl (ow_alloc ty26 H [.int .i64 0, .int .i64 0, .int .i64 0, .string ⟨#[]⟩, .slice none 0 0] rfl (fun g7 _ H => ?_))
      refine sr_op rfl rfl (ow_store ty26 H rfl (v := .agg #[.int .i64 y6.kind, .int .i64 y6.n, .int .i64 y6.no, .string y6.name, .slice A6 y6.l.length c6]) rfl [.int .i64 y6.kind, .int .i64 y6.n, .int .i64 y6.no, .string y6.name, .slice A6 y6.l.length c6] rfl rfl rfl 0 rfl rfl (fun _ H => ?_))
      refine sr_nil ?_
      refine st_seq ?_
      refine st_region ?_
      refine sr_op rfl rfl (ow_load (v := .agg #[.int .i64 y6.kind, .int .i64 y6.n, .int .i64 y6.no, .string y6.name, .slice A6 y6.l.length c6]) ty26 H rfl 0 rfl rfl rfl rfl ?_)
      refine sr_op rfl rfl (ow_loadI (v := .int .i64 (d : Int)) ty3 H rfl had rfl rfl rfl ?_)
      refine sr_op rfl rfl (ow_add (r := ((d + 1 : Nat) : Int)) rfl rfl (inc_i64 (by omega)) ?_)
      refine sr_op rfl rfl (ow_call en120 rfl (parts_c H (ex_iff.2 ⟨_, rfl, y6k, y6n, y6o, y6s, y6l⟩) _) ?_)
      rintro _ _ ⟨I3, gx2, gd2, hI3, H, rfl, hax2, had2⟩
      have hJ := hJm _ _ _ _ hI3 hJ
      refine sr_nil ?_
      refine st_block ?_
      refine st_range (f := 203) (cap := [.pointer (some ⟨gx2, 0, none⟩), .pointer (some ⟨gd2, 0, none⟩)]) (ih (x := y6) (d := d + 1) (by have := Ex.pc_at he6; omega) hax2 (ex_iff.2 ⟨_, rfl, y6k, y6n, y6o, y6s, y6l.mono hI3⟩) had2 (by omega)) hb hfn Tryz.func203 rfl en203 ((g1, Ob [(.func (.yield l0) #[] #[])] 257) :: Lo2) (dfs rs ++ Lx) ((H.drop 1).perm (perm_in _ _ _ _)) (fun pre_ I_ L_ => ∃ Lo_, L_ = (g1, Ob [(.func (.yield l0) #[] #[])] 257) :: Lo_ ∧ J (((x, d) :: partsXs (x.l.take i) (d + 1) ++ pre_)) I_ Lo_) (fun c_ I_ L_ => c_ = .ret ∧ ∃ Lo_, L_ = (g1, Ob [(.func (.yield l0) #[] #[])] 257) :: Lo_ ∧ S_ I_ Lo_) (fun ch_ I_ L_ => ∃ Lo_, L_ = (g1, Ob [(.func (.yield l0) #[] #[])] 257) :: Lo_ ∧ T ch_ I_ Lo_) ⟨Lo2, rfl, by rw [List.append_nil]; exact hJ⟩ (fun pre_ q_ I_ L_ h_ => by obtain ⟨Lo_, _, h_⟩ := h_; exact hQ (((x, d) :: partsXs (x.l.take i) (d + 1) ++ pre_)) q_ _ _ (by rw [List.append_assoc]; exact h_)) (fun pre_ I_ I_' L_ hle_ h_ => by obtain ⟨Lo_, rfl, h_⟩ := h_; exact ⟨Lo_, rfl, hJm _ _ _ _ hle_ h_⟩) ?_ ?_ ?_ ?_
      · intro pre8 q8 us8 I18 Lx8 Lo8 _ l8 rc8 G1 b1 cs1 hpre hle hJ hr hb1 E H
        obtain ⟨Lo9, rfl, hJ⟩ := hJ
        obtain ⟨vq, rfl, hqk, hqn, hqo, hqs, hql, hqd⟩ := pt_iff.1 hr
        obtain ⟨Aq, cq, rfl, _, _, hql⟩ := RepS.open_ hql
        refine st_region ?_
        refine sr_op rfl rfl (ow_alloc ty172 H [.int .i64 0, .int .i64 0, .int .i64 0, .string ⟨#[]⟩, .slice none 0 0, .int .i64 0] rfl (fun g9 _ H => ?_))
        refine sr_op rfl rfl (ow_store ty172 H rfl (v := .agg #[.int .i64 q8.1.kind, .int .i64 q8.1.n, .int .i64 q8.1.no, .string q8.1.name, .slice Aq q8.1.l.length cq, .int .i64 (q8.2 : Int)]) rfl [.int .i64 q8.1.kind, .int .i64 q8.1.n, .int .i64 q8.1.no, .string q8.1.name, .slice Aq q8.1.l.length cq, .int .i64 (q8.2 : Int)] rfl rfl rfl 0 rfl rfl (fun _ H => ?_))
        refine sr_nil ?_
        refine st_begin hb1 H 1 rfl rfl (fun _ H => ?_)
        refine st_block ?_
        refine st_seq ?_
        refine st_region ?_
        refine sr_op rfl rfl (ow_load (v := (.func (.yield l0) #[] #[])) ty257 H rfl 2 rfl rfl rfl rfl ?_)
        refine sr_op rfl rfl (ow_load (v := .agg #[.int .i64 q8.1.kind, .int .i64 q8.1.n, .int .i64 q8.1.no, .string q8.1.name, .slice Aq q8.1.l.length cq, .int .i64 (q8.2 : Int)]) ty172 H rfl 0 rfl rfl rfl rfl ?_)
        refine sr_op rfl rfl (ow_yieldJ hy rfl (us := [.int .i64 q8.1.kind, .int .i64 q8.1.n, .int .i64 q8.1.no, .string q8.1.name, .slice Aq q8.1.l.length cq, .int .i64 (q8.2 : Int)]) rfl ((x, d) :: partsXs (x.l.take i) (d + 1) ++ pre8) q8 (parts_prefix he6 hpre) ([(g9, Ob [.int .i64 q8.1.kind, .int .i64 q8.1.n, .int .i64 q8.1.no, .string q8.1.name, .slice Aq q8.1.l.length cq, .int .i64 (q8.2 : Int)] 172), (l8, .loop (rcS rc8 .busy none)), (g1, Ob [(.func (.yield l0) #[] #[])] 257)] ++ Lx8) Lo9 (H.perm (perm_y _ _ _)) hJ (pt_iff.2 ⟨_, rfl, hqk, hqn, hqo, hqs, hql, hqd⟩) (fun v2 I4 Lo4 _ hI4 H hJ1 hS1 => ?_) (fun ch I4 Lo4 _ hI4 H hT => ?_))
        rotate_left
        · exact (E.pan (Lo := (g1, Ob [(.func (.yield l0) #[] #[])] 257) :: Lo4) hI4 ((H.drop 1).perm (perm_y [(l8, .loop (rcS rc8 .busy none)), (g1, Ob [(.func (.yield l0) #[] #[])] 257)] Lo4 Lx8).symm) ⟨Lo4, rfl, hT⟩).one
        have H : Hp B I4 _ ((g9, Ob [.int .i64 q8.1.kind, .int .i64 q8.1.n, .int .i64 q8.1.no, .string q8.1.name, .slice Aq q8.1.l.length cq, .int .i64 (q8.2 : Int)] 172) :: (l8, .loop (rcS rc8 .busy none)) :: (g1, Ob [(.func (.yield l0) #[] #[])] 257) :: (Lo4 ++ Lx8)) := H.perm (perm_y [(g9, Ob [.int .i64 q8.1.kind, .int .i64 q8.1.n, .int .i64 q8.1.no, .string q8.1.name, .slice Aq q8.1.l.length cq, .int .i64 (q8.2 : Int)] 172), (l8, .loop (rcS rc8 .busy none)), (g1, Ob [(.func (.yield l0) #[] #[])] 257)] Lo4 Lx8).symm
        refine sr_op rfl rfl (ow_not rfl ?_)
        refine sr_nil ?_
        refine st_cond (!v2) rfl (fun hc10 => ?_) (fun hc10 => ?_)
        · obtain rfl : v2 = false := by simpa using hc10
          have hS := hS1 rfl
          exact E.ret (Lo := (g1, Ob [(.func (.yield l0) #[] #[])] 257) :: Lo4) hI4 (H.drop 1) ⟨rfl, Lo4, rfl, hS⟩
        · obtain rfl : v2 = true := by simpa using hc10
          have hJ := hJ1 rfl
          refine st_skip ?_
          refine st_inBlock ?_
          exact E.on (Lo := (g1, Ob [(.func (.yield l0) #[] #[])] 257) :: Lo4) hI4 (H.drop 1) ⟨Lo4, rfl, by rw [← List.append_assoc]; exact hJ⟩
      · intro r2 I2 Lo2 _ hle2 hJ2 H
        obtain ⟨Lo5, rfl, hJ⟩ := hJ2
        have H : Hp B I2 _ ((g1, Ob [(.func (.yield l0) #[] #[])] 257) :: (dfs (r2 :: rs) ++ (Lx ++ Lo5))) := H.perm (perm_out _ _ _ _ _)
        have hI9 := (hI2.trans hI3).trans hle2
        refine st_inBlock ?_
        refine st_inBlock ?_
        refine st_region ?_
        refine sr_op rfl rfl (ow_add (r := ((i + 1 : Nat) : Int)) rfl rfl (inc_i64 (by omega)) ?_)
        refine sr_op rfl rfl (ow_move (v := .int .i64 ((i + 1 : Nat) : Int)) rfl ?_)
        refine sr_nil ?_
        exact st_inLoop (st_live [1, 2, 3, 14, 15, 16] (ih4 _ _ _ _ (by omega) ⟨i + 1, r2 :: rs, I2, Lo5, _, rfl, rfl, rfl, H, by omega, hI9, by rw [take_some he6, partsXs_append, partsXs, partsXs, List.append_nil]; simpa using hJ⟩))
      · intro r2 c2 I2 Lo2 _ hle2 hS2 H
        obtain ⟨rfl, Lo5, rfl, hS⟩ := hS2
        have H : Hp B I2 _ ((g1, Ob [(.func (.yield l0) #[] #[])] 257) :: (dfs (r2 :: rs) ++ (Lx ++ Lo5))) := H.perm (perm_out _ _ _ _ _)
        have hI9 := (hI2.trans hI3).trans hle2
        exact st_ret hb (rn_marks (r2 :: rs) (ds := []) (fun _ H => hR _ _ _ (res_run (vs := []) Tryz.results203 rfl) ⟨I2, Lo5, hI9, H, .inl ⟨_, rfl, .inr hS⟩⟩) (H.drop 1))
      · intro r2 ch2 I2 Lo2 _ hle2 hT2 H
        obtain ⟨Lo5, rfl, hT⟩ := hT2
        have H : Hp B I2 _ ((g1, Ob [(.func (.yield l0) #[] #[])] 257) :: (dfs (r2 :: rs) ++ (Lx ++ Lo5))) := H.perm (perm_out _ _ _ _ _)
        have hI9 := (hI2.trans hI3).trans hle2
        exact (pk_marks (r2 :: rs) (ds := []) (fun _ H => hP _ _ ⟨I2, Lo5, hI9, H, .inr ⟨ch2, rfl, hT⟩⟩) (H.drop 1)).one
    · have hc5 := of_decide_eq_false hc5
      refine st_exit rfl ?_
      have ht : x.l.take i = x.l := List.take_of_length_le (by omega)
      rw [ht] at hJ
      exact st_end hb (rn_marks rs (ds := []) (fun _ H => hR _ _ _ (res_run (vs := []) Tryz.results203 rfl) ⟨I2, Lo2, hI2, H, .inl ⟨_, rfl, .inl (by rw [hall]; exact hJ)⟩⟩) (H.drop 1))
end Go.Proofs.YtghmjnbpkobooaaGreatDoor
