/-
  Walks: leads, bare.
-/
import Derived.Test.YtbbflenaeihmeaaDoorP21
import Derived.Test.YtbbflenaeihmeaaDoorL2
import Derived.Test.YtbbflenaeihmeaaDoorB8
set_option linter.unusedVariables false
set_option linter.unusedSimpArgs false
set_option maxRecDepth 10000
set_option maxHeartbeats 4000000
namespace Go.Proofs.YtbbflenaeihmeaaDoor
open Go Go.RowKit

theorem Same_eq {B I L w} (H : Hp B I w L) {p q : Po} {us ws : List Value} (hp : RepL I (encPo p) us) (hq : RepL I (encPo q) ws) (h : p = q) : Calls Tryd.prog 21 #[.agg us.toArray, .agg ws.toArray] w (Rt fun r w' => r = .bool true ∧ Hp B I w' L) := by
  have h1 := Same_c H hp hq
  rw [(sameP_iff p q).2 h] at h1
  exact h1
theorem few_pc {x : Ex} (h : fewX x = true) : x.pc ≤ 300 := by
  simp only [fewX, Bool.or_eq_true, Bool.and_eq_true, decide_eq_true_eq] at h
  have h1 := (partsN_spec x 400).2.1
  have h2 := (partsN_spec x 400).1
  by_cases h3 : (x.pc : Int) ≤ 400
  · have := h2 h3
    omega
  · have := h1 (by omega)
    omega
theorem leadG_yes {off : List ByteArray} {x : Ex} {q : ByteArray} (hk : isNamed x.kind = true) (hq : 0 ≤ x.no ∧ x.no < (off.length : Int) → off[x.no.toNat]? = some q) : leadG off x = (decide (0 ≤ x.no) && (decide (x.no < (off.length : Int)) && decide (q = x.name))) := by
  rw [leadG, if_pos hk, Bool.and_assoc]
  by_cases h1 : 0 ≤ x.no
  · by_cases h2 : x.no < (off.length : Int)
    · rw [hq ⟨h1, h2⟩]
      simp only [h1, h2, decide_true, Bool.true_and]
      congr 1
      simp
    · simp only [h2, decide_false, Bool.and_false, Bool.false_and]
  · simp only [h1, decide_false, Bool.false_and]
theorem leadG_no {off : List ByteArray} {x : Ex} (hk : ¬ isNamed x.kind = true) : leadG off x = decide (x.no = 0) := by
  rw [leadG, if_neg hk]
theorem freeze_at {B : World} {I : Im} {w : World} {L L' : List (Nat × Obj)} {g : Nat} {cs : List Value} {e : TypeId} (k : Nat) (hk : L[k]? = some (g, Ob cs e)) (h : Hp B I w L) (hL : L.eraseIdx k = L') : ∃ I', Le I I' ∧ Hp B I' w L' ∧ At I' g 0 cs := by
  subst hL
  have hp : ∀ (l : List (Nat × Obj)) (k : Nat) (p : Nat × Obj), l[k]? = some p → (p :: l.eraseIdx k).Perm l := by
    intro l
    induction l with
    | nil => intro k p h; simp at h
    | cons a l ih =>
      intro k p h
      cases k with
      | zero =>
        simp only [List.getElem?_cons_zero, Option.some.injEq] at h
        subst h
        exact List.Perm.refl _
      | succ k => exact (List.Perm.swap _ _ _).trans ((ih k p (by simpa using h)).cons a)
  have h1 := h.perm (hp L k _ hk)
  have hg : I g = none := h1.sep (g, Ob cs e) (List.mem_cons_self ..)
  exact ⟨_, Im.le_put hg, Hp.freeze h1, at_ob (Im.at_put I g (Ob cs e))⟩
theorem few_rule {p : Po} (h : fewB p = true) {r : Ru} {i : Nat} (hr : p.rules[i]? = some r) : r.expr.pc ≤ 300 := by
  simp only [fewB, Bool.and_eq_true] at h
  exact few_pc (List.all_eq_true.1 h.2 r (List.mem_of_getElem? hr))
theorem few_change {p : Po} (h : fewB p = true) : p.change.pc ≤ 300 := by
  simp only [fewB, Bool.and_eq_true, Bool.not_eq_true', Bool.or_eq_false_iff] at h
  exact few_pc (by simpa using h.1.2)
theorem few_len {p : Po} (h : fewB p = true) : p.rules.length ≤ 20 ∧ p.offices.length ≤ 60 := by
  simp only [fewB, Bool.and_eq_true, Bool.not_eq_true', Bool.or_eq_false_iff, decide_eq_false_iff_not] at h
  have h1 := h.1.1.1.1
  simp only [fewN, Bool.not_eq_false', Bool.and_eq_true, Bool.not_eq_true', Bool.or_eq_false_iff, decide_eq_false_iff_not] at h1
  omega
theorem ty48 : Ty Tryd.prog 48 1 false (.nilFunc) 8 := ⟨by kernel_rfl, by kernel_rfl⟩
theorem ty83 : Ty Tryd.prog 83 1 false (.nilFunc) 8 := ⟨by kernel_rfl, by kernel_rfl⟩
theorem bare1_c {B : World} {n : Int} (hn : I64 n) {gn gs : Nat} : ∀ (d : Nat) {x : Ex} {I : Im} {L : List (Nat × Obj)} {w : World} {us : List Value}, x.pc ≤ d → d ≤ 1000000 → Hp B I w L → RepL I (encEx x) us → At I gn 0 [.int .i64 n] → At I gs 0 [.func (.func 71) #[] #[.pointer (some ⟨gn, 0, none⟩), .pointer (some ⟨gs, 0, none⟩)]] →
    Calls Tryd.prog 71 #[.agg us.toArray, .pointer (some ⟨gn, 0, none⟩), .pointer (some ⟨gs, 0, none⟩)] w (Rt fun r w' => ∃ I' us', Le I I' ∧ Hp B I' w' L ∧ r = .agg us'.toArray ∧ RepL I' (encEx (bareX n x)) us') := by
  intro d
  induction d with
  | zero =>
    intro x _ _ _ _ h0
    have := x.pc_eq
    omega
  | succ d ih =>
  intro x I L w us hd hd6 H hx hgn hgs
  have d0 := hx
  obtain ⟨d0v4, rfl, d0_0, d0_1, d0_2, d0_3, d0_4⟩ := ex_iff.1 hx
  obtain ⟨d0A4, d0c4, rfl, d0m4, d0M4, d0_4⟩ := RepS.open_ d0_4
  refine calls_st (n := 29) Tryd.func71 rfl rfl rfl ?_
  intro G bF cs hb hfn hR hP
  simp only [ini]
  refine st_seq ?_
  refine st_region ?_
  refine sr_op rfl rfl (ow_box H (v := .agg #[.int .i64 x.kind, .int .i64 x.n, .int .i64 x.no, .string x.name, .slice d0A4 x.l.length d0c4]) rfl [.int .i64 x.kind, .int .i64 x.n, .int .i64 x.no, .string x.name, .slice d0A4 x.l.length d0c4] rfl (fun g1 _ H => ?_))
  refine sr_op rfl rfl (ow_alloc ty26 H [.int .i64 0, .int .i64 0, .int .i64 0, .string ⟨#[]⟩, .slice none 0 0] rfl (fun g2 _ H => ?_))
  refine sr_nil ?_
  refine st_seq ?_
  refine st_region ?_
  refine sr_op rfl rfl (ow_load (v := .agg #[.int .i64 x.kind, .int .i64 x.n, .int .i64 x.no, .string x.name, .slice d0A4 x.l.length d0c4]) ty26 H rfl 1 rfl rfl rfl rfl ?_)
  refine sr_op rfl rfl (ow_alloc ty26 H [.int .i64 0, .int .i64 0, .int .i64 0, .string ⟨#[]⟩, .slice none 0 0] rfl (fun g3 _ H => ?_))
  refine sr_op rfl rfl (ow_store ty26 H rfl (v := .agg #[.int .i64 x.kind, .int .i64 x.n, .int .i64 x.no, .string x.name, .slice d0A4 x.l.length d0c4]) rfl [.int .i64 x.kind, .int .i64 x.n, .int .i64 x.no, .string x.name, .slice d0A4 x.l.length d0c4] rfl rfl rfl 0 rfl rfl (fun _ H => ?_))
  refine sr_nil ?_
  refine st_seq ?_
  refine st_region ?_
  refine sr_op rfl rfl (ow_loadI (v := .int .i64 n) ty3 H rfl hgn rfl rfl rfl ?_)
  refine sr_op rfl rfl (ow_fieldAddr fd26_2 ty3 rfl rfl (r := 2) rfl ?_)
  refine sr_op rfl rfl (ow_store ty3 H rfl (v := .int .i64 n) rfl [.int .i64 n] rfl rfl rfl 0 rfl rfl (fun _ H => ?_))
  refine sr_op rfl rfl (ow_fieldAddr fd26_4 ty24 rfl rfl (r := 4) rfl ?_)
  refine sr_op rfl rfl (ow_store ty24 H rfl (v := .slice none 0 0) rfl [.slice none 0 0] rfl rfl rfl 0 rfl rfl (fun _ H => ?_))
  refine sr_nil ?_
  refine st_seq ?_
  refine st_seq ?_
  refine st_region ?_
  refine sr_op rfl rfl (ow_fieldAddr fd26_4 ty24 rfl rfl (r := 4) rfl ?_)
  refine sr_op rfl rfl (ow_load (v := .slice d0A4 x.l.length d0c4) ty24 H rfl 2 rfl rfl rfl rfl ?_)
  refine sr_op rfl rfl (ow_lenS sl24 rfl rfl ?_)
  refine sr_op rfl rfl (ow_move (v := .int .i64 0) rfl ?_)
  refine sr_nil ?_
  refine st_block ?_
  refine st_loop ?_
  refine st_live [2, 4, 5, 13, 14, 15] ?_
  refine st_ind (fun d_ m_ w_ => ∃ (i : Nat) (J4 : Im) (Aa_ : Option Addr) (na_ ca_ : Nat) (cs_ : List Value) (r_ : Sl), d_ = x.l.length - i ∧ m_ = (2, .pointer (some ⟨gs, 0, none⟩)) :: (4, .pointer (some ⟨g2, 0, none⟩)) :: (5, .pointer (some ⟨g3, 0, none⟩)) :: (13, .slice d0A4 x.l.length d0c4) :: (14, .int .i64 (x.l.length : Int)) :: (15, .int .i64 (i : Int)) :: r_ ∧ Hp B J4 w_ ((g3, Ob [.int .i64 x.kind, .int .i64 x.n, .int .i64 n, .string x.name, .slice Aa_ na_ ca_] 26) :: (g2, Ob [.int .i64 0, .int .i64 0, .int .i64 0, .string ⟨#[]⟩, .slice none 0 0] 26) :: (g1, Ob [.int .i64 x.kind, .int .i64 x.n, .int .i64 x.no, .string x.name, .slice d0A4 x.l.length d0c4] 26) :: (rowL (.slice Aa_ na_ ca_) cs_ 26 ++ L)) ∧ Le I J4 ∧ Acc J4 5 (.slice Aa_ na_ ca_) cs_ (((x.l.take i).map (bareX n)).map encEx) ∧ i ≤ x.l.length) _ ⟨0, I, none, 0, 0, [], _, rfl, rfl, H, Le.refl _, Acc.none_ _ _ _, Nat.zero_le _⟩ ?_
  rintro _ _ _ ⟨i, J4, Aa_, na_, ca_, cs_, r5, rfl, rfl, H, hJ4, ha_, hi⟩ ih6
  refine st_seq ?_
  refine st_region ?_
  refine sr_op rfl rfl (ow_lss rfl rfl ?_)
  refine sr_nil ?_
  refine st_seq ?_
  refine st_cond (decide ((i : Int) < (x.l.length : Int))) rfl (fun hc7 => ?_) (fun hc7 => ?_)
  · have hc7 := of_decide_eq_true hc7
    refine st_skip ?_
    refine st_seq ?_
    refine st_block ?_
    refine st_seq ?_
    refine st_region ?_
    have d0_4 := (d0_4.mono hJ4)
    obtain ⟨e8, he8⟩ : ∃ q_, x.l[i]? = some q_ := ⟨_, List.getElem?_eq_getElem (by omega)⟩
    obtain ⟨b8, o8, us8, hA8, hat8, hul8, hr8⟩ := RepS.get d0_4 he8
    have d8 := hr8
    obtain ⟨d8v4, rfl, d8_0, d8_1, d8_2, d8_3, d8_4⟩ := ex_iff.1 hr8
    obtain ⟨d8A4, d8c4, rfl, d8m4, d8M4, d8_4⟩ := RepS.open_ d8_4
    refine sr_op rfl rfl (ow_indexAddrA sl24 ty26 hA8 rfl rfl (by omega) (by omega) (r := o8 + i * 5) rfl ?_)
    refine sr_op rfl rfl (ow_loadI (v := .agg #[.int .i64 e8.kind, .int .i64 e8.n, .int .i64 e8.no, .string e8.name, .slice d8A4 e8.l.length d8c4]) ty26 H rfl hat8 rfl rfl rfl ?_)
    refine sr_op rfl rfl (ow_alloc ty26 H [.int .i64 0, .int .i64 0, .int .i64 0, .string ⟨#[]⟩, .slice none 0 0] rfl (fun g9 _ H => ?_))
    refine sr_op rfl rfl (ow_store ty26 H rfl (v := .agg #[.int .i64 e8.kind, .int .i64 e8.n, .int .i64 e8.no, .string e8.name, .slice d8A4 e8.l.length d8c4]) rfl [.int .i64 e8.kind, .int .i64 e8.n, .int .i64 e8.no, .string e8.name, .slice d8A4 e8.l.length d8c4] rfl rfl rfl 0 rfl rfl (fun _ H => ?_))
    refine sr_nil ?_
    have hgs := (hgs.mono hJ4)
    refine st_draw (F := (fun w_ => ∃ I2, Le J4 I2 ∧ Hp B I2 w_ [(g9, Ob [.int .i64 e8.kind, .int .i64 e8.n, .int .i64 e8.no, .string e8.name, .slice d8A4 e8.l.length d8c4] 26), (g3, Ob [.int .i64 x.kind, .int .i64 x.n, .int .i64 n, .string x.name, .slice Aa_ na_ ca_] 26), (g2, Ob [.int .i64 0, .int .i64 0, .int .i64 0, .string ⟨#[]⟩, .slice none 0 0] 26), (g1, Ob [.int .i64 x.kind, .int .i64 x.n, .int .i64 x.no, .string x.name, .slice d0A4 x.l.length d0c4] 26)])) (p0 := [0, 1, 2, 3]) (plan := [(4, [], [0, 1]), (5, [], [0, 1]), (6, [7], []), (8, [], [])]) [] [] [(22, .agg #[.int .i64 e8.kind, .int .i64 e8.n, .int .i64 e8.no, .string e8.name, .slice d8A4 e8.l.length d8c4]), (21, .func (.func 71) #[] #[.pointer (some ⟨gn, 0, none⟩), .pointer (some ⟨gs, 0, none⟩)]), (20, .slice Aa_ na_ ca_), (19, .pointer (some ⟨g3, 4, none⟩))] (by kernel_rfl) rfl ?_ ⟨_, Le.refl _, H.drew.pick [0, 1, 2, 3] (by decide)⟩ ?_
    · refine ⟨kn_op rfl rfl (wantB_none rfl) fun _ hF2 => ?_, ?_⟩
      · obtain ⟨_, hle2, H2⟩ := hF2
        refine  (ow_fieldAddr fd26_4 ty24 rfl rfl (r := 4) rfl ?_)
        exact ⟨rfl, rfl⟩
      refine ⟨kn_op rfl rfl (wantB_none rfl) fun _ hF2 => ?_, ?_⟩
      · obtain ⟨_, hle2, H2⟩ := hF2
        refine  (ow_load (v := .slice Aa_ na_ ca_) ty24 H2 rfl 1 rfl rfl rfl rfl ?_)
        exact ⟨rfl, rfl⟩
      refine ⟨kn_op rfl rfl (wantB_none rfl) fun _ hF2 => ?_, ?_⟩
      · obtain ⟨_, hle2, H2⟩ := hF2
        refine  (ow_loadI (v := .func (.func 71) #[] #[.pointer (some ⟨gn, 0, none⟩), .pointer (some ⟨gs, 0, none⟩)]) ty83 H2 rfl (At.mono hle2 hgs) rfl rfl rfl ?_)
        exact ⟨rfl, rfl⟩
      refine ⟨kn_op rfl rfl (wantB_none rfl) fun _ hF2 => ?_, ?_⟩
      · obtain ⟨_, hle2, H2⟩ := hF2
        refine  (ow_load (v := .agg #[.int .i64 e8.kind, .int .i64 e8.n, .int .i64 e8.no, .string e8.name, .slice d8A4 e8.l.length d8c4]) ty26 H2 rfl 0 rfl rfl rfl rfl ?_)
        exact ⟨rfl, rfl⟩
      exact trivial
    have H := H.drew
    have hgn := (hgn.mono hJ4)
    refine cw_op rfl (wantB_none rfl) (ow_callV en71 (first := []) (cap := [.pointer (some ⟨gn, 0, none⟩), .pointer (some ⟨gs, 0, none⟩)]) rfl rfl (ih (x := e8) (by have := Ex.pc_at he8; omega) (by omega) H d8 hgn hgs) ?_)
    rintro _ _ ⟨I10, us10, hI10, H, rfl, hr10⟩
    have d10 := hr10
    obtain ⟨d10v4, rfl, d10_0, d10_1, d10_2, d10_3, d10_4⟩ := ex_iff.1 hr10
    obtain ⟨d10A4, d10c4, rfl, d10m4, d10M4, d10_4⟩ := RepS.open_ d10_4
    refine af_some [] (fun w_ => ∃ I2, Le I10 I2 ∧ Hp B I2 w_ [(g9, Ob [.int .i64 e8.kind, .int .i64 e8.n, .int .i64 e8.no, .string e8.name, .slice d8A4 e8.l.length d8c4] 26), (g3, Ob [.int .i64 x.kind, .int .i64 x.n, .int .i64 n, .string x.name, .slice Aa_ na_ ca_] 26), (g2, Ob [.int .i64 0, .int .i64 0, .int .i64 0, .string ⟨#[]⟩, .slice none 0 0] 26), (g1, Ob [.int .i64 x.kind, .int .i64 x.n, .int .i64 x.no, .string x.name, .slice d0A4 x.l.length d0c4] 26)]) rfl ⟨_, Le.refl _, H.pick [0, 1, 2, 3] (by decide)⟩ ?_ ?_
    · refine ⟨kn_op rfl rfl (wantB_none rfl) fun _ hF2 => ?_, ?_⟩
      · obtain ⟨_, hle2, H2⟩ := hF2
        refine  (ow_fieldAddr fd26_4 ty24 rfl rfl (r := 4) rfl ?_)
        exact ⟨rfl, rfl⟩
      refine ⟨kn_op rfl rfl (wantB_none rfl) fun _ hF2 => ?_, ?_⟩
      · obtain ⟨_, hle2, H2⟩ := hF2
        refine  (ow_load (v := .slice Aa_ na_ ca_) ty24 H2 rfl 1 rfl rfl rfl rfl ?_)
        exact ⟨rfl, rfl⟩
      exact trivial
    refine cw_op rfl (wantB_none rfl) (ow_buildSlice H (e := 26) (ps := [(0, .agg #[.int .i64 ((bareX n e8).kind), .int .i64 ((bareX n e8).n), .int .i64 ((bareX n e8).no), .string ((bareX n e8).name), .slice d10A4 ((bareX n e8).l.length) d10c4])]) rfl [.int .i64 ((bareX n e8).kind), .int .i64 ((bareX n e8).n), .int .i64 ((bareX n e8).no), .string ((bareX n e8).name), .slice d10A4 ((bareX n e8).l.length) d10c4] (fun _ => by kernel_rfl) (fun g11 _ H => ?_))
    refine af_some [] (fun w_ => ∃ I2, Le I10 I2 ∧ Hp B I2 w_ [(g11, Ob [.int .i64 ((bareX n e8).kind), .int .i64 ((bareX n e8).n), .int .i64 ((bareX n e8).no), .string ((bareX n e8).name), .slice d10A4 ((bareX n e8).l.length) d10c4] 26), (g9, Ob [.int .i64 e8.kind, .int .i64 e8.n, .int .i64 e8.no, .string e8.name, .slice d8A4 e8.l.length d8c4] 26), (g3, Ob [.int .i64 x.kind, .int .i64 x.n, .int .i64 n, .string x.name, .slice Aa_ na_ ca_] 26), (g2, Ob [.int .i64 0, .int .i64 0, .int .i64 0, .string ⟨#[]⟩, .slice none 0 0] 26), (g1, Ob [.int .i64 x.kind, .int .i64 x.n, .int .i64 x.no, .string x.name, .slice d0A4 x.l.length d0c4] 26)]) rfl ⟨_, Le.refl _, H.pick [0, 1, 2, 3, 4] (by decide)⟩ ?_ ?_
    · refine ⟨kn_op rfl rfl (wantB_none rfl) fun _ hF2 => ?_, ?_⟩
      · obtain ⟨_, hle2, H2⟩ := hF2
        refine  (ow_fieldAddr fd26_4 ty24 rfl rfl (r := 4) rfl ?_)
        exact ⟨rfl, rfl⟩
      refine ⟨kn_op rfl rfl (wantB_none rfl) fun _ hF2 => ?_, ?_⟩
      · obtain ⟨_, hle2, H2⟩ := hF2
        refine  (ow_load (v := .slice Aa_ na_ ca_) ty24 H2 rfl 2 rfl rfl rfl rfl ?_)
        exact ⟨rfl, rfl⟩
      exact trivial
    have ha_ := (ha_.mono hI10)
    refine cw_op rfl (wantB_none rfl) (ow_append1 sl24 ty26 rfl rfl [(g9, Ob [.int .i64 e8.kind, .int .i64 e8.n, .int .i64 e8.no, .string e8.name, .slice d8A4 e8.l.length d8c4] 26), (g3, Ob [.int .i64 x.kind, .int .i64 x.n, .int .i64 n, .string x.name, .slice Aa_ na_ ca_] 26), (g2, Ob [.int .i64 0, .int .i64 0, .int .i64 0, .string ⟨#[]⟩, .slice none 0 0] 26), (g1, Ob [.int .i64 x.kind, .int .i64 x.n, .int .i64 x.no, .string x.name, .slice d0A4 x.l.length d0c4] 26)] (v := .slice Aa_ na_ ca_) (cs := cs_) (L := L) H ha_ rfl rfl (d10) (len_ex _) (plain_ex _) (by have := x.len_pc; simp only [List.length_map, List.length_take]; omega) (by have := x.len_pc; simp only [List.length_map, List.length_take]; omega) (fun va12 cs13 _ H ha_ => ?_))
    obtain ⟨Aa14, na14, ca14, rfl⟩ := Acc.form ha_
    refine af_some [(26, .pointer (some ⟨g3, 4, none⟩))] (fun w_ => ∃ I2, Le I10 I2 ∧ Hp B I2 w_ [(g9, Ob [.int .i64 e8.kind, .int .i64 e8.n, .int .i64 e8.no, .string e8.name, .slice d8A4 e8.l.length d8c4] 26), (g3, Ob [.int .i64 x.kind, .int .i64 x.n, .int .i64 n, .string x.name, .slice Aa_ na_ ca_] 26), (g2, Ob [.int .i64 0, .int .i64 0, .int .i64 0, .string ⟨#[]⟩, .slice none 0 0] 26), (g1, Ob [.int .i64 x.kind, .int .i64 x.n, .int .i64 x.no, .string x.name, .slice d0A4 x.l.length d0c4] 26)]) rfl ⟨_, Le.refl _, H.pick [0, 1, 2, 3] (by decide)⟩ ?_ ?_
    · refine ⟨kn_op rfl rfl (wantB_none rfl) fun _ hF2 => ?_, ?_⟩
      · obtain ⟨_, hle2, H2⟩ := hF2
        refine  (ow_fieldAddr fd26_4 ty24 rfl rfl (r := 4) rfl ?_)
        exact ⟨rfl, rfl⟩
      exact trivial
    refine cw_op rfl (wantB_none rfl) (ow_store ty24 H rfl (v := .slice Aa14 na14 ca14) rfl [.slice Aa14 na14 ca14] rfl rfl rfl 1 rfl rfl (fun _ H => ?_))
    refine af_none ?_
    refine cw_nil ?_
    refine st_inBlock ?_
    refine st_region ?_
    refine sr_op rfl rfl (ow_add (r := ((i + 1 : Nat) : Int)) rfl rfl (inc_i64 (by omega)) ?_)
    refine sr_op rfl rfl (ow_move (v := .int .i64 ((i + 1 : Nat) : Int)) rfl ?_)
    refine sr_nil ?_
    exact st_inLoop (st_live [2, 4, 5, 13, 14, 15] (ih6 _ _ _ (by omega) ⟨i + 1, I10, _, _, _, _, _, rfl, rfl, H.drop 1, ((hJ4.trans hI10)), by rw [take_some he8, List.map_append, List.map_append]; exact ha_, by omega⟩))
  · have hc7 := of_decide_eq_false hc7
    refine st_exit rfl ?_
    refine st_seq ?_
    refine st_region ?_
    refine sr_op rfl rfl (ow_load (v := .agg #[.int .i64 x.kind, .int .i64 x.n, .int .i64 n, .string x.name, .slice Aa_ na_ ca_]) ty26 H rfl 0 rfl rfl rfl rfl ?_)
    refine sr_op rfl rfl (ow_store ty26 H rfl (v := .agg #[.int .i64 x.kind, .int .i64 x.n, .int .i64 n, .string x.name, .slice Aa_ na_ ca_]) rfl [.int .i64 x.kind, .int .i64 x.n, .int .i64 n, .string x.name, .slice Aa_ na_ ca_] rfl rfl rfl 1 rfl rfl (fun _ H => ?_))
    refine sr_nil ?_
    refine st_ret hb (hR _ _ (.agg #[.int .i64 x.kind, .int .i64 x.n, .int .i64 n, .string x.name, .slice Aa_ na_ ca_]) (res_run (vs := [.agg #[.int .i64 x.kind, .int .i64 x.n, .int .i64 n, .string x.name, .slice Aa_ na_ ca_]]) Tryd.results71 ⟨_, _, rfl, resV_own (v := .agg #[.int .i64 x.kind, .int .i64 x.n, .int .i64 n, .string x.name, .slice Aa_ na_ ca_]) ty26 H rfl 1 rfl rfl rfl rfl, rfl⟩) ?_)
    obtain ⟨I9, hI9, H, hr_⟩ := Acc.done ha_ (H.drop 3)
    change RepS encEx I9 5 ((x.l.take i).map (bareX n)) (.slice Aa_ na_ ca_) at hr_
    have ht_ : x.l.take i = x.l := List.take_of_length_le (by omega)
    rw [ht_] at hr_
    exact ⟨_, rfl, I9, _, (hJ4.trans hI9), H, rfl, ex_iff.2 ⟨_, by rw [bareX_kind, bareX_n, bareX_no, bareX_name], by rw [bareX_kind]; exact d0_0, by rw [bareX_n]; exact d0_1, by rw [bareX_no]; exact hn, by rw [bareX_name]; exact d0_3, by rw [bareX_l]; exact hr_⟩⟩
theorem leads_c {B : World} {off : List ByteArray} : ∀ (d : Nat) {x : Ex} {I : Im} {L : List (Nat × Obj)} {w : World} {us : List Value}, x.pc ≤ d → d ≤ 1000000 → Hp B I w L → RepL I (encEx x) us → ∀ {vo : Value}, RepS encS I 1 off vo →
    Calls Tryd.prog 29 #[vo, .agg us.toArray] w (Rt fun r w' => ∃ I' us', Le I I' ∧ Hp B I' w' L ∧ r = .tuple #[.agg us'.toArray, .bool (allX (leadG off) x)] ∧ RepL I' (encEx (bareX 0 x)) us') := by
  intro d
  induction d with
  | zero =>
    intro x _ _ _ _ h0
    have := x.pc_eq
    omega
  | succ d ih =>
  intro x I L w us hd hd6 H hx vo ho
  obtain ⟨nm, hnm⟩ : ∃ q : ByteArray, 0 ≤ x.no ∧ x.no < (off.length : Int) → off[x.no.toNat]? = some q := by
    by_cases h : x.no.toNat < off.length
    · exact ⟨_, fun _ => List.getElem?_eq_getElem h⟩
    · exact ⟨⟨#[]⟩, fun h2 => by omega⟩
  have d0 := hx
  obtain ⟨d0v4, rfl, d0_0, d0_1, d0_2, d0_3, d0_4⟩ := ex_iff.1 hx
  obtain ⟨d0A4, d0c4, rfl, d0m4, d0M4, d0_4⟩ := RepS.open_ d0_4
  obtain ⟨s0A, s0c, rfl, s0m, s0M, s0⟩ := RepS.open_ ho
  refine calls_st (n := 71) Tryd.func29 rfl rfl rfl ?_
  intro G bF cs hb hfn hR hP
  simp only [ini]
  refine st_seq ?_
  refine st_region ?_
  refine sr_op rfl rfl (ow_box H (v := .agg #[.int .i64 x.kind, .int .i64 x.n, .int .i64 x.no, .string x.name, .slice d0A4 x.l.length d0c4]) rfl [.int .i64 x.kind, .int .i64 x.n, .int .i64 x.no, .string x.name, .slice d0A4 x.l.length d0c4] rfl (fun g1 _ H => ?_))
  refine sr_op rfl rfl (ow_alloc ty26 H [.int .i64 0, .int .i64 0, .int .i64 0, .string ⟨#[]⟩, .slice none 0 0] rfl (fun g2 _ H => ?_))
  refine sr_op rfl rfl (ow_assign (v := .bool false) rfl ?_)
  refine sr_nil ?_
  refine st_seq ?_
  refine st_region ?_
  refine sr_op rfl rfl (ow_load (v := .agg #[.int .i64 x.kind, .int .i64 x.n, .int .i64 x.no, .string x.name, .slice d0A4 x.l.length d0c4]) ty26 H rfl 1 rfl rfl rfl rfl ?_)
  refine sr_op rfl rfl (ow_store ty26 H rfl (v := .agg #[.int .i64 x.kind, .int .i64 x.n, .int .i64 x.no, .string x.name, .slice d0A4 x.l.length d0c4]) rfl [.int .i64 x.kind, .int .i64 x.n, .int .i64 x.no, .string x.name, .slice d0A4 x.l.length d0c4] rfl rfl rfl 0 rfl rfl (fun _ H => ?_))
  refine sr_op rfl rfl (ow_assign (v := .bool true) rfl ?_)
  refine sr_nil ?_
  refine st_seq ?_
  refine st_block ?_
  refine st_seq ?_
  refine st_region ?_
  refine sr_op rfl rfl (ow_fieldAddr fd26_0 ty3 rfl rfl (r := 0) rfl ?_)
  refine sr_op rfl rfl (ow_load (v := .int .i64 x.kind) ty3 H rfl 1 rfl rfl rfl rfl ?_)
  refine sr_op rfl rfl (ow_eql rfl rfl ?_)
  refine sr_op rfl rfl (ow_move (v := .bool (decide (x.kind = 1))) rfl ?_)
  refine sr_cut 4 (fun m_ w_ => ∃ (r_ : Sl) (v_ : Bool), m_ = (22, .bool v_) :: (0, .slice s0A off.length s0c) :: (3, .pointer (some ⟨g1, 0, none⟩)) :: (4, .pointer (some ⟨g2, 0, none⟩)) :: (5, .bool true) :: r_ ∧ Hp B I w_ ((g2, Ob [.int .i64 x.kind, .int .i64 x.n, .int .i64 x.no, .string x.name, .slice d0A4 x.l.length d0c4] 26) :: (g1, Ob [.int .i64 x.kind, .int .i64 x.n, .int .i64 x.no, .string x.name, .slice d0A4 x.l.length d0c4] 26) :: L) ∧ v_ = ((decide (x.kind = 1)) || (decide (x.kind = 2)))) (fun again => ?_) ?_
  · rcases hg : decide (x.kind = 1) with _ | _
    · refine sr_want rfl (j := 3) (d := 18) rfl rfl rfl (v := false) rfl rfl (ow_fieldAddr fd26_0 ty3 rfl rfl (r := 0) rfl ?_)
      refine sr_want rfl (j := 3) (d := 18) rfl rfl rfl (v := false) rfl rfl (ow_load (v := .int .i64 x.kind) ty3 H rfl 1 rfl rfl rfl rfl ?_)
      refine sr_want rfl (j := 3) (d := 18) rfl rfl rfl (v := false) rfl rfl (ow_eql rfl rfl ?_)
      refine sr_op rfl rfl (ow_pick (v := .bool (decide (x.kind = 2))) rfl rfl ?_)
      exact sr_live [22, 0, 3, 4, 5] (again _ _ ⟨_, _, rfl, H, by rw [hg] <;> rfl⟩)
    · refine sr_pass rfl (j := 3) (d := 18) rfl rfl rfl (u := true) (v := false) rfl rfl ?_
      refine sr_pass rfl (j := 3) (d := 18) rfl rfl rfl (u := true) (v := false) rfl rfl ?_
      refine sr_pass rfl (j := 3) (d := 18) rfl rfl rfl (u := true) (v := false) rfl rfl ?_
      refine sr_op rfl rfl (ow_pick (v := .bool true) rfl rfl ?_)
      exact sr_live [22, 0, 3, 4, 5] (again _ _ ⟨_, _, rfl, H, by rw [hg] <;> rfl⟩)
  rintro _ _ ⟨r, _, rfl, H, rfl⟩
  refine sr_op rfl rfl (ow_assign (v := .bool ((decide (x.kind = 1)) || (decide (x.kind = 2)))) rfl ?_)
  refine sr_nil ?_
  refine st_cut (fun m_ w_ => ∃ (r_ : Sl), m_ = (0, .slice s0A off.length s0c) :: (3, .pointer (some ⟨g1, 0, none⟩)) :: (4, .pointer (some ⟨g2, 0, none⟩)) :: (5, .bool (leadG off x)) :: r_ ∧ Hp B I w_ ((g2, Ob [.int .i64 x.kind, .int .i64 x.n, .int .i64 x.no, .string x.name, .slice d0A4 x.l.length d0c4] 26) :: (g1, Ob [.int .i64 x.kind, .int .i64 x.n, .int .i64 x.no, .string x.name, .slice d0A4 x.l.length d0c4] 26) :: L)) (fun again => ?_) ?_
  · refine st_cond ((decide (x.kind = 1)) || (decide (x.kind = 2))) rfl (fun hc3 => ?_) (fun hc3 => ?_)
    · rw [leadG_yes hc3 hnm] at again
      refine st_cut (fun m_ w_ => ∃ (r_ : Sl) (v5_ : Bool), m_ = (0, .slice s0A off.length s0c) :: (3, .pointer (some ⟨g1, 0, none⟩)) :: (4, .pointer (some ⟨g2, 0, none⟩)) :: (5, .bool v5_) :: r_ ∧ Hp B I w_ ((g2, Ob [.int .i64 x.kind, .int .i64 x.n, .int .i64 x.no, .string x.name, .slice d0A4 x.l.length d0c4] 26) :: (g1, Ob [.int .i64 x.kind, .int .i64 x.n, .int .i64 x.no, .string x.name, .slice d0A4 x.l.length d0c4] 26) :: L) ∧ v5_ = ((decide (0 ≤ x.no)) && ((decide (x.no < (off.length : Int))) && (decide (nm = x.name))))) (fun again => ?_) ?_
      · rcases Bool.eq_false_or_eq_true (decide (0 ≤ x.no)) with hg4 | hg4
        · rcases Bool.eq_false_or_eq_true (decide (x.no < (off.length : Int))) with hg5 | hg5
          · obtain ⟨b6, o6, us6, hA6, hat6, hul6, hr6⟩ := RepS.get s0 (hnm ⟨of_decide_eq_true hg4, of_decide_eq_true hg5⟩)
            have d6 := hr6
            obtain ⟨rfl, d6_0⟩ := s_iff.1 hr6
            refine st_draw (F := (fun w_ => ∃ I2, Le I I2 ∧ Hp B I2 w_ [(g2, Ob [.int .i64 x.kind, .int .i64 x.n, .int .i64 x.no, .string x.name, .slice d0A4 x.l.length d0c4] 26), (g1, Ob [.int .i64 x.kind, .int .i64 x.n, .int .i64 x.no, .string x.name, .slice d0A4 x.l.length d0c4] 26)])) (p0 := [0, 1, 2, 3, 4, 5, 6, 7, 8, 9, 10, 11, 12, 13, 14, 15, 16, 17, 18, 19, 20]) (plan := []) [] [] [(5, .bool (decide (nm = x.name))), (42, .bool (decide (nm = x.name))), (41, .bool (decide (nm = x.name))), (40, .string x.name), (39, .pointer (some ⟨g1, 3, none⟩)), (38, .string nm), (37, .pointer (some ⟨b6, o6 + x.no.toNat * 1, none⟩)), (36, .int .i64 x.no), (35, .pointer (some ⟨g1, 2, none⟩)), (34, .slice s0A off.length s0c), (33, .bool (decide (x.no < (off.length : Int)))), (32, .bool (decide (x.no < (off.length : Int)))), (31, .bool (decide (x.no < (off.length : Int)))), (30, .int .i64 (off.length : Int)), (29, .slice s0A off.length s0c), (28, .int .i64 x.no), (27, .pointer (some ⟨g1, 2, none⟩)), (26, .bool (decide (0 ≤ x.no))), (25, .bool (decide (0 ≤ x.no))), (24, .int .i64 x.no), (23, .pointer (some ⟨g1, 2, none⟩))] (by kernel_rfl) rfl ?_ ⟨_, Le.refl _, H.drew.pick [0, 1] (by decide)⟩ ?_
            · refine ⟨kn_op rfl rfl (wantB_none rfl) fun _ hF2 => ?_, ?_⟩
              · obtain ⟨_, hle2, H2⟩ := hF2
                refine  (ow_fieldAddr fd26_2 ty3 rfl rfl (r := 2) rfl ?_)
                exact ⟨rfl, rfl⟩
              refine ⟨kn_op rfl rfl (wantB_none rfl) fun _ hF2 => ?_, ?_⟩
              · obtain ⟨_, hle2, H2⟩ := hF2
                refine  (ow_load (v := .int .i64 x.no) ty3 H2 rfl 1 rfl rfl rfl rfl ?_)
                exact ⟨rfl, rfl⟩
              refine ⟨kn_op rfl rfl (wantB_none rfl) fun _ hF2 => ?_, ?_⟩
              · obtain ⟨_, hle2, H2⟩ := hF2
                refine  (ow_geq rfl rfl ?_)
                exact ⟨rfl, rfl⟩
              refine ⟨kn_op rfl rfl (wantB_none rfl) fun _ hF2 => ?_, ?_⟩
              · obtain ⟨_, hle2, H2⟩ := hF2
                refine  (ow_move (v := .bool (decide (0 ≤ x.no))) rfl ?_)
                exact ⟨rfl, rfl⟩
              refine ⟨kn_op rfl rfl ((wantB_some (j := 3) rfl rfl (d := 26) rfl rfl (u := true) (by exact congrArg Value.bool hg4)).trans rfl) fun _ hF2 => ?_, ?_⟩
              · obtain ⟨_, hle2, H2⟩ := hF2
                refine  (ow_fieldAddr fd26_2 ty3 rfl rfl (r := 2) rfl ?_)
                exact ⟨rfl, rfl⟩
              refine ⟨kn_op rfl rfl ((wantB_some (j := 3) rfl rfl (d := 26) rfl rfl (u := true) (by exact congrArg Value.bool hg4)).trans rfl) fun _ hF2 => ?_, ?_⟩
              · obtain ⟨_, hle2, H2⟩ := hF2
                refine  (ow_load (v := .int .i64 x.no) ty3 H2 rfl 1 rfl rfl rfl rfl ?_)
                exact ⟨rfl, rfl⟩
              refine ⟨kn_op rfl rfl ((wantB_some (j := 3) rfl rfl (d := 26) rfl rfl (u := true) (by exact congrArg Value.bool hg4)).trans rfl) fun _ hF2 => ?_, ?_⟩
              · obtain ⟨_, hle2, H2⟩ := hF2
                refine  (ow_move (v := .slice s0A off.length s0c) rfl ?_)
                exact ⟨rfl, rfl⟩
              refine ⟨kn_op rfl rfl ((wantB_some (j := 3) rfl rfl (d := 26) rfl rfl (u := true) (by exact congrArg Value.bool hg4)).trans rfl) fun _ hF2 => ?_, ?_⟩
              · obtain ⟨_, hle2, H2⟩ := hF2
                refine  (ow_lenS sl22 rfl rfl ?_)
                exact ⟨rfl, rfl⟩
              refine ⟨kn_op rfl rfl ((wantB_some (j := 3) rfl rfl (d := 26) rfl rfl (u := true) (by exact congrArg Value.bool hg4)).trans rfl) fun _ hF2 => ?_, ?_⟩
              · obtain ⟨_, hle2, H2⟩ := hF2
                refine  (ow_lss rfl rfl ?_)
                exact ⟨rfl, rfl⟩
              refine ⟨kn_op rfl rfl (wantB_none rfl) fun _ hF2 => ?_, ?_⟩
              · obtain ⟨_, hle2, H2⟩ := hF2
                refine  (ow_pick (a := true) (v := .bool (decide (x.no < (off.length : Int)))) (congrArg Value.bool hg4) rfl ?_)
                exact ⟨rfl, rfl⟩
              refine ⟨kn_op rfl rfl (wantB_none rfl) fun _ hF2 => ?_, ?_⟩
              · obtain ⟨_, hle2, H2⟩ := hF2
                refine  (ow_move (v := .bool (decide (x.no < (off.length : Int)))) rfl ?_)
                exact ⟨rfl, rfl⟩
              refine ⟨kn_op rfl rfl ((wantB_some (j := 10) rfl rfl (d := 33) rfl rfl (u := true) (by exact congrArg Value.bool hg5)).trans rfl) fun _ hF2 => ?_, ?_⟩
              · obtain ⟨_, hle2, H2⟩ := hF2
                refine  (ow_move (v := .slice s0A off.length s0c) rfl ?_)
                exact ⟨rfl, rfl⟩
              refine ⟨kn_op rfl rfl ((wantB_some (j := 10) rfl rfl (d := 33) rfl rfl (u := true) (by exact congrArg Value.bool hg5)).trans rfl) fun _ hF2 => ?_, ?_⟩
              · obtain ⟨_, hle2, H2⟩ := hF2
                refine  (ow_fieldAddr fd26_2 ty3 rfl rfl (r := 2) rfl ?_)
                exact ⟨rfl, rfl⟩
              refine ⟨kn_op rfl rfl ((wantB_some (j := 10) rfl rfl (d := 33) rfl rfl (u := true) (by exact congrArg Value.bool hg5)).trans rfl) fun _ hF2 => ?_, ?_⟩
              · obtain ⟨_, hle2, H2⟩ := hF2
                refine  (ow_load (v := .int .i64 x.no) ty3 H2 rfl 1 rfl rfl rfl rfl ?_)
                exact ⟨rfl, rfl⟩
              refine ⟨kn_op rfl rfl ((wantB_some (j := 10) rfl rfl (d := 33) rfl rfl (u := true) (by exact congrArg Value.bool hg5)).trans rfl) fun _ hF2 => ?_, ?_⟩
              · obtain ⟨_, hle2, H2⟩ := hF2
                refine  (ow_indexAddrA sl22 ty9 hA6 rfl rfl (of_decide_eq_true hg4) (of_decide_eq_true hg5) (r := o6 + x.no.toNat * 1) rfl ?_)
                exact ⟨rfl, rfl⟩
              refine ⟨kn_op rfl rfl ((wantB_some (j := 10) rfl rfl (d := 33) rfl rfl (u := true) (by exact congrArg Value.bool hg5)).trans rfl) fun _ hF2 => ?_, ?_⟩
              · obtain ⟨_, hle2, H2⟩ := hF2
                refine  (ow_loadI (v := .string nm) ty9 H2 rfl (At.mono hle2 hat6) rfl rfl rfl ?_)
                exact ⟨rfl, rfl⟩
              refine ⟨kn_op rfl rfl ((wantB_some (j := 10) rfl rfl (d := 33) rfl rfl (u := true) (by exact congrArg Value.bool hg5)).trans rfl) fun _ hF2 => ?_, ?_⟩
              · obtain ⟨_, hle2, H2⟩ := hF2
                refine  (ow_fieldAddr fd26_3 ty9 rfl rfl (r := 3) rfl ?_)
                exact ⟨rfl, rfl⟩
              refine ⟨kn_op rfl rfl ((wantB_some (j := 10) rfl rfl (d := 33) rfl rfl (u := true) (by exact congrArg Value.bool hg5)).trans rfl) fun _ hF2 => ?_, ?_⟩
              · obtain ⟨_, hle2, H2⟩ := hF2
                refine  (ow_load (v := .string x.name) ty9 H2 rfl 1 rfl rfl rfl rfl ?_)
                exact ⟨rfl, rfl⟩
              refine ⟨kn_op rfl rfl ((wantB_some (j := 10) rfl rfl (d := 33) rfl rfl (u := true) (by exact congrArg Value.bool hg5)).trans rfl) fun _ hF2 => ?_, ?_⟩
              · obtain ⟨_, hle2, H2⟩ := hF2
                refine  (ow_seq rfl rfl ?_)
                exact ⟨rfl, rfl⟩
              refine ⟨kn_op rfl rfl (wantB_none rfl) fun _ hF2 => ?_, ?_⟩
              · obtain ⟨_, hle2, H2⟩ := hF2
                refine  (ow_pick (a := true) (v := .bool (decide (nm = x.name))) (congrArg Value.bool hg5) rfl ?_)
                exact ⟨rfl, rfl⟩
              refine ⟨kn_op rfl rfl (wantB_none rfl) fun _ hF2 => ?_, ?_⟩
              · obtain ⟨_, hle2, H2⟩ := hF2
                refine  (ow_assign (v := .bool (decide (nm = x.name))) rfl ?_)
                exact ⟨rfl, rfl⟩
              exact trivial
            have H := H.drew
            refine cw_nil ?_
            exact st_live [0, 3, 4, 5] (again _ _ ⟨_, _, rfl, H, by first | rfl | (rw [hg4, hg5] <;> rfl) | simp [hg4, hg5]⟩)
          · refine st_draw (F := (fun w_ => ∃ I2, Le I I2 ∧ Hp B I2 w_ [(g2, Ob [.int .i64 x.kind, .int .i64 x.n, .int .i64 x.no, .string x.name, .slice d0A4 x.l.length d0c4] 26), (g1, Ob [.int .i64 x.kind, .int .i64 x.n, .int .i64 x.no, .string x.name, .slice d0A4 x.l.length d0c4] 26)])) (p0 := [0, 1, 2, 3, 4, 5, 6, 7, 8, 9, 10, 11, 12, 13, 14, 15, 16, 17, 18, 19, 20]) (plan := []) [] [] [(5, .bool false), (42, .bool false), (41, undef), (40, undef), (39, undef), (38, undef), (37, undef), (36, undef), (35, undef), (34, undef), (33, .bool (decide (x.no < (off.length : Int)))), (32, .bool (decide (x.no < (off.length : Int)))), (31, .bool (decide (x.no < (off.length : Int)))), (30, .int .i64 (off.length : Int)), (29, .slice s0A off.length s0c), (28, .int .i64 x.no), (27, .pointer (some ⟨g1, 2, none⟩)), (26, .bool (decide (0 ≤ x.no))), (25, .bool (decide (0 ≤ x.no))), (24, .int .i64 x.no), (23, .pointer (some ⟨g1, 2, none⟩))] (by kernel_rfl) rfl ?_ ⟨_, Le.refl _, H.drew.pick [0, 1] (by decide)⟩ ?_
            · refine ⟨kn_op rfl rfl (wantB_none rfl) fun _ hF2 => ?_, ?_⟩
              · obtain ⟨_, hle2, H2⟩ := hF2
                refine  (ow_fieldAddr fd26_2 ty3 rfl rfl (r := 2) rfl ?_)
                exact ⟨rfl, rfl⟩
              refine ⟨kn_op rfl rfl (wantB_none rfl) fun _ hF2 => ?_, ?_⟩
              · obtain ⟨_, hle2, H2⟩ := hF2
                refine  (ow_load (v := .int .i64 x.no) ty3 H2 rfl 1 rfl rfl rfl rfl ?_)
                exact ⟨rfl, rfl⟩
              refine ⟨kn_op rfl rfl (wantB_none rfl) fun _ hF2 => ?_, ?_⟩
              · obtain ⟨_, hle2, H2⟩ := hF2
                refine  (ow_geq rfl rfl ?_)
                exact ⟨rfl, rfl⟩
              refine ⟨kn_op rfl rfl (wantB_none rfl) fun _ hF2 => ?_, ?_⟩
              · obtain ⟨_, hle2, H2⟩ := hF2
                refine  (ow_move (v := .bool (decide (0 ≤ x.no))) rfl ?_)
                exact ⟨rfl, rfl⟩
              refine ⟨kn_op rfl rfl ((wantB_some (j := 3) rfl rfl (d := 26) rfl rfl (u := true) (by exact congrArg Value.bool hg4)).trans rfl) fun _ hF2 => ?_, ?_⟩
              · obtain ⟨_, hle2, H2⟩ := hF2
                refine  (ow_fieldAddr fd26_2 ty3 rfl rfl (r := 2) rfl ?_)
                exact ⟨rfl, rfl⟩
              refine ⟨kn_op rfl rfl ((wantB_some (j := 3) rfl rfl (d := 26) rfl rfl (u := true) (by exact congrArg Value.bool hg4)).trans rfl) fun _ hF2 => ?_, ?_⟩
              · obtain ⟨_, hle2, H2⟩ := hF2
                refine  (ow_load (v := .int .i64 x.no) ty3 H2 rfl 1 rfl rfl rfl rfl ?_)
                exact ⟨rfl, rfl⟩
              refine ⟨kn_op rfl rfl ((wantB_some (j := 3) rfl rfl (d := 26) rfl rfl (u := true) (by exact congrArg Value.bool hg4)).trans rfl) fun _ hF2 => ?_, ?_⟩
              · obtain ⟨_, hle2, H2⟩ := hF2
                refine  (ow_move (v := .slice s0A off.length s0c) rfl ?_)
                exact ⟨rfl, rfl⟩
              refine ⟨kn_op rfl rfl ((wantB_some (j := 3) rfl rfl (d := 26) rfl rfl (u := true) (by exact congrArg Value.bool hg4)).trans rfl) fun _ hF2 => ?_, ?_⟩
              · obtain ⟨_, hle2, H2⟩ := hF2
                refine  (ow_lenS sl22 rfl rfl ?_)
                exact ⟨rfl, rfl⟩
              refine ⟨kn_op rfl rfl ((wantB_some (j := 3) rfl rfl (d := 26) rfl rfl (u := true) (by exact congrArg Value.bool hg4)).trans rfl) fun _ hF2 => ?_, ?_⟩
              · obtain ⟨_, hle2, H2⟩ := hF2
                refine  (ow_lss rfl rfl ?_)
                exact ⟨rfl, rfl⟩
              refine ⟨kn_op rfl rfl (wantB_none rfl) fun _ hF2 => ?_, ?_⟩
              · obtain ⟨_, hle2, H2⟩ := hF2
                refine  (ow_pick (a := true) (v := .bool (decide (x.no < (off.length : Int)))) (congrArg Value.bool hg4) rfl ?_)
                exact ⟨rfl, rfl⟩
              refine ⟨kn_op rfl rfl (wantB_none rfl) fun _ hF2 => ?_, ?_⟩
              · obtain ⟨_, hle2, H2⟩ := hF2
                refine  (ow_move (v := .bool (decide (x.no < (off.length : Int)))) rfl ?_)
                exact ⟨rfl, rfl⟩
              refine ⟨kn_pass rfl rfl ((wantB_some (j := 10) rfl rfl (d := 33) rfl rfl (u := false) (by exact congrArg Value.bool hg5)).trans rfl) rfl, ?_⟩
              refine ⟨kn_pass rfl rfl ((wantB_some (j := 10) rfl rfl (d := 33) rfl rfl (u := false) (by exact congrArg Value.bool hg5)).trans rfl) rfl, ?_⟩
              refine ⟨kn_pass rfl rfl ((wantB_some (j := 10) rfl rfl (d := 33) rfl rfl (u := false) (by exact congrArg Value.bool hg5)).trans rfl) rfl, ?_⟩
              refine ⟨kn_pass rfl rfl ((wantB_some (j := 10) rfl rfl (d := 33) rfl rfl (u := false) (by exact congrArg Value.bool hg5)).trans rfl) rfl, ?_⟩
              refine ⟨kn_pass rfl rfl ((wantB_some (j := 10) rfl rfl (d := 33) rfl rfl (u := false) (by exact congrArg Value.bool hg5)).trans rfl) rfl, ?_⟩
              refine ⟨kn_pass rfl rfl ((wantB_some (j := 10) rfl rfl (d := 33) rfl rfl (u := false) (by exact congrArg Value.bool hg5)).trans rfl) rfl, ?_⟩
              refine ⟨kn_pass rfl rfl ((wantB_some (j := 10) rfl rfl (d := 33) rfl rfl (u := false) (by exact congrArg Value.bool hg5)).trans rfl) rfl, ?_⟩
              refine ⟨kn_pass rfl rfl ((wantB_some (j := 10) rfl rfl (d := 33) rfl rfl (u := false) (by exact congrArg Value.bool hg5)).trans rfl) rfl, ?_⟩
              refine ⟨kn_op rfl rfl (wantB_none rfl) fun _ hF2 => ?_, ?_⟩
              · obtain ⟨_, hle2, H2⟩ := hF2
                refine  (ow_pick (a := false) (v := .bool false) (congrArg Value.bool hg5) rfl ?_)
                exact ⟨rfl, rfl⟩
              refine ⟨kn_op rfl rfl (wantB_none rfl) fun _ hF2 => ?_, ?_⟩
              · obtain ⟨_, hle2, H2⟩ := hF2
                refine  (ow_assign (v := .bool false) rfl ?_)
                exact ⟨rfl, rfl⟩
              exact trivial
            have H := H.drew
            refine cw_nil ?_
            exact st_live [0, 3, 4, 5] (again _ _ ⟨_, _, rfl, H, by first | rfl | (rw [hg4, hg5] <;> rfl) | simp [hg4, hg5]⟩)
        · refine st_draw (F := (fun w_ => ∃ I2, Le I I2 ∧ Hp B I2 w_ [(g2, Ob [.int .i64 x.kind, .int .i64 x.n, .int .i64 x.no, .string x.name, .slice d0A4 x.l.length d0c4] 26), (g1, Ob [.int .i64 x.kind, .int .i64 x.n, .int .i64 x.no, .string x.name, .slice d0A4 x.l.length d0c4] 26)])) (p0 := [0, 1, 2, 3, 4, 5, 6, 7, 8, 9, 10, 11, 12, 13, 14, 15, 16, 17, 18, 19, 20]) (plan := []) [] [] [(5, .bool false), (42, .bool false), (41, undef), (40, undef), (39, undef), (38, undef), (37, undef), (36, undef), (35, undef), (34, undef), (33, .bool false), (32, .bool false), (31, undef), (30, undef), (29, undef), (28, undef), (27, undef), (26, .bool (decide (0 ≤ x.no))), (25, .bool (decide (0 ≤ x.no))), (24, .int .i64 x.no), (23, .pointer (some ⟨g1, 2, none⟩))] (by kernel_rfl) rfl ?_ ⟨_, Le.refl _, H.drew.pick [0, 1] (by decide)⟩ ?_
          · refine ⟨kn_op rfl rfl (wantB_none rfl) fun _ hF2 => ?_, ?_⟩
            · obtain ⟨_, hle2, H2⟩ := hF2
              refine  (ow_fieldAddr fd26_2 ty3 rfl rfl (r := 2) rfl ?_)
              exact ⟨rfl, rfl⟩
            refine ⟨kn_op rfl rfl (wantB_none rfl) fun _ hF2 => ?_, ?_⟩
            · obtain ⟨_, hle2, H2⟩ := hF2
              refine  (ow_load (v := .int .i64 x.no) ty3 H2 rfl 1 rfl rfl rfl rfl ?_)
              exact ⟨rfl, rfl⟩
            refine ⟨kn_op rfl rfl (wantB_none rfl) fun _ hF2 => ?_, ?_⟩
            · obtain ⟨_, hle2, H2⟩ := hF2
              refine  (ow_geq rfl rfl ?_)
              exact ⟨rfl, rfl⟩
            refine ⟨kn_op rfl rfl (wantB_none rfl) fun _ hF2 => ?_, ?_⟩
            · obtain ⟨_, hle2, H2⟩ := hF2
              refine  (ow_move (v := .bool (decide (0 ≤ x.no))) rfl ?_)
              exact ⟨rfl, rfl⟩
            refine ⟨kn_pass rfl rfl ((wantB_some (j := 3) rfl rfl (d := 26) rfl rfl (u := false) (by exact congrArg Value.bool hg4)).trans rfl) rfl, ?_⟩
            refine ⟨kn_pass rfl rfl ((wantB_some (j := 3) rfl rfl (d := 26) rfl rfl (u := false) (by exact congrArg Value.bool hg4)).trans rfl) rfl, ?_⟩
            refine ⟨kn_pass rfl rfl ((wantB_some (j := 3) rfl rfl (d := 26) rfl rfl (u := false) (by exact congrArg Value.bool hg4)).trans rfl) rfl, ?_⟩
            refine ⟨kn_pass rfl rfl ((wantB_some (j := 3) rfl rfl (d := 26) rfl rfl (u := false) (by exact congrArg Value.bool hg4)).trans rfl) rfl, ?_⟩
            refine ⟨kn_pass rfl rfl ((wantB_some (j := 3) rfl rfl (d := 26) rfl rfl (u := false) (by exact congrArg Value.bool hg4)).trans rfl) rfl, ?_⟩
            refine ⟨kn_op rfl rfl (wantB_none rfl) fun _ hF2 => ?_, ?_⟩
            · obtain ⟨_, hle2, H2⟩ := hF2
              refine  (ow_pick (a := false) (v := .bool false) (congrArg Value.bool hg4) rfl ?_)
              exact ⟨rfl, rfl⟩
            refine ⟨kn_op rfl rfl (wantB_none rfl) fun _ hF2 => ?_, ?_⟩
            · obtain ⟨_, hle2, H2⟩ := hF2
              refine  (ow_move (v := .bool false) rfl ?_)
              exact ⟨rfl, rfl⟩
            refine ⟨kn_pass rfl rfl ((wantB_some (j := 10) rfl rfl (d := 33) rfl rfl (u := false) rfl).trans rfl) rfl, ?_⟩
            refine ⟨kn_pass rfl rfl ((wantB_some (j := 10) rfl rfl (d := 33) rfl rfl (u := false) rfl).trans rfl) rfl, ?_⟩
            refine ⟨kn_pass rfl rfl ((wantB_some (j := 10) rfl rfl (d := 33) rfl rfl (u := false) rfl).trans rfl) rfl, ?_⟩
            refine ⟨kn_pass rfl rfl ((wantB_some (j := 10) rfl rfl (d := 33) rfl rfl (u := false) rfl).trans rfl) rfl, ?_⟩
            refine ⟨kn_pass rfl rfl ((wantB_some (j := 10) rfl rfl (d := 33) rfl rfl (u := false) rfl).trans rfl) rfl, ?_⟩
            refine ⟨kn_pass rfl rfl ((wantB_some (j := 10) rfl rfl (d := 33) rfl rfl (u := false) rfl).trans rfl) rfl, ?_⟩
            refine ⟨kn_pass rfl rfl ((wantB_some (j := 10) rfl rfl (d := 33) rfl rfl (u := false) rfl).trans rfl) rfl, ?_⟩
            refine ⟨kn_pass rfl rfl ((wantB_some (j := 10) rfl rfl (d := 33) rfl rfl (u := false) rfl).trans rfl) rfl, ?_⟩
            refine ⟨kn_op rfl rfl (wantB_none rfl) fun _ hF2 => ?_, ?_⟩
            · obtain ⟨_, hle2, H2⟩ := hF2
              refine  (ow_pick (v := .bool false) rfl rfl ?_)
              exact ⟨rfl, rfl⟩
            refine ⟨kn_op rfl rfl (wantB_none rfl) fun _ hF2 => ?_, ?_⟩
            · obtain ⟨_, hle2, H2⟩ := hF2
              refine  (ow_assign (v := .bool false) rfl ?_)
              exact ⟨rfl, rfl⟩
            exact trivial
          have H := H.drew
          refine cw_nil ?_
          exact st_live [0, 3, 4, 5] (again _ _ ⟨_, _, rfl, H, by first | rfl | (rw [hg4] <;> rfl) | simp [hg4]⟩)
      rintro _ _ ⟨r7, _, rfl, H, rfl⟩
      exact st_live [0, 3, 4, 5] (again _ _ ⟨_, rfl, H⟩)
    · rw [leadG_no (by unfold isNamed; rw [hc3]; decide)] at again
      refine st_region ?_
      refine sr_op rfl rfl (ow_fieldAddr fd26_2 ty3 rfl rfl (r := 2) rfl ?_)
      refine sr_op rfl rfl (ow_load (v := .int .i64 x.no) ty3 H rfl 1 rfl rfl rfl rfl ?_)
      refine sr_op rfl rfl (ow_eql rfl rfl ?_)
      refine sr_op rfl rfl (ow_assign (v := .bool (decide (x.no = 0))) rfl ?_)
      refine sr_nil ?_
      exact st_live [0, 3, 4, 5] (again _ _ ⟨_, rfl, H⟩)
  rintro _ _ ⟨r8, rfl, H⟩
  refine st_inBlock ?_
  refine st_seq ?_
  refine st_region ?_
  refine sr_op rfl rfl (ow_fieldAddr fd26_2 ty3 rfl rfl (r := 2) rfl ?_)
  refine sr_op rfl rfl (ow_store ty3 H rfl (v := .int .i64 0) rfl [.int .i64 0] rfl rfl rfl 0 rfl rfl (fun _ H => ?_))
  refine sr_op rfl rfl (ow_fieldAddr fd26_4 ty24 rfl rfl (r := 4) rfl ?_)
  refine sr_op rfl rfl (ow_store ty24 H rfl (v := .slice none 0 0) rfl [.slice none 0 0] rfl rfl rfl 0 rfl rfl (fun _ H => ?_))
  refine sr_nil ?_
  refine st_seq ?_
  refine st_seq ?_
  refine st_region ?_
  refine sr_op rfl rfl (ow_fieldAddr fd26_4 ty24 rfl rfl (r := 4) rfl ?_)
  refine sr_op rfl rfl (ow_load (v := .slice d0A4 x.l.length d0c4) ty24 H rfl 1 rfl rfl rfl rfl ?_)
  refine sr_op rfl rfl (ow_lenS sl24 rfl rfl ?_)
  refine sr_op rfl rfl (ow_move (v := .int .i64 0) rfl ?_)
  refine sr_nil ?_
  refine st_block ?_
  refine st_loop ?_
  refine st_live [0, 4, 5, 46, 47, 48] ?_
  refine st_ind (fun d_ m_ w_ => ∃ (i : Nat) (ok : Bool) (J9 : Im) (Aa_ : Option Addr) (na_ ca_ : Nat) (cs_ : List Value) (r_ : Sl), d_ = x.l.length - i ∧ m_ = (0, .slice s0A off.length s0c) :: (4, .pointer (some ⟨g2, 0, none⟩)) :: (5, .bool ok) :: (46, .slice d0A4 x.l.length d0c4) :: (47, .int .i64 (x.l.length : Int)) :: (48, .int .i64 (i : Int)) :: r_ ∧ Hp B J9 w_ ((g2, Ob [.int .i64 x.kind, .int .i64 x.n, .int .i64 0, .string x.name, .slice Aa_ na_ ca_] 26) :: (g1, Ob [.int .i64 x.kind, .int .i64 x.n, .int .i64 x.no, .string x.name, .slice d0A4 x.l.length d0c4] 26) :: (rowL (.slice Aa_ na_ ca_) cs_ 26 ++ L)) ∧ Le I J9 ∧ Acc J9 5 (.slice Aa_ na_ ca_) cs_ (((x.l.take i).map (bareX 0)).map encEx) ∧ i ≤ x.l.length ∧ ok = (leadG off x && (x.l.take i).all (allX (leadG off)))) _ ⟨0, leadG off x, I, none, 0, 0, [], _, rfl, rfl, H, Le.refl _, Acc.none_ _ _ _, Nat.zero_le _, by simp⟩ ?_
  rintro _ _ _ ⟨i, ok, J9, Aa_, na_, ca_, cs_, r10, rfl, rfl, H, hJ9, ha_, hi, hok⟩ ih11
  refine st_seq ?_
  refine st_region ?_
  refine sr_op rfl rfl (ow_lss rfl rfl ?_)
  refine sr_nil ?_
  refine st_seq ?_
  refine st_cond (decide ((i : Int) < (x.l.length : Int))) rfl (fun hc12 => ?_) (fun hc12 => ?_)
  · have hc12 := of_decide_eq_true hc12
    refine st_skip ?_
    refine st_seq ?_
    refine st_block ?_
    refine st_seq ?_
    refine st_region ?_
    have d0_4 := (d0_4.mono hJ9)
    obtain ⟨e13, he13⟩ : ∃ q_, x.l[i]? = some q_ := ⟨_, List.getElem?_eq_getElem (by omega)⟩
    obtain ⟨b13, o13, us13, hA13, hat13, hul13, hr13⟩ := RepS.get d0_4 he13
    have d13 := hr13
    obtain ⟨d13v4, rfl, d13_0, d13_1, d13_2, d13_3, d13_4⟩ := ex_iff.1 hr13
    obtain ⟨d13A4, d13c4, rfl, d13m4, d13M4, d13_4⟩ := RepS.open_ d13_4
    refine sr_op rfl rfl (ow_indexAddrA sl24 ty26 hA13 rfl rfl (by omega) (by omega) (r := o13 + i * 5) rfl ?_)
    refine sr_op rfl rfl (ow_loadI (v := .agg #[.int .i64 e13.kind, .int .i64 e13.n, .int .i64 e13.no, .string e13.name, .slice d13A4 e13.l.length d13c4]) ty26 H rfl hat13 rfl rfl rfl ?_)
    refine sr_op rfl rfl (ow_alloc ty26 H [.int .i64 0, .int .i64 0, .int .i64 0, .string ⟨#[]⟩, .slice none 0 0] rfl (fun g14 _ H => ?_))
    refine sr_op rfl rfl (ow_store ty26 H rfl (v := .agg #[.int .i64 e13.kind, .int .i64 e13.n, .int .i64 e13.no, .string e13.name, .slice d13A4 e13.l.length d13c4]) rfl [.int .i64 e13.kind, .int .i64 e13.n, .int .i64 e13.no, .string e13.name, .slice d13A4 e13.l.length d13c4] rfl rfl rfl 0 rfl rfl (fun _ H => ?_))
    refine sr_nil ?_
    refine st_seq ?_
    refine st_region ?_
    refine sr_op rfl rfl (ow_move (v := .slice s0A off.length s0c) rfl ?_)
    refine sr_op rfl rfl (ow_load (v := .agg #[.int .i64 e13.kind, .int .i64 e13.n, .int .i64 e13.no, .string e13.name, .slice d13A4 e13.l.length d13c4]) ty26 H rfl 0 rfl rfl rfl rfl ?_)
    have s0 := (s0.mono hJ9)
    refine sr_op rfl rfl (ow_call en29 rfl (ih (x := e13) (by have := Ex.pc_at he13; omega) (by omega) H d13 s0) ?_)
    rintro _ _ ⟨I15, us15, hI15, H, rfl, hr15⟩
    have d15 := hr15
    obtain ⟨d15v4, rfl, d15_0, d15_1, d15_2, d15_3, d15_4⟩ := ex_iff.1 hr15
    obtain ⟨d15A4, d15c4, rfl, d15m4, d15M4, d15_4⟩ := RepS.open_ d15_4
    refine sr_op rfl rfl (ow_move (v := .tuple #[.agg #[.int .i64 ((bareX 0 e13).kind), .int .i64 ((bareX 0 e13).n), .int .i64 ((bareX 0 e13).no), .string ((bareX 0 e13).name), .slice d15A4 ((bareX 0 e13).l.length) d15c4], .bool (allX (leadG off) e13)]) rfl ?_)
    refine sr_op rfl rfl (ow_extract (v := .agg #[.int .i64 ((bareX 0 e13).kind), .int .i64 ((bareX 0 e13).n), .int .i64 ((bareX 0 e13).no), .string ((bareX 0 e13).name), .slice d15A4 ((bareX 0 e13).l.length) d15c4]) rfl rfl ?_)
    refine sr_op rfl rfl (ow_extract (v := .bool (allX (leadG off) e13)) rfl rfl ?_)
    refine sr_op rfl rfl (ow_alloc ty26 H [.int .i64 0, .int .i64 0, .int .i64 0, .string ⟨#[]⟩, .slice none 0 0] rfl (fun g16 _ H => ?_))
    refine sr_op rfl rfl (ow_store ty26 H rfl (v := .agg #[.int .i64 ((bareX 0 e13).kind), .int .i64 ((bareX 0 e13).n), .int .i64 ((bareX 0 e13).no), .string ((bareX 0 e13).name), .slice d15A4 ((bareX 0 e13).l.length) d15c4]) rfl [.int .i64 ((bareX 0 e13).kind), .int .i64 ((bareX 0 e13).n), .int .i64 ((bareX 0 e13).no), .string ((bareX 0 e13).name), .slice d15A4 ((bareX 0 e13).l.length) d15c4] rfl rfl rfl 0 rfl rfl (fun _ H => ?_))
    refine sr_op rfl rfl (ow_assign (v := .bool (allX (leadG off) e13)) rfl ?_)
    refine sr_nil ?_
    refine st_region ?_
    refine sr_op rfl rfl (ow_fieldAddr fd26_4 ty24 rfl rfl (r := 4) rfl ?_)
    refine sr_op rfl rfl (ow_load (v := .slice Aa_ na_ ca_) ty24 H rfl 2 rfl rfl rfl rfl ?_)
    refine sr_op rfl rfl (ow_load (v := .agg #[.int .i64 ((bareX 0 e13).kind), .int .i64 ((bareX 0 e13).n), .int .i64 ((bareX 0 e13).no), .string ((bareX 0 e13).name), .slice d15A4 ((bareX 0 e13).l.length) d15c4]) ty26 H rfl 0 rfl rfl rfl rfl ?_)
    refine sr_op rfl rfl (ow_buildSlice H (e := 26) (ps := [(0, .agg #[.int .i64 ((bareX 0 e13).kind), .int .i64 ((bareX 0 e13).n), .int .i64 ((bareX 0 e13).no), .string ((bareX 0 e13).name), .slice d15A4 ((bareX 0 e13).l.length) d15c4])]) rfl [.int .i64 ((bareX 0 e13).kind), .int .i64 ((bareX 0 e13).n), .int .i64 ((bareX 0 e13).no), .string ((bareX 0 e13).name), .slice d15A4 ((bareX 0 e13).l.length) d15c4] (fun _ => by kernel_rfl) (fun g17 _ H => ?_))
    have ha_ := (ha_.mono hI15)
    refine sr_op rfl rfl (ow_append1 sl24 ty26 rfl rfl [(g16, Ob [.int .i64 ((bareX 0 e13).kind), .int .i64 ((bareX 0 e13).n), .int .i64 ((bareX 0 e13).no), .string ((bareX 0 e13).name), .slice d15A4 ((bareX 0 e13).l.length) d15c4] 26), (g14, Ob [.int .i64 e13.kind, .int .i64 e13.n, .int .i64 e13.no, .string e13.name, .slice d13A4 e13.l.length d13c4] 26), (g2, Ob [.int .i64 x.kind, .int .i64 x.n, .int .i64 0, .string x.name, .slice Aa_ na_ ca_] 26), (g1, Ob [.int .i64 x.kind, .int .i64 x.n, .int .i64 x.no, .string x.name, .slice d0A4 x.l.length d0c4] 26)] (v := .slice Aa_ na_ ca_) (cs := cs_) (L := L) H ha_ rfl rfl (d15) (len_ex _) (plain_ex _) (by have := x.len_pc; simp only [List.length_map, List.length_take]; omega) (by have := x.len_pc; simp only [List.length_map, List.length_take]; omega) (fun va18 cs19 _ H ha_ => ?_))
    obtain ⟨Aa20, na20, ca20, rfl⟩ := Acc.form ha_
    refine sr_op rfl rfl (ow_move (v := .bool ok) rfl ?_)
    refine sr_op rfl rfl (ow_move (v := .bool ok) rfl ?_)
    refine sr_cut 2 (fun m_ w_ => ∃ (r_ : Sl) (v_ : Bool), m_ = (66, .bool v_) :: (0, .slice s0A off.length s0c) :: (4, .pointer (some ⟨g2, 0, none⟩)) :: (5, .bool ok) :: (46, .slice d0A4 x.l.length d0c4) :: (47, .int .i64 (x.l.length : Int)) :: (48, .int .i64 (i : Int)) :: (62, .slice Aa20 na20 ca20) :: r_ ∧ Hp B I15 w_ ((g16, Ob [.int .i64 ((bareX 0 e13).kind), .int .i64 ((bareX 0 e13).n), .int .i64 ((bareX 0 e13).no), .string ((bareX 0 e13).name), .slice d15A4 ((bareX 0 e13).l.length) d15c4] 26) :: (g14, Ob [.int .i64 e13.kind, .int .i64 e13.n, .int .i64 e13.no, .string e13.name, .slice d13A4 e13.l.length d13c4] 26) :: (g2, Ob [.int .i64 x.kind, .int .i64 x.n, .int .i64 0, .string x.name, .slice Aa_ na_ ca_] 26) :: (g1, Ob [.int .i64 x.kind, .int .i64 x.n, .int .i64 x.no, .string x.name, .slice d0A4 x.l.length d0c4] 26) :: (rowL (.slice Aa20 na20 ca20) cs19 26 ++ L)) ∧ v_ = (ok && (allX (leadG off) e13))) (fun again => ?_) ?_
    · rcases hg : ok with _ | _
      · refine sr_pass rfl (j := 6) (d := 64) rfl rfl rfl (u := false) (v := true) rfl rfl ?_
        refine sr_op rfl rfl (ow_pick (v := .bool false) rfl rfl ?_)
        rw [hg] at again
        exact sr_live [66, 0, 4, 5, 46, 47, 48, 62] (again _ _ ⟨_, _, rfl, H, by first | rfl | (rw [hg] <;> rfl)⟩)
      · refine sr_want rfl (j := 6) (d := 64) rfl rfl rfl (v := true) rfl rfl (ow_move (v := .bool (allX (leadG off) e13)) rfl ?_)
        refine sr_op rfl rfl (ow_pick (v := .bool (allX (leadG off) e13)) rfl rfl ?_)
        rw [hg] at again
        exact sr_live [66, 0, 4, 5, 46, 47, 48, 62] (again _ _ ⟨_, _, rfl, H, by first | rfl | (rw [hg] <;> rfl)⟩)
    rintro _ _ ⟨r, _, rfl, H, rfl⟩
    refine sr_op rfl rfl (ow_fieldAddr fd26_4 ty24 rfl rfl (r := 4) rfl ?_)
    refine sr_op rfl rfl (ow_store ty24 H rfl (v := .slice Aa20 na20 ca20) rfl [.slice Aa20 na20 ca20] rfl rfl rfl 2 rfl rfl (fun _ H => ?_))
    refine sr_op rfl rfl (ow_assign (v := .bool (ok && (allX (leadG off) e13))) rfl ?_)
    refine sr_nil ?_
    refine st_inBlock ?_
    refine st_region ?_
    refine sr_op rfl rfl (ow_add (r := ((i + 1 : Nat) : Int)) rfl rfl (inc_i64 (by omega)) ?_)
    refine sr_op rfl rfl (ow_move (v := .int .i64 ((i + 1 : Nat) : Int)) rfl ?_)
    refine sr_nil ?_
    exact st_inLoop (st_live [0, 4, 5, 46, 47, 48] (ih11 _ _ _ (by omega) ⟨i + 1, ok && (allX (leadG off) e13), I15, _, _, _, _, _, rfl, rfl, H.drop 2, ((hJ9.trans hI15)), by rw [take_some he13, List.map_append, List.map_append]; exact ha_, by omega, by rw [hok, take_some he13, List.all_append, List.all_cons, List.all_nil, Bool.and_true, Bool.and_assoc]⟩))
  · have hc12 := of_decide_eq_false hc12
    refine st_exit rfl ?_
    refine st_seq ?_
    refine st_region ?_
    refine sr_op rfl rfl (ow_load (v := .agg #[.int .i64 x.kind, .int .i64 x.n, .int .i64 0, .string x.name, .slice Aa_ na_ ca_]) ty26 H rfl 0 rfl rfl rfl rfl ?_)
    refine sr_op rfl rfl (ow_move (v := .bool ok) rfl ?_)
    refine sr_op rfl rfl (ow_store ty26 H rfl (v := .agg #[.int .i64 x.kind, .int .i64 x.n, .int .i64 0, .string x.name, .slice Aa_ na_ ca_]) rfl [.int .i64 x.kind, .int .i64 x.n, .int .i64 0, .string x.name, .slice Aa_ na_ ca_] rfl rfl rfl 0 rfl rfl (fun _ H => ?_))
    refine sr_op rfl rfl (ow_assign (v := .bool ok) rfl ?_)
    refine sr_nil ?_
    refine st_ret hb (hR _ _ (.tuple #[.agg #[.int .i64 x.kind, .int .i64 x.n, .int .i64 0, .string x.name, .slice Aa_ na_ ca_], .bool ok]) (res_run (vs := [.agg #[.int .i64 x.kind, .int .i64 x.n, .int .i64 0, .string x.name, .slice Aa_ na_ ca_], .bool ok]) Tryd.results29 ⟨_, _, rfl, resV_own (v := .agg #[.int .i64 x.kind, .int .i64 x.n, .int .i64 0, .string x.name, .slice Aa_ na_ ca_]) ty26 H rfl 0 rfl rfl rfl rfl, ⟨_, _, rfl, rfl, rfl⟩⟩) ?_)
    obtain ⟨I9, hI9, H, hr_⟩ := Acc.done ha_ (H.drop 2)
    change RepS encEx I9 5 ((x.l.take i).map (bareX 0)) (.slice Aa_ na_ ca_) at hr_
    have ht_ : x.l.take i = x.l := List.take_of_length_le (by omega)
    rw [ht_] at hr_
    exact ⟨_, rfl, I9, _, (hJ9.trans hI9), H, by rw [hok, ht_, allX_eq, allXs_all], ex_iff.2 ⟨_, by rw [bareX_kind, bareX_n, bareX_no, bareX_name], by rw [bareX_kind]; exact d0_0, by rw [bareX_n]; exact d0_1, by rw [bareX_no]; constructor <;> decide, by rw [bareX_name]; exact d0_3, by rw [bareX_l]; exact hr_⟩⟩
theorem bare_c {B I L w} (H : Hp B I w L) {p : Po} {us : List Value} (hp : RepL I (encPo p) us) (hfw : fewB p = true) (n : Int) (hn : I64 n) : Calls Tryd.prog 30 #[.agg us.toArray, .int .i64 n] w (Rt fun r w' => ∃ I' us', Le I I' ∧ Hp B I' w' L ∧ r = .agg us'.toArray ∧ RepL I' (encPo (bareP n p)) us') := by
  have hfl := (few_len hfw).1
  have d0 := hp
  obtain ⟨d0v1, d0v2, d0v3, d0v8, rfl, d0_0, d0_1, d0_2, d0_3, d0_4, d0_5, d0_6, d0_7, d0_8, d0_9⟩ := po_iff.1 hp
  obtain ⟨d0A1, d0c1, rfl, d0m1, d0M1, d0_1⟩ := RepS.open_ d0_1
  obtain ⟨d0A2, d0c2, rfl, d0m2, d0M2, d0_2⟩ := RepS.open_ d0_2
  obtain ⟨d0A3, d0c3, rfl, d0m3, d0M3, d0_3⟩ := RepS.open_ d0_3
  obtain ⟨d0A8, d0c8, rfl, d0m8, d0M8, d0_8⟩ := RepS.open_ d0_8
  refine calls_st (n := 39) Tryd.func30 rfl rfl rfl ?_
  intro G bF cs hb hfn hR hP
  simp only [ini]
  refine st_seq ?_
  refine st_region ?_
  refine sr_op rfl rfl (ow_box H (v := .agg #[.string p.name, .slice d0A1 p.kinds.length d0c1, .slice d0A2 p.offices.length d0c2, .slice d0A3 p.rules.length d0c3, .int .i64 p.change.kind, .int .i64 p.change.n, .int .i64 p.change.no, .string p.change.name, .slice d0A8 p.change.l.length d0c8, .int .i64 p.mode]) rfl [.string p.name, .slice d0A1 p.kinds.length d0c1, .slice d0A2 p.offices.length d0c2, .slice d0A3 p.rules.length d0c3, .int .i64 p.change.kind, .int .i64 p.change.n, .int .i64 p.change.no, .string p.change.name, .slice d0A8 p.change.l.length d0c8, .int .i64 p.mode] rfl (fun g1 _ H => ?_))
  refine sr_op rfl rfl (ow_box H (v := .int .i64 n) rfl [.int .i64 n] rfl (fun g2 _ H => ?_))
  refine sr_op rfl rfl (ow_alloc ty28 H [.string ⟨#[]⟩, .slice none 0 0, .slice none 0 0, .slice none 0 0, .int .i64 0, .int .i64 0, .int .i64 0, .string ⟨#[]⟩, .slice none 0 0, .int .i64 0] rfl (fun g3 _ H => ?_))
  refine sr_nil ?_
  refine st_seq ?_
  refine st_region ?_
  refine sr_op rfl rfl (ow_alloc ty83 H [.nilFunc] rfl (fun g4 _ H => ?_))
  refine sr_nil ?_
  refine st_seq ?_
  refine st_region ?_
  refine sr_op rfl rfl (ow_makeFunc (fv := []) (cv := [.pointer (some ⟨g2, 0, none⟩), .pointer (some ⟨g4, 0, none⟩)]) rfl rfl ?_)
  refine sr_op rfl rfl (ow_store ty83 H rfl (v := .func (.func 71) #[] #[.pointer (some ⟨g2, 0, none⟩), .pointer (some ⟨g4, 0, none⟩)]) rfl [.func (.func 71) #[] #[.pointer (some ⟨g2, 0, none⟩), .pointer (some ⟨g4, 0, none⟩)]] rfl rfl rfl 0 rfl rfl (fun _ H => ?_))
  obtain ⟨I5, hI5, H, hat5⟩ := freeze_at (L' := (g4, Ob [.func (.func 71) #[] #[.pointer (some ⟨g2, 0, none⟩), .pointer (some ⟨g4, 0, none⟩)]] 83) :: (g3, Ob [.string ⟨#[]⟩, .slice none 0 0, .slice none 0 0, .slice none 0 0, .int .i64 0, .int .i64 0, .int .i64 0, .string ⟨#[]⟩, .slice none 0 0, .int .i64 0] 28) :: (g1, Ob [.string p.name, .slice d0A1 p.kinds.length d0c1, .slice d0A2 p.offices.length d0c2, .slice d0A3 p.rules.length d0c3, .int .i64 p.change.kind, .int .i64 p.change.n, .int .i64 p.change.no, .string p.change.name, .slice d0A8 p.change.l.length d0c8, .int .i64 p.mode] 28) :: L) 2 rfl H rfl
  obtain ⟨I6, hI6, H, hat6⟩ := freeze_at (L' := (g3, Ob [.string ⟨#[]⟩, .slice none 0 0, .slice none 0 0, .slice none 0 0, .int .i64 0, .int .i64 0, .int .i64 0, .string ⟨#[]⟩, .slice none 0 0, .int .i64 0] 28) :: (g1, Ob [.string p.name, .slice d0A1 p.kinds.length d0c1, .slice d0A2 p.offices.length d0c2, .slice d0A3 p.rules.length d0c3, .int .i64 p.change.kind, .int .i64 p.change.n, .int .i64 p.change.no, .string p.change.name, .slice d0A8 p.change.l.length d0c8, .int .i64 p.mode] 28) :: L) 0 rfl H rfl
  refine sr_nil ?_
  refine st_seq ?_
  refine st_region ?_
  refine sr_op rfl rfl (ow_load (v := .agg #[.string p.name, .slice d0A1 p.kinds.length d0c1, .slice d0A2 p.offices.length d0c2, .slice d0A3 p.rules.length d0c3, .int .i64 p.change.kind, .int .i64 p.change.n, .int .i64 p.change.no, .string p.change.name, .slice d0A8 p.change.l.length d0c8, .int .i64 p.mode]) ty28 H rfl 1 rfl rfl rfl rfl ?_)
  refine sr_op rfl rfl (ow_alloc ty28 H [.string ⟨#[]⟩, .slice none 0 0, .slice none 0 0, .slice none 0 0, .int .i64 0, .int .i64 0, .int .i64 0, .string ⟨#[]⟩, .slice none 0 0, .int .i64 0] rfl (fun g7 _ H => ?_))
  refine sr_op rfl rfl (ow_store ty28 H rfl (v := .agg #[.string p.name, .slice d0A1 p.kinds.length d0c1, .slice d0A2 p.offices.length d0c2, .slice d0A3 p.rules.length d0c3, .int .i64 p.change.kind, .int .i64 p.change.n, .int .i64 p.change.no, .string p.change.name, .slice d0A8 p.change.l.length d0c8, .int .i64 p.mode]) rfl [.string p.name, .slice d0A1 p.kinds.length d0c1, .slice d0A2 p.offices.length d0c2, .slice d0A3 p.rules.length d0c3, .int .i64 p.change.kind, .int .i64 p.change.n, .int .i64 p.change.no, .string p.change.name, .slice d0A8 p.change.l.length d0c8, .int .i64 p.mode] rfl rfl rfl 0 rfl rfl (fun _ H => ?_))
  refine sr_nil ?_
  refine st_seq ?_
  refine st_region ?_
  refine sr_op rfl rfl (ow_fieldAddr fd28_3 ty23 rfl rfl (r := 3) rfl ?_)
  refine sr_op rfl rfl (ow_store ty23 H rfl (v := .slice none 0 0) rfl [.slice none 0 0] rfl rfl rfl 0 rfl rfl (fun _ H => ?_))
  refine sr_nil ?_
  refine st_seq ?_
  refine st_seq ?_
  refine st_region ?_
  refine sr_op rfl rfl (ow_fieldAddr fd28_3 ty23 rfl rfl (r := 3) rfl ?_)
  refine sr_op rfl rfl (ow_load (v := .slice d0A3 p.rules.length d0c3) ty23 H rfl 2 rfl rfl rfl rfl ?_)
  refine sr_op rfl rfl (ow_lenS sl23 rfl rfl ?_)
  refine sr_op rfl rfl (ow_move (v := .int .i64 0) rfl ?_)
  refine sr_nil ?_
  refine st_block ?_
  refine st_loop ?_
  refine st_live [2, 3, 4, 5, 6, 13, 14, 15] ?_
  refine st_ind (fun d_ m_ w_ => ∃ (i : Nat) (J8 : Im) (Aa_ : Option Addr) (na_ ca_ : Nat) (cs_ : List Value) (r_ : Sl), d_ = p.rules.length - i ∧ m_ = (2, .pointer (some ⟨g1, 0, none⟩)) :: (3, .pointer (some ⟨g2, 0, none⟩)) :: (4, .pointer (some ⟨g3, 0, none⟩)) :: (5, .pointer (some ⟨g4, 0, none⟩)) :: (6, .pointer (some ⟨g7, 0, none⟩)) :: (13, .slice d0A3 p.rules.length d0c3) :: (14, .int .i64 (p.rules.length : Int)) :: (15, .int .i64 (i : Int)) :: r_ ∧ Hp B J8 w_ ((g7, Ob [.string p.name, .slice d0A1 p.kinds.length d0c1, .slice d0A2 p.offices.length d0c2, .slice Aa_ na_ ca_, .int .i64 p.change.kind, .int .i64 p.change.n, .int .i64 p.change.no, .string p.change.name, .slice d0A8 p.change.l.length d0c8, .int .i64 p.mode] 28) :: (g3, Ob [.string ⟨#[]⟩, .slice none 0 0, .slice none 0 0, .slice none 0 0, .int .i64 0, .int .i64 0, .int .i64 0, .string ⟨#[]⟩, .slice none 0 0, .int .i64 0] 28) :: (g1, Ob [.string p.name, .slice d0A1 p.kinds.length d0c1, .slice d0A2 p.offices.length d0c2, .slice d0A3 p.rules.length d0c3, .int .i64 p.change.kind, .int .i64 p.change.n, .int .i64 p.change.no, .string p.change.name, .slice d0A8 p.change.l.length d0c8, .int .i64 p.mode] 28) :: (rowL (.slice Aa_ na_ ca_) cs_ 43 ++ L)) ∧ Le I6 J8 ∧ Acc J8 8 (.slice Aa_ na_ ca_) cs_ (((p.rules.take i).map (bareR n)).map encRu) ∧ i ≤ p.rules.length) _ ⟨0, I6, none, 0, 0, [], _, rfl, rfl, H, Le.refl _, Acc.none_ _ _ _, Nat.zero_le _⟩ ?_
  rintro _ _ _ ⟨i, J8, Aa_, na_, ca_, cs_, r9, rfl, rfl, H, hJ8, ha_, hi⟩ ih10
  refine st_seq ?_
  refine st_region ?_
  refine sr_op rfl rfl (ow_lss rfl rfl ?_)
  refine sr_nil ?_
  refine st_seq ?_
  refine st_cond (decide ((i : Int) < (p.rules.length : Int))) rfl (fun hc11 => ?_) (fun hc11 => ?_)
  · have hc11 := of_decide_eq_true hc11
    refine st_skip ?_
    refine st_seq ?_
    refine st_block ?_
    refine st_seq ?_
    refine st_region ?_
    have d0_3 := (((d0_3.mono hI5).mono hI6).mono hJ8)
    obtain ⟨e12, he12⟩ : ∃ q_, p.rules[i]? = some q_ := ⟨_, List.getElem?_eq_getElem (by omega)⟩
    obtain ⟨b12, o12, us12, hA12, hat12, hul12, hr12⟩ := RepS.get d0_3 he12
    have d12 := hr12
    obtain ⟨d12v7, rfl, d12_0, d12_1, d12_2, d12_3, d12_4, d12_5, d12_6, d12_7⟩ := ru_iff.1 hr12
    obtain ⟨d12A7, d12c7, rfl, d12m7, d12M7, d12_7⟩ := RepS.open_ d12_7
    refine sr_op rfl rfl (ow_indexAddrA sl23 ty43 hA12 rfl rfl (by omega) (by omega) (r := o12 + i * 8) rfl ?_)
    refine sr_op rfl rfl (ow_loadI (v := .agg #[.string e12.kind, .int .i64 e12.kindNo, .int .i64 e12.think, .int .i64 e12.expr.kind, .int .i64 e12.expr.n, .int .i64 e12.expr.no, .string e12.expr.name, .slice d12A7 e12.expr.l.length d12c7]) ty43 H rfl hat12 rfl rfl rfl ?_)
    refine sr_op rfl rfl (ow_alloc ty43 H [.string ⟨#[]⟩, .int .i64 0, .int .i64 0, .int .i64 0, .int .i64 0, .int .i64 0, .string ⟨#[]⟩, .slice none 0 0] rfl (fun g13 _ H => ?_))
    refine sr_op rfl rfl (ow_store ty43 H rfl (v := .agg #[.string e12.kind, .int .i64 e12.kindNo, .int .i64 e12.think, .int .i64 e12.expr.kind, .int .i64 e12.expr.n, .int .i64 e12.expr.no, .string e12.expr.name, .slice d12A7 e12.expr.l.length d12c7]) rfl [.string e12.kind, .int .i64 e12.kindNo, .int .i64 e12.think, .int .i64 e12.expr.kind, .int .i64 e12.expr.n, .int .i64 e12.expr.no, .string e12.expr.name, .slice d12A7 e12.expr.l.length d12c7] rfl rfl rfl 0 rfl rfl (fun _ H => ?_))
    refine sr_nil ?_
    refine st_seq ?_
    have hat5 := ((hat5.mono hI6).mono hJ8)
    have hat6 := (hat6.mono hJ8)
    refine st_draw (F := (fun w_ => ∃ I2, Le J8 I2 ∧ Hp B I2 w_ [(g13, Ob [.string e12.kind, .int .i64 e12.kindNo, .int .i64 e12.think, .int .i64 e12.expr.kind, .int .i64 e12.expr.n, .int .i64 e12.expr.no, .string e12.expr.name, .slice d12A7 e12.expr.l.length d12c7] 43), (g7, Ob [.string p.name, .slice d0A1 p.kinds.length d0c1, .slice d0A2 p.offices.length d0c2, .slice Aa_ na_ ca_, .int .i64 p.change.kind, .int .i64 p.change.n, .int .i64 p.change.no, .string p.change.name, .slice d0A8 p.change.l.length d0c8, .int .i64 p.mode] 28), (g3, Ob [.string ⟨#[]⟩, .slice none 0 0, .slice none 0 0, .slice none 0 0, .int .i64 0, .int .i64 0, .int .i64 0, .string ⟨#[]⟩, .slice none 0 0, .int .i64 0] 28), (g1, Ob [.string p.name, .slice d0A1 p.kinds.length d0c1, .slice d0A2 p.offices.length d0c2, .slice d0A3 p.rules.length d0c3, .int .i64 p.change.kind, .int .i64 p.change.n, .int .i64 p.change.no, .string p.change.name, .slice d0A8 p.change.l.length d0c8, .int .i64 p.mode] 28)])) (p0 := [0, 1, 2, 3, 5]) (plan := [(4, [], [0, 5]), (6, [7], []), (8, [], [])]) [0, 1, 2, 3, 4, 5, 6, 7, 8] [0, 1, 2, 3, 4, 5, 6, 7, 8] [(24, .pointer (some ⟨g13, 1, none⟩)), (22, .agg #[.int .i64 e12.expr.kind, .int .i64 e12.expr.n, .int .i64 e12.expr.no, .string e12.expr.name, .slice d12A7 e12.expr.l.length d12c7]), (21, .pointer (some ⟨g13, 3, none⟩)), (20, .func (.func 71) #[] #[.pointer (some ⟨g2, 0, none⟩), .pointer (some ⟨g4, 0, none⟩)]), (19, .int .i64 n)] (by kernel_rfl) rfl ?_ ⟨_, Le.refl _, H.drew.pick [0, 1, 2, 3] (by decide)⟩ ?_
    · refine ⟨kn_op rfl rfl (wantB_none rfl) fun _ hF2 => ?_, ?_⟩
      · obtain ⟨_, hle2, H2⟩ := hF2
        refine  (ow_loadI (v := .int .i64 n) ty3 H2 rfl (At.mono hle2 hat5) rfl rfl rfl ?_)
        exact ⟨rfl, rfl⟩
      refine ⟨kn_op rfl rfl (wantB_none rfl) fun _ hF2 => ?_, ?_⟩
      · obtain ⟨_, hle2, H2⟩ := hF2
        refine  (ow_loadI (v := .func (.func 71) #[] #[.pointer (some ⟨g2, 0, none⟩), .pointer (some ⟨g4, 0, none⟩)]) ty83 H2 rfl (At.mono hle2 hat6) rfl rfl rfl ?_)
        exact ⟨rfl, rfl⟩
      refine ⟨kn_op rfl rfl (wantB_none rfl) fun _ hF2 => ?_, ?_⟩
      · obtain ⟨_, hle2, H2⟩ := hF2
        refine  (ow_fieldAddr fd43_3 ty26 rfl rfl (r := 3) rfl ?_)
        exact ⟨rfl, rfl⟩
      refine ⟨kn_op rfl rfl (wantB_none rfl) fun _ hF2 => ?_, ?_⟩
      · obtain ⟨_, hle2, H2⟩ := hF2
        refine  (ow_load (v := .agg #[.int .i64 e12.expr.kind, .int .i64 e12.expr.n, .int .i64 e12.expr.no, .string e12.expr.name, .slice d12A7 e12.expr.l.length d12c7]) ty26 H2 rfl 0 rfl rfl rfl rfl ?_)
        exact ⟨rfl, rfl⟩
      refine ⟨kn_op rfl rfl (wantB_none rfl) fun _ hF2 => ?_, ?_⟩
      · obtain ⟨_, hle2, H2⟩ := hF2
        refine  (ow_fieldAddr fd43_1 ty3 rfl rfl (r := 1) rfl ?_)
        exact ⟨rfl, rfl⟩
      exact trivial
    have H := H.drew
    refine cw_op rfl (wantB_none rfl) (ow_callV en71 (first := []) (cap := [.pointer (some ⟨g2, 0, none⟩), .pointer (some ⟨g4, 0, none⟩)]) rfl rfl (bare1_c hn 1000000 (x := e12.expr) (by have := few_rule hfw he12; omega) (Nat.le_refl _) H (ex_iff.2 ⟨_, rfl, d12_3, d12_4, d12_5, d12_6, d12_7⟩) hat5 hat6) ?_)
    rintro _ _ ⟨I14, us14, hI14, H, rfl, hr14⟩
    have d14 := hr14
    obtain ⟨d14v4, rfl, d14_0, d14_1, d14_2, d14_3, d14_4⟩ := ex_iff.1 hr14
    obtain ⟨d14A4, d14c4, rfl, d14m4, d14M4, d14_4⟩ := RepS.open_ d14_4
    have hat5 := (hat5.mono hI14)
    refine af_some [] (fun w_ => ∃ I2, Le I14 I2 ∧ Hp B I2 w_ [(g13, Ob [.string e12.kind, .int .i64 e12.kindNo, .int .i64 e12.think, .int .i64 e12.expr.kind, .int .i64 e12.expr.n, .int .i64 e12.expr.no, .string e12.expr.name, .slice d12A7 e12.expr.l.length d12c7] 43), (g7, Ob [.string p.name, .slice d0A1 p.kinds.length d0c1, .slice d0A2 p.offices.length d0c2, .slice Aa_ na_ ca_, .int .i64 p.change.kind, .int .i64 p.change.n, .int .i64 p.change.no, .string p.change.name, .slice d0A8 p.change.l.length d0c8, .int .i64 p.mode] 28), (g3, Ob [.string ⟨#[]⟩, .slice none 0 0, .slice none 0 0, .slice none 0 0, .int .i64 0, .int .i64 0, .int .i64 0, .string ⟨#[]⟩, .slice none 0 0, .int .i64 0] 28), (g1, Ob [.string p.name, .slice d0A1 p.kinds.length d0c1, .slice d0A2 p.offices.length d0c2, .slice d0A3 p.rules.length d0c3, .int .i64 p.change.kind, .int .i64 p.change.n, .int .i64 p.change.no, .string p.change.name, .slice d0A8 p.change.l.length d0c8, .int .i64 p.mode] 28)]) rfl ⟨_, Le.refl _, H.pick [0, 1, 2, 3] (by decide)⟩ ?_ ?_
    · refine ⟨kn_op rfl rfl (wantB_none rfl) fun _ hF2 => ?_, ?_⟩
      · obtain ⟨_, hle2, H2⟩ := hF2
        refine  (ow_loadI (v := .int .i64 n) ty3 H2 rfl (At.mono hle2 hat5) rfl rfl rfl ?_)
        exact ⟨rfl, rfl⟩
      refine ⟨kn_op rfl rfl (wantB_none rfl) fun _ hF2 => ?_, ?_⟩
      · obtain ⟨_, hle2, H2⟩ := hF2
        refine  (ow_fieldAddr fd43_1 ty3 rfl rfl (r := 1) rfl ?_)
        exact ⟨rfl, rfl⟩
      exact trivial
    refine cw_op rfl (wantB_none rfl) (ow_store ty3 H rfl (v := .int .i64 n) rfl [.int .i64 n] rfl rfl rfl 0 rfl rfl (fun _ H => ?_))
    refine af_some [(25, .pointer (some ⟨g13, 3, none⟩))] (fun w_ => ∃ I2, Le I14 I2 ∧ Hp B I2 w_ [(g13, Ob [.string e12.kind, .int .i64 n, .int .i64 e12.think, .int .i64 e12.expr.kind, .int .i64 e12.expr.n, .int .i64 e12.expr.no, .string e12.expr.name, .slice d12A7 e12.expr.l.length d12c7] 43), (g7, Ob [.string p.name, .slice d0A1 p.kinds.length d0c1, .slice d0A2 p.offices.length d0c2, .slice Aa_ na_ ca_, .int .i64 p.change.kind, .int .i64 p.change.n, .int .i64 p.change.no, .string p.change.name, .slice d0A8 p.change.l.length d0c8, .int .i64 p.mode] 28), (g3, Ob [.string ⟨#[]⟩, .slice none 0 0, .slice none 0 0, .slice none 0 0, .int .i64 0, .int .i64 0, .int .i64 0, .string ⟨#[]⟩, .slice none 0 0, .int .i64 0] 28), (g1, Ob [.string p.name, .slice d0A1 p.kinds.length d0c1, .slice d0A2 p.offices.length d0c2, .slice d0A3 p.rules.length d0c3, .int .i64 p.change.kind, .int .i64 p.change.n, .int .i64 p.change.no, .string p.change.name, .slice d0A8 p.change.l.length d0c8, .int .i64 p.mode] 28)]) rfl ⟨_, Le.refl _, H.pick [0, 1, 2, 3] (by decide)⟩ ?_ ?_
    · refine ⟨kn_op rfl rfl (wantB_none rfl) fun _ hF2 => ?_, ?_⟩
      · obtain ⟨_, hle2, H2⟩ := hF2
        refine  (ow_fieldAddr fd43_3 ty26 rfl rfl (r := 3) rfl ?_)
        exact ⟨rfl, rfl⟩
      exact trivial
    refine cw_op rfl (wantB_none rfl) (ow_store ty26 H rfl (v := .agg #[.int .i64 ((bareX n e12.expr).kind), .int .i64 ((bareX n e12.expr).n), .int .i64 ((bareX n e12.expr).no), .string ((bareX n e12.expr).name), .slice d14A4 ((bareX n e12.expr).l.length) d14c4]) rfl [.int .i64 ((bareX n e12.expr).kind), .int .i64 ((bareX n e12.expr).n), .int .i64 ((bareX n e12.expr).no), .string ((bareX n e12.expr).name), .slice d14A4 ((bareX n e12.expr).l.length) d14c4] rfl rfl rfl 0 rfl rfl (fun _ H => ?_))
    refine af_none ?_
    refine cw_nil ?_
    refine st_region ?_
    refine sr_op rfl rfl (ow_fieldAddr fd28_3 ty23 rfl rfl (r := 3) rfl ?_)
    refine sr_op rfl rfl (ow_load (v := .slice Aa_ na_ ca_) ty23 H rfl 1 rfl rfl rfl rfl ?_)
    refine sr_op rfl rfl (ow_load (v := .agg #[.string e12.kind, .int .i64 n, .int .i64 e12.think, .int .i64 ((bareX n e12.expr).kind), .int .i64 ((bareX n e12.expr).n), .int .i64 ((bareX n e12.expr).no), .string ((bareX n e12.expr).name), .slice d14A4 ((bareX n e12.expr).l.length) d14c4]) ty43 H rfl 0 rfl rfl rfl rfl ?_)
    refine sr_op rfl rfl (ow_buildSlice H (e := 43) (ps := [(0, .agg #[.string e12.kind, .int .i64 n, .int .i64 e12.think, .int .i64 ((bareX n e12.expr).kind), .int .i64 ((bareX n e12.expr).n), .int .i64 ((bareX n e12.expr).no), .string ((bareX n e12.expr).name), .slice d14A4 ((bareX n e12.expr).l.length) d14c4])]) rfl [.string e12.kind, .int .i64 n, .int .i64 e12.think, .int .i64 ((bareX n e12.expr).kind), .int .i64 ((bareX n e12.expr).n), .int .i64 ((bareX n e12.expr).no), .string ((bareX n e12.expr).name), .slice d14A4 ((bareX n e12.expr).l.length) d14c4] (fun _ => by kernel_rfl) (fun g15 _ H => ?_))
    have ha_ := (ha_.mono hI14)
    refine sr_op rfl rfl (ow_append1 sl23 ty43 rfl rfl [(g13, Ob [.string e12.kind, .int .i64 n, .int .i64 e12.think, .int .i64 ((bareX n e12.expr).kind), .int .i64 ((bareX n e12.expr).n), .int .i64 ((bareX n e12.expr).no), .string ((bareX n e12.expr).name), .slice d14A4 ((bareX n e12.expr).l.length) d14c4] 43), (g7, Ob [.string p.name, .slice d0A1 p.kinds.length d0c1, .slice d0A2 p.offices.length d0c2, .slice Aa_ na_ ca_, .int .i64 p.change.kind, .int .i64 p.change.n, .int .i64 p.change.no, .string p.change.name, .slice d0A8 p.change.l.length d0c8, .int .i64 p.mode] 28), (g3, Ob [.string ⟨#[]⟩, .slice none 0 0, .slice none 0 0, .slice none 0 0, .int .i64 0, .int .i64 0, .int .i64 0, .string ⟨#[]⟩, .slice none 0 0, .int .i64 0] 28), (g1, Ob [.string p.name, .slice d0A1 p.kinds.length d0c1, .slice d0A2 p.offices.length d0c2, .slice d0A3 p.rules.length d0c3, .int .i64 p.change.kind, .int .i64 p.change.n, .int .i64 p.change.no, .string p.change.name, .slice d0A8 p.change.l.length d0c8, .int .i64 p.mode] 28)] (v := .slice Aa_ na_ ca_) (cs := cs_) (L := L) H ha_ rfl rfl (((ru_iff (r := bareR n e12)).2 ⟨_, rfl, d12_0, hn, d12_2, d14_0, d14_1, d14_2, d14_3, d14_4⟩)) (len_ru _) (plain_ru _) (by simp only [List.length_map, List.length_take]; omega) (by simp only [List.length_map, List.length_take]; omega) (fun va16 cs17 _ H ha_ => ?_))
    obtain ⟨Aa18, na18, ca18, rfl⟩ := Acc.form ha_
    refine sr_op rfl rfl (ow_fieldAddr fd28_3 ty23 rfl rfl (r := 3) rfl ?_)
    refine sr_op rfl rfl (ow_store ty23 H rfl (v := .slice Aa18 na18 ca18) rfl [.slice Aa18 na18 ca18] rfl rfl rfl 1 rfl rfl (fun _ H => ?_))
    refine sr_nil ?_
    refine st_inBlock ?_
    refine st_region ?_
    refine sr_op rfl rfl (ow_add (r := ((i + 1 : Nat) : Int)) rfl rfl (inc_i64 (by omega)) ?_)
    refine sr_op rfl rfl (ow_move (v := .int .i64 ((i + 1 : Nat) : Int)) rfl ?_)
    refine sr_nil ?_
    exact st_inLoop (st_live [2, 3, 4, 5, 6, 13, 14, 15] (ih10 _ _ _ (by omega) ⟨i + 1, I14, _, _, _, _, _, rfl, rfl, H.drop 1, ((hJ8.trans hI14)), by rw [take_some he12, List.map_append, List.map_append]; exact ha_, by omega⟩))
  · have hc11 := of_decide_eq_false hc11
    refine st_exit rfl ?_
    refine st_seq ?_
    refine st_region ?_
    have hat6 := (hat6.mono hJ8)
    refine sr_op rfl rfl (ow_loadI (v := .func (.func 71) #[] #[.pointer (some ⟨g2, 0, none⟩), .pointer (some ⟨g4, 0, none⟩)]) ty83 H rfl hat6 rfl rfl rfl ?_)
    refine sr_op rfl rfl (ow_fieldAddr fd28_4 ty26 rfl rfl (r := 4) rfl ?_)
    refine sr_op rfl rfl (ow_load (v := .agg #[.int .i64 p.change.kind, .int .i64 p.change.n, .int .i64 p.change.no, .string p.change.name, .slice d0A8 p.change.l.length d0c8]) ty26 H rfl 2 rfl rfl rfl rfl ?_)
    have d0_8 := (((d0_8.mono hI5).mono hI6).mono hJ8)
    have hat5 := ((hat5.mono hI6).mono hJ8)
    refine sr_op rfl rfl (ow_callV en71 (first := []) (cap := [.pointer (some ⟨g2, 0, none⟩), .pointer (some ⟨g4, 0, none⟩)]) rfl rfl (bare1_c hn 1000000 (x := p.change) (by have := few_change hfw; omega) (Nat.le_refl _) H (ex_iff.2 ⟨_, rfl, d0_4, d0_5, d0_6, d0_7, d0_8⟩) hat5 hat6) ?_)
    rintro _ _ ⟨I19, us19, hI19, H, rfl, hr19⟩
    have d19 := hr19
    obtain ⟨d19v4, rfl, d19_0, d19_1, d19_2, d19_3, d19_4⟩ := ex_iff.1 hr19
    obtain ⟨d19A4, d19c4, rfl, d19m4, d19M4, d19_4⟩ := RepS.open_ d19_4
    refine sr_op rfl rfl (ow_fieldAddr fd28_4 ty26 rfl rfl (r := 4) rfl ?_)
    refine sr_op rfl rfl (ow_store ty26 H rfl (v := .agg #[.int .i64 ((bareX n p.change).kind), .int .i64 ((bareX n p.change).n), .int .i64 ((bareX n p.change).no), .string ((bareX n p.change).name), .slice d19A4 ((bareX n p.change).l.length) d19c4]) rfl [.int .i64 ((bareX n p.change).kind), .int .i64 ((bareX n p.change).n), .int .i64 ((bareX n p.change).no), .string ((bareX n p.change).name), .slice d19A4 ((bareX n p.change).l.length) d19c4] rfl rfl rfl 0 rfl rfl (fun _ H => ?_))
    refine sr_nil ?_
    refine st_seq ?_
    refine st_region ?_
    refine sr_op rfl rfl (ow_load (v := .agg #[.string p.name, .slice d0A1 p.kinds.length d0c1, .slice d0A2 p.offices.length d0c2, .slice Aa_ na_ ca_, .int .i64 ((bareX n p.change).kind), .int .i64 ((bareX n p.change).n), .int .i64 ((bareX n p.change).no), .string ((bareX n p.change).name), .slice d19A4 ((bareX n p.change).l.length) d19c4, .int .i64 p.mode]) ty28 H rfl 0 rfl rfl rfl rfl ?_)
    refine sr_op rfl rfl (ow_store ty28 H rfl (v := .agg #[.string p.name, .slice d0A1 p.kinds.length d0c1, .slice d0A2 p.offices.length d0c2, .slice Aa_ na_ ca_, .int .i64 ((bareX n p.change).kind), .int .i64 ((bareX n p.change).n), .int .i64 ((bareX n p.change).no), .string ((bareX n p.change).name), .slice d19A4 ((bareX n p.change).l.length) d19c4, .int .i64 p.mode]) rfl [.string p.name, .slice d0A1 p.kinds.length d0c1, .slice d0A2 p.offices.length d0c2, .slice Aa_ na_ ca_, .int .i64 ((bareX n p.change).kind), .int .i64 ((bareX n p.change).n), .int .i64 ((bareX n p.change).no), .string ((bareX n p.change).name), .slice d19A4 ((bareX n p.change).l.length) d19c4, .int .i64 p.mode] rfl rfl rfl 1 rfl rfl (fun _ H => ?_))
    refine sr_nil ?_
    refine st_ret hb (hR _ _ (.agg #[.string p.name, .slice d0A1 p.kinds.length d0c1, .slice d0A2 p.offices.length d0c2, .slice Aa_ na_ ca_, .int .i64 ((bareX n p.change).kind), .int .i64 ((bareX n p.change).n), .int .i64 ((bareX n p.change).no), .string ((bareX n p.change).name), .slice d19A4 ((bareX n p.change).l.length) d19c4, .int .i64 p.mode]) (res_run (vs := [.agg #[.string p.name, .slice d0A1 p.kinds.length d0c1, .slice d0A2 p.offices.length d0c2, .slice Aa_ na_ ca_, .int .i64 ((bareX n p.change).kind), .int .i64 ((bareX n p.change).n), .int .i64 ((bareX n p.change).no), .string ((bareX n p.change).name), .slice d19A4 ((bareX n p.change).l.length) d19c4, .int .i64 p.mode]]) Tryd.results30 ⟨_, _, rfl, resV_own (v := .agg #[.string p.name, .slice d0A1 p.kinds.length d0c1, .slice d0A2 p.offices.length d0c2, .slice Aa_ na_ ca_, .int .i64 ((bareX n p.change).kind), .int .i64 ((bareX n p.change).n), .int .i64 ((bareX n p.change).no), .string ((bareX n p.change).name), .slice d19A4 ((bareX n p.change).l.length) d19c4, .int .i64 p.mode]) ty28 H rfl 1 rfl rfl rfl rfl, rfl⟩) ?_)
    have ha_ := (ha_.mono hI19)
    obtain ⟨I9, hI9, H, hr_⟩ := Acc.done ha_ (H.drop 3)
    change RepS encRu I9 8 ((p.rules.take i).map (bareR n)) (.slice Aa_ na_ ca_) at hr_
    have ht_ : p.rules.take i = p.rules := List.take_of_length_le (by omega)
    rw [ht_] at hr_
    have d0_1 := (((((d0_1.mono hI5).mono hI6).mono hJ8).mono hI19).mono hI9)
    have d0_2 := (((((d0_2.mono hI5).mono hI6).mono hJ8).mono hI19).mono hI9)
    have d19_4 := (d19_4.mono hI9)
    exact ⟨_, rfl, I9, _, ((((hI5.trans hI6).trans hJ8).trans hI19).trans hI9), H, rfl, po_iff.2 ⟨_, _, _, _, rfl, d0_0, d0_1, d0_2, hr_, d19_0, d19_1, d19_2, d19_3, d19_4, d0_9⟩⟩
end Go.Proofs.YtbbflenaeihmeaaDoor
