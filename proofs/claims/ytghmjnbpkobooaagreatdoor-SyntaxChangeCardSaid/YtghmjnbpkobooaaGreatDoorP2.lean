/-
  Walks: expressions, resolve.
-/
import Derived.Test.YtghmjnbpkobooaaGreatDoorP1
set_option linter.unusedVariables false
set_option linter.unusedSimpArgs false
set_option maxRecDepth 10000
set_option maxHeartbeats 4000000
namespace Go.Proofs.YtghmjnbpkobooaaGreatDoor
open Go Go.RowKit

mutual
def resolveX (off : List ByteArray) : Ex → Ex
  | ⟨k, n, no, nm, l⟩ => ⟨k, n, if isNamed k = true then idx off nm else 0, nm, resolveXs off l⟩
def resolveXs (off : List ByteArray) : List Ex → List Ex
  | [] => []
  | x :: l => resolveX off x :: resolveXs off l
end
theorem resolveXs_eq (off : List ByteArray) : ∀ l, resolveXs off l = l.map (resolveX off)
  | [] => rfl
  | x :: l => by simp [resolveXs, resolveXs_eq off l]
theorem resolveX_kind (off : List ByteArray) (x : Ex) : (resolveX off x).kind = x.kind := by
  cases x
  rfl
theorem resolveX_n (off : List ByteArray) (x : Ex) : (resolveX off x).n = x.n := by
  cases x
  rfl
theorem resolveX_name (off : List ByteArray) (x : Ex) : (resolveX off x).name = x.name := by
  cases x
  rfl
theorem resolveX_no (off : List ByteArray) (x : Ex) : (resolveX off x).no = if isNamed x.kind = true then idx off x.name else 0 := by
  cases x
  rfl
theorem resolveX_l (off : List ByteArray) (x : Ex) : (resolveX off x).l = x.l.map (resolveX off) := by
  cases x
  exact resolveXs_eq off _
def exprs (p : Po) : List Ex := p.rules.map (·.expr) ++ [p.change]
def poV (p : Po) (v1 v2 v3 v4 : Value) : Value := .agg #[.string p.name, v1, v2, v3, .int .i64 p.change.kind, .int .i64 p.change.n, .int .i64 p.change.no, .string p.change.name, v4, .int .i64 p.mode]
theorem take_some {α : Type} {l : List α} {i : Nat} {x : α} (h : l[i]? = some x) : l.take (i + 1) = l.take i ++ [x] := by
  obtain ⟨h1, h2⟩ := List.getElem?_eq_some_iff.1 h
  rw [List.take_succ_eq_append_getElem h1, h2]
theorem ixOf_range : ∀ (l : List ByteArray) (s : ByteArray) (i : Int), 0 ≤ i → -1 ≤ ixOf l s i ∧ ixOf l s i < i + l.length
  | [], s, i, h => by simp [ixOf]; omega
  | x :: l, s, i, h => by
    simp only [ixOf, List.length_cons]
    split
    · omega
    · have := ixOf_range l s (i + 1) (by omega)
      omega
theorem idx_I64 (l : List ByteArray) (s : ByteArray) (h : l.length ≤ 9223372036854775807) : I64 (idx l s) := by
  have := ixOf_range l s 0 (by omega)
  unfold I64 idx
  omega
theorem expressions_c {B I L w} (H : Hp B I w L) {p : Po} {us : List Value} (hp : RepL I (encPo p) us) (hb : p.rules.length ≤ 1000000) : Calls Tryz.prog 140 #[.agg us.toArray] w (Rt fun r w' => ∃ I', Le I I' ∧ Hp B I' w' L ∧ RepS encEx I' 5 (exprs p) r) := by
  obtain ⟨v1, v2, v3, v4, rfl, hpn, hpk, hpo, hpr, hck, hcn, hcno, hcs, hcl, hpm⟩ := po_iff.1 hp
  obtain ⟨Ak, ck, rfl, hckl, hckm, hpk⟩ := RepS.open_ hpk
  obtain ⟨Ao, co, rfl, hcol, hcom, hpo⟩ := RepS.open_ hpo
  obtain ⟨Ar, cr, rfl, hcrl, hcrm, hpr⟩ := RepS.open_ hpr
  obtain ⟨Ac, cc, rfl, hccl, hccm, hcl⟩ := RepS.open_ hcl
  refine calls_st (n := 23) Tryz.func140 rfl rfl rfl ?_
  intro G bF cs hb hfn hR hP
  simp only [ini]
  refine st_seq ?_
  refine st_region ?_
  refine sr_op rfl rfl (ow_box H (v := .agg #[.string p.name, .slice Ak p.kinds.length ck, .slice Ao p.offices.length co, .slice Ar p.rules.length cr, .int .i64 p.change.kind, .int .i64 p.change.n, .int .i64 p.change.no, .string p.change.name, .slice Ac p.change.l.length cc, .int .i64 p.mode]) rfl [.string p.name, .slice Ak p.kinds.length ck, .slice Ao p.offices.length co, .slice Ar p.rules.length cr, .int .i64 p.change.kind, .int .i64 p.change.n, .int .i64 p.change.no, .string p.change.name, .slice Ac p.change.l.length cc, .int .i64 p.mode] rfl (fun g1 _ H => ?_))
  refine sr_op rfl rfl (ow_assign (v := .slice none 0 0) rfl ?_)
  refine sr_nil ?_
  refine st_seq ?_
  refine st_seq ?_
  refine st_region ?_
  refine sr_op rfl rfl (ow_fieldAddr fd28_3 ty23 rfl rfl (r := 3) rfl ?_)
  refine sr_op rfl rfl (ow_load (v := .slice Ar p.rules.length cr) ty23 H rfl 0 rfl rfl rfl rfl ?_)
  refine sr_op rfl rfl (ow_lenS sl23 rfl rfl ?_)
  refine sr_op rfl rfl (ow_move (v := .int .i64 0) rfl ?_)
  refine sr_nil ?_
  refine st_block ?_
  refine st_loop ?_
  refine st_live [1, 2, 6, 7, 8] ?_
  refine st_ind (fun d_ m_ w_ => ∃ (i : Nat) (Aa : Option Addr) (na ca : Nat) (cs_ : List Value) (r_ : Sl), d_ = p.rules.length - i ∧ m_ = (1, .pointer (some ⟨g1, 0, none⟩)) :: (2, .slice Aa na ca) :: (6, .slice Ar p.rules.length cr) :: (7, .int .i64 (p.rules.length : Int)) :: (8, .int .i64 (i : Int)) :: r_ ∧ Hp B I w_ ((g1, Ob [.string p.name, .slice Ak p.kinds.length ck, .slice Ao p.offices.length co, .slice Ar p.rules.length cr, .int .i64 p.change.kind, .int .i64 p.change.n, .int .i64 p.change.no, .string p.change.name, .slice Ac p.change.l.length cc, .int .i64 p.mode] 28) :: (rowL (.slice Aa na ca) cs_ 26 ++ L)) ∧ i ≤ p.rules.length ∧ Acc I 5 (.slice Aa na ca) cs_ (((p.rules.take i).map (·.expr)).map encEx)) _ ⟨0, none, 0, 0, [], _, rfl, rfl, H, Nat.zero_le _, Acc.none_ _ _ _⟩ ?_
  rintro _ _ _ ⟨i, Aa, na, ca, cs_, r2, rfl, rfl, H, hi, ha⟩ ih3
  refine st_seq ?_
  refine st_region ?_
  refine sr_op rfl rfl (ow_lss rfl rfl ?_)
  refine sr_nil ?_
  refine st_seq ?_
  refine st_cond (decide ((i : Int) < (p.rules.length : Int))) rfl (fun hc4 => ?_) (fun hc4 => ?_)
  · have hc4 := of_decide_eq_true hc4
    refine st_skip ?_
    refine st_seq ?_
    refine st_block ?_
    refine st_seq ?_
    refine st_region ?_
    obtain ⟨x5, he5⟩ : ∃ q_, p.rules[i]? = some q_ := ⟨_, List.getElem?_eq_getElem (by omega)⟩
    obtain ⟨b5, o5, us5, hA5, hat5, hul5, hr5⟩ := RepS.get hpr he5
    obtain ⟨v5, rfl, x5K, x5Kn, x5Th, x5k, x5n, x5o, x5s, x5l⟩ := ru_iff.1 hr5
    obtain ⟨A5, c5, rfl, x5c, x5m, x5l⟩ := RepS.open_ x5l
    refine sr_op rfl rfl (ow_indexAddrA sl23 ty84 hA5 rfl rfl (by omega) (by omega) (r := o5 + i * 8) rfl ?_)
    refine sr_op rfl rfl (ow_loadI (v := .agg #[.string x5.kind, .int .i64 x5.kindNo, .int .i64 x5.think, .int .i64 x5.expr.kind, .int .i64 x5.expr.n, .int .i64 x5.expr.no, .string x5.expr.name, .slice A5 x5.expr.l.length c5]) ty84 H rfl hat5 rfl rfl rfl ?_)
    refine sr_op rfl rfl (ow_alloc ty84 H [.string ⟨#[]⟩, .int .i64 0, .int .i64 0, .int .i64 0, .int .i64 0, .int .i64 0, .string ⟨#[]⟩, .slice none 0 0] rfl (fun g6 _ H => ?_))
    refine sr_op rfl rfl (ow_store ty84 H rfl (v := .agg #[.string x5.kind, .int .i64 x5.kindNo, .int .i64 x5.think, .int .i64 x5.expr.kind, .int .i64 x5.expr.n, .int .i64 x5.expr.no, .string x5.expr.name, .slice A5 x5.expr.l.length c5]) rfl [.string x5.kind, .int .i64 x5.kindNo, .int .i64 x5.think, .int .i64 x5.expr.kind, .int .i64 x5.expr.n, .int .i64 x5.expr.no, .string x5.expr.name, .slice A5 x5.expr.l.length c5] rfl rfl rfl 0 rfl rfl (fun _ H => ?_))
    refine sr_nil ?_
    refine st_region ?_
    refine sr_op rfl rfl (ow_move (v := .slice Aa na ca) rfl ?_)
    refine sr_op rfl rfl (ow_fieldAddr fd84_3 ty26 rfl rfl (r := 3) rfl ?_)
    refine sr_op rfl rfl (ow_load (v := .agg #[.int .i64 x5.expr.kind, .int .i64 x5.expr.n, .int .i64 x5.expr.no, .string x5.expr.name, .slice A5 x5.expr.l.length c5]) ty26 H rfl 0 rfl rfl rfl rfl ?_)
    refine sr_op rfl rfl (ow_buildSlice H (e := 26) (ps := [(0, .agg #[.int .i64 x5.expr.kind, .int .i64 x5.expr.n, .int .i64 x5.expr.no, .string x5.expr.name, .slice A5 x5.expr.l.length c5])]) rfl [.int .i64 x5.expr.kind, .int .i64 x5.expr.n, .int .i64 x5.expr.no, .string x5.expr.name, .slice A5 x5.expr.l.length c5] (fun _ => by kernel_rfl) (fun g7 _ H => ?_))
    refine sr_op rfl rfl (ow_append1 sl24 ty26 rfl rfl [(g6, Ob [.string x5.kind, .int .i64 x5.kindNo, .int .i64 x5.think, .int .i64 x5.expr.kind, .int .i64 x5.expr.n, .int .i64 x5.expr.no, .string x5.expr.name, .slice A5 x5.expr.l.length c5] 84), (g1, Ob [.string p.name, .slice Ak p.kinds.length ck, .slice Ao p.offices.length co, .slice Ar p.rules.length cr, .int .i64 p.change.kind, .int .i64 p.change.n, .int .i64 p.change.no, .string p.change.name, .slice Ac p.change.l.length cc, .int .i64 p.mode] 28)] (v := .slice Aa na ca) (cs := cs_) (L := L) H ha rfl rfl ((ex_iff.2 ⟨_, rfl, x5k, x5n, x5o, x5s, x5l⟩)) (len_ex x5.expr) (plain_ex x5.expr) (by simp only [List.length_map, List.length_take, List.length_append, List.length_singleton, List.length_cons, List.length_nil] at *; omega) (by simp only [List.length_map, List.length_take, List.length_append, List.length_singleton, List.length_cons, List.length_nil] at *; omega) (fun va8 cs9 _ H ha => ?_))
    obtain ⟨Aa10, na10, ca10, rfl⟩ := Acc.form ha
    refine sr_op rfl rfl (ow_assign (v := .slice Aa10 na10 ca10) rfl ?_)
    refine sr_nil ?_
    refine st_inBlock ?_
    refine st_region ?_
    refine sr_op rfl rfl (ow_add (r := ((i + 1 : Nat) : Int)) rfl rfl (inc_i64 (by omega)) ?_)
    refine sr_op rfl rfl (ow_move (v := .int .i64 ((i + 1 : Nat) : Int)) rfl ?_)
    refine sr_nil ?_
    exact st_inLoop (st_live [1, 2, 6, 7, 8] (ih3 _ _ _ (by omega) ⟨i + 1, _, _, _, _, _, rfl, rfl, H.drop 1, by omega, by rw [take_some he5, List.map_append, List.map_append]; exact ha⟩))
  · have hc4 := of_decide_eq_false hc4
    refine st_exit rfl ?_
    refine st_seq ?_
    refine st_region ?_
    refine sr_op rfl rfl (ow_move (v := .slice Aa na ca) rfl ?_)
    refine sr_op rfl rfl (ow_fieldAddr fd28_4 ty26 rfl rfl (r := 4) rfl ?_)
    refine sr_op rfl rfl (ow_load (v := .agg #[.int .i64 p.change.kind, .int .i64 p.change.n, .int .i64 p.change.no, .string p.change.name, .slice Ac p.change.l.length cc]) ty26 H rfl 0 rfl rfl rfl rfl ?_)
    refine sr_op rfl rfl (ow_buildSlice H (e := 26) (ps := [(0, .agg #[.int .i64 p.change.kind, .int .i64 p.change.n, .int .i64 p.change.no, .string p.change.name, .slice Ac p.change.l.length cc])]) rfl [.int .i64 p.change.kind, .int .i64 p.change.n, .int .i64 p.change.no, .string p.change.name, .slice Ac p.change.l.length cc] (fun _ => by kernel_rfl) (fun g11 _ H => ?_))
    refine sr_op rfl rfl (ow_append1 sl24 ty26 rfl rfl [(g1, Ob [.string p.name, .slice Ak p.kinds.length ck, .slice Ao p.offices.length co, .slice Ar p.rules.length cr, .int .i64 p.change.kind, .int .i64 p.change.n, .int .i64 p.change.no, .string p.change.name, .slice Ac p.change.l.length cc, .int .i64 p.mode] 28)] (v := .slice Aa na ca) (cs := cs_) (L := L) H ha rfl rfl ((ex_iff.2 ⟨_, rfl, hck, hcn, hcno, hcs, hcl⟩)) (len_ex p.change) (plain_ex p.change) (by simp only [List.length_map, List.length_take, List.length_append, List.length_singleton, List.length_cons, List.length_nil] at *; omega) (by simp only [List.length_map, List.length_take, List.length_append, List.length_singleton, List.length_cons, List.length_nil] at *; omega) (fun va12 cs13 _ H ha => ?_))
    obtain ⟨Aa14, na14, ca14, rfl⟩ := Acc.form ha
    refine sr_op rfl rfl (ow_assign (v := .slice Aa14 na14 ca14) rfl ?_)
    refine sr_nil ?_
    refine st_ret hb (hR _ _ (.slice Aa14 na14 ca14) (res_run (vs := [.slice Aa14 na14 ca14]) Tryz.results140 ⟨_, _, rfl, rfl, rfl⟩) ?_)
    obtain ⟨I2, hI2, H, hr⟩ := Acc.done ha (H.drop 1)
    refine ⟨_, rfl, I2, hI2, H, ?_⟩
    have : p.rules.take i = p.rules := List.take_of_length_le (by omega)
    rw [this] at hr
    simpa [RepS, exprs] using hr
theorem resolve_c {B : World} {off : List ByteArray} : ∀ (d : Nat) {x : Ex} {I : Im} {L : List (Nat × Obj)} {w : World} {vo v : Value}, x.pc ≤ d → d ≤ 1000000 → Hp B I w L → RepS encS I 1 off vo → RepL I (encEx x) [.int .i64 x.kind, .int .i64 x.n, .int .i64 x.no, .string x.name, v] →
    Calls Tryz.prog 56 #[vo, exV x v] w (Rt fun r w' => ∃ I' us, Le I I' ∧ Hp B I' w' L ∧ r = .agg us.toArray ∧ RepL I' (encEx (resolveX off x)) us) := by
  intro d
  induction d with
  | zero =>
    intro x _ _ _ _ _ h0
    have := x.pc_eq
    omega
  | succ d ih =>
  intro x I L w vo v hd hd6 H ho hx
  unfold exV
  obtain ⟨v', he, hxk, hxn, hxo, hxs, hxl⟩ := ex_iff.1 hx
  obtain rfl : v' = v := by simpa using he.symm
  clear he
  obtain ⟨A, c, rfl, hlc, hcm, hxl⟩ := RepS.open_ hxl
  obtain ⟨Ao, co, rfl, hol, hom, ho⟩ := RepS.open_ ho
  refine calls_st (n := 35) Tryz.func56 rfl rfl rfl ?_
  intro G bF cs hb hfn hR hP
  simp only [ini]
  refine st_seq ?_
  refine st_region ?_
  refine sr_op rfl rfl (ow_box H (v := .agg #[.int .i64 x.kind, .int .i64 x.n, .int .i64 x.no, .string x.name, .slice A x.l.length c]) rfl [.int .i64 x.kind, .int .i64 x.n, .int .i64 x.no, .string x.name, .slice A x.l.length c] rfl (fun g1 _ H => ?_))
  refine sr_op rfl rfl (ow_alloc ty26 H [.int .i64 0, .int .i64 0, .int .i64 0, .string ⟨#[]⟩, .slice none 0 0] rfl (fun g2 _ H => ?_))
  refine sr_nil ?_
  refine st_seq ?_
  refine st_region ?_
  refine sr_op rfl rfl (ow_fieldAddr fd26_2 ty3 rfl rfl (r := 2) rfl ?_)
  refine sr_op rfl rfl (ow_store ty3 H rfl (v := .int .i64 0) rfl [.int .i64 0] rfl rfl rfl 1 rfl rfl (fun _ H => ?_))
  refine sr_nil ?_
  refine st_seq ?_
  refine st_seq ?_
  refine st_region ?_
  refine sr_op rfl rfl (ow_load (v := .agg #[.int .i64 x.kind, .int .i64 x.n, .int .i64 0, .string x.name, .slice A x.l.length c]) ty26 H rfl 1 rfl rfl rfl rfl ?_)
  refine sr_op rfl rfl (ow_call en121 rfl (isNamed_c H x.kind x.n 0 x.name (.slice A x.l.length c)) ?_)
  rintro _ _ ⟨rfl, H⟩
  refine sr_nil ?_
  refine st_cut (fun m_ w_ => ∃ (r_ : Sl), m_ = (0, .slice Ao off.length co) :: (3, .pointer (some ⟨g1, 0, none⟩)) :: (4, .pointer (some ⟨g2, 0, none⟩)) :: r_ ∧ Hp B I w_ ((g2, Ob [.int .i64 0, .int .i64 0, .int .i64 0, .string ⟨#[]⟩, .slice none 0 0] 26) :: (g1, Ob [.int .i64 x.kind, .int .i64 x.n, .int .i64 (if isNamed x.kind = true then idx off x.name else 0), .string x.name, .slice A x.l.length c] 26) :: L)) (fun again => ?_) ?_
  · refine st_cond (isNamed x.kind) rfl (fun hc3 => ?_) (fun hc3 => ?_)
    · rw [if_pos hc3] at again
      refine st_region ?_
      refine sr_op rfl rfl (ow_move (v := .slice Ao off.length co) rfl ?_)
      refine sr_op rfl rfl (ow_fieldAddr fd26_3 ty9 rfl rfl (r := 3) rfl ?_)
      refine sr_op rfl rfl (ow_load (v := .string x.name) ty9 H rfl 1 rfl rfl rfl rfl ?_)
      refine sr_op rfl rfl (ow_call en122 rfl (index_c H ho x.name) ?_)
      rintro _ _ ⟨rfl, H⟩
      refine sr_op rfl rfl (ow_fieldAddr fd26_2 ty3 rfl rfl (r := 2) rfl ?_)
      refine sr_op rfl rfl (ow_store ty3 H rfl (v := .int .i64 (idx off x.name)) rfl [.int .i64 (idx off x.name)] rfl rfl rfl 1 rfl rfl (fun _ H => ?_))
      refine sr_nil ?_
      exact st_live [0, 3, 4] (again _ _ ⟨_, rfl, H⟩)
    · rw [if_neg (by rw [hc3]; decide)] at again
      refine st_skip ?_
      exact st_live [0, 3, 4] (again _ _ ⟨_, rfl, H⟩)
  rintro _ _ ⟨r4, rfl, H⟩
  refine st_seq ?_
  refine st_region ?_
  refine sr_op rfl rfl (ow_fieldAddr fd26_4 ty24 rfl rfl (r := 4) rfl ?_)
  refine sr_op rfl rfl (ow_load (v := .slice A x.l.length c) ty24 H rfl 1 rfl rfl rfl rfl ?_)
  refine sr_op rfl rfl (ow_assign (v := .slice A x.l.length c) rfl ?_)
  refine sr_nil ?_
  refine st_seq ?_
  refine st_region ?_
  refine sr_op rfl rfl (ow_fieldAddr fd26_4 ty24 rfl rfl (r := 4) rfl ?_)
  refine sr_op rfl rfl (ow_store ty24 H rfl (v := .slice none 0 0) rfl [.slice none 0 0] rfl rfl rfl 1 rfl rfl (fun _ H => ?_))
  refine sr_nil ?_
  refine st_seq ?_
  refine st_seq ?_
  refine st_region ?_
  refine sr_op rfl rfl (ow_move (v := .slice A x.l.length c) rfl ?_)
  refine sr_op rfl rfl (ow_lenS sl24 rfl rfl ?_)
  refine sr_op rfl rfl (ow_move (v := .int .i64 0) rfl ?_)
  refine sr_nil ?_
  refine st_block ?_
  refine st_loop ?_
  refine st_live [0, 3, 4, 19, 20, 21] ?_
  refine st_ind (fun d_ m_ w_ => ∃ (i : Nat) (I1 : Im) (Aa : Option Addr) (na ca : Nat) (cs_ : List Value) (r_ : Sl), d_ = x.l.length - i ∧ m_ = (0, .slice Ao off.length co) :: (3, .pointer (some ⟨g1, 0, none⟩)) :: (4, .pointer (some ⟨g2, 0, none⟩)) :: (19, .slice A x.l.length c) :: (20, .int .i64 (x.l.length : Int)) :: (21, .int .i64 (i : Int)) :: r_ ∧ Hp B I1 w_ ((g2, Ob [.int .i64 0, .int .i64 0, .int .i64 0, .string ⟨#[]⟩, .slice none 0 0] 26) :: (g1, Ob [.int .i64 x.kind, .int .i64 x.n, .int .i64 (if isNamed x.kind = true then idx off x.name else 0), .string x.name, .slice Aa na ca] 26) :: (rowL (.slice Aa na ca) cs_ 26 ++ L)) ∧ i ≤ x.l.length ∧ Le I I1 ∧ Acc I1 5 (.slice Aa na ca) cs_ (((x.l.take i).map (resolveX off)).map encEx)) _ ⟨0, I, none, 0, 0, [], _, rfl, rfl, H, Nat.zero_le _, Le.refl I, Acc.none_ _ _ _⟩ ?_
  rintro _ _ _ ⟨i, I1, Aa, na, ca, cs_, r5, rfl, rfl, H, hi, hI1, ha⟩ ih6
  have ho := ho.mono hI1
  have hxl := hxl.mono hI1
  refine st_seq ?_
  refine st_region ?_
  refine sr_op rfl rfl (ow_lss rfl rfl ?_)
  refine sr_nil ?_
  refine st_seq ?_
  refine st_cond (decide ((i : Int) < (x.l.length : Int))) rfl (fun hc7 => ?_) (fun hc7 => ?_)
  · have hc7 := of_decide_eq_true hc7
    refine st_skip ?_
    refine st_seq ?_
    refine st_block ?_
    refine st_seq ?_
    refine st_region ?_
    obtain ⟨y8, he8⟩ : ∃ q_, x.l[i]? = some q_ := ⟨_, List.getElem?_eq_getElem (by omega)⟩
    obtain ⟨b8, o8, us8, hA8, hat8, hul8, hr8⟩ := RepS.get hxl he8
    obtain ⟨v8, rfl, y8k, y8n, y8o, y8s, y8l⟩ := ex_iff.1 hr8
    obtain ⟨A8, c8, rfl, y8c, y8m, y8l⟩ := RepS.open_ y8l
    refine sr_op rfl rfl (ow_indexAddrA sl24 ty26 hA8 rfl rfl (by omega) (by omega) (r := o8 + i * 5) rfl ?_)
    refine sr_op rfl rfl (ow_loadI (v := .agg #[.int .i64 y8.kind, .int .i64 y8.n, .int .i64 y8.no, .string y8.name, .slice A8 y8.l.length c8]) ty26 H rfl hat8 rfl rfl rfl ?_)
    refine sr_op rfl rfl (ow_alloc ty26 H [.int .i64 0, .int .i64 0, .int .i64 0, .string ⟨#[]⟩, .slice none 0 0] rfl (fun g9 _ H => ?_))
    refine sr_op rfl rfl (ow_store ty26 H rfl (v := .agg #[.int .i64 y8.kind, .int .i64 y8.n, .int .i64 y8.no, .string y8.name, .slice A8 y8.l.length c8]) rfl [.int .i64 y8.kind, .int .i64 y8.n, .int .i64 y8.no, .string y8.name, .slice A8 y8.l.length c8] rfl rfl rfl 0 rfl rfl (fun _ H => ?_))
    refine sr_nil ?_
    refine st_draw (F := (fun w_ => ∃ I2, Le I1 I2 ∧ Hp B I2 w_ [(g9, Ob [.int .i64 y8.kind, .int .i64 y8.n, .int .i64 y8.no, .string y8.name, .slice A8 y8.l.length c8] 26), (g2, Ob [.int .i64 0, .int .i64 0, .int .i64 0, .string ⟨#[]⟩, .slice none 0 0] 26), (g1, Ob [.int .i64 x.kind, .int .i64 x.n, .int .i64 (if isNamed x.kind = true then idx off x.name else 0), .string x.name, .slice Aa na ca] 26)])) (p0 := [0, 1, 2, 3]) (plan := [(4, [], [0, 1]), (5, [], [0, 1]), (6, [7], []), (8, [], [])]) [] [] [(28, .agg #[.int .i64 y8.kind, .int .i64 y8.n, .int .i64 y8.no, .string y8.name, .slice A8 y8.l.length c8]), (27, .slice Ao off.length co), (26, .slice Aa na ca), (25, .pointer (some ⟨g1, 4, none⟩))] (by kernel_rfl) rfl ?_ ⟨_, Le.refl _, H.drew.pick [0, 1, 2] (by decide)⟩ ?_
    · refine ⟨kn_op rfl rfl (wantB_none rfl) fun _ hF2 => ?_, ?_⟩
      · obtain ⟨_, hle2, H2⟩ := hF2
        refine  (ow_fieldAddr fd26_4 ty24 rfl rfl (r := 4) rfl ?_)
        exact ⟨rfl, rfl⟩
      refine ⟨kn_op rfl rfl (wantB_none rfl) fun _ hF2 => ?_, ?_⟩
      · obtain ⟨_, hle2, H2⟩ := hF2
        refine  (ow_load (v := .slice Aa na ca) ty24 H2 rfl 2 rfl rfl rfl rfl ?_)
        exact ⟨rfl, rfl⟩
      refine ⟨kn_op rfl rfl (wantB_none rfl) fun _ hF2 => ?_, ?_⟩
      · obtain ⟨_, hle2, H2⟩ := hF2
        refine  (ow_move (v := .slice Ao off.length co) rfl ?_)
        exact ⟨rfl, rfl⟩
      refine ⟨kn_op rfl rfl (wantB_none rfl) fun _ hF2 => ?_, ?_⟩
      · obtain ⟨_, hle2, H2⟩ := hF2
        refine  (ow_load (v := .agg #[.int .i64 y8.kind, .int .i64 y8.n, .int .i64 y8.no, .string y8.name, .slice A8 y8.l.length c8]) ty26 H2 rfl 0 rfl rfl rfl rfl ?_)
        exact ⟨rfl, rfl⟩
      exact trivial
    have H := H.drew
    refine cw_op rfl (wantB_none rfl) (ow_call en56 rfl (ih (x := y8) (by have := Ex.pc_at he8; omega) (by omega) H ho (ex_iff.2 ⟨_, rfl, y8k, y8n, y8o, y8s, y8l⟩)) ?_)
    rintro _ _ ⟨I10, us10, hI10, H, rfl, hr10⟩
    obtain ⟨vr10, rfl, hrk10, hrn10, hro10, hrs10, hrl10⟩ := ex_iff.1 hr10
    obtain ⟨Ar10, cr10, rfl, _, _, hrl10⟩ := RepS.open_ hrl10
    have ho := ho.mono hI10
    have hxl := hxl.mono hI10
    have ha := ha.mono hI10
    refine af_some [] (fun w_ => ∃ I2, Le I10 I2 ∧ Hp B I2 w_ [(g9, Ob [.int .i64 y8.kind, .int .i64 y8.n, .int .i64 y8.no, .string y8.name, .slice A8 y8.l.length c8] 26), (g2, Ob [.int .i64 0, .int .i64 0, .int .i64 0, .string ⟨#[]⟩, .slice none 0 0] 26), (g1, Ob [.int .i64 x.kind, .int .i64 x.n, .int .i64 (if isNamed x.kind = true then idx off x.name else 0), .string x.name, .slice Aa na ca] 26)]) rfl ⟨_, Le.refl _, H.pick [0, 1, 2] (by decide)⟩ ?_ ?_
    · refine ⟨kn_op rfl rfl (wantB_none rfl) fun _ hF2 => ?_, ?_⟩
      · obtain ⟨_, hle2, H2⟩ := hF2
        refine  (ow_fieldAddr fd26_4 ty24 rfl rfl (r := 4) rfl ?_)
        exact ⟨rfl, rfl⟩
      refine ⟨kn_op rfl rfl (wantB_none rfl) fun _ hF2 => ?_, ?_⟩
      · obtain ⟨_, hle2, H2⟩ := hF2
        refine  (ow_load (v := .slice Aa na ca) ty24 H2 rfl 2 rfl rfl rfl rfl ?_)
        exact ⟨rfl, rfl⟩
      exact trivial
    refine cw_op rfl (wantB_none rfl) (ow_buildSlice H (e := 26) (ps := [(0, .agg #[.int .i64 ((resolveX off y8).kind), .int .i64 ((resolveX off y8).n), .int .i64 ((resolveX off y8).no), .string ((resolveX off y8).name), .slice Ar10 ((resolveX off y8).l.length) cr10])]) rfl [.int .i64 ((resolveX off y8).kind), .int .i64 ((resolveX off y8).n), .int .i64 ((resolveX off y8).no), .string ((resolveX off y8).name), .slice Ar10 ((resolveX off y8).l.length) cr10] (fun _ => by kernel_rfl) (fun g11 _ H => ?_))
    refine af_some [] (fun w_ => ∃ I2, Le I10 I2 ∧ Hp B I2 w_ [(g11, Ob [.int .i64 ((resolveX off y8).kind), .int .i64 ((resolveX off y8).n), .int .i64 ((resolveX off y8).no), .string ((resolveX off y8).name), .slice Ar10 ((resolveX off y8).l.length) cr10] 26), (g9, Ob [.int .i64 y8.kind, .int .i64 y8.n, .int .i64 y8.no, .string y8.name, .slice A8 y8.l.length c8] 26), (g2, Ob [.int .i64 0, .int .i64 0, .int .i64 0, .string ⟨#[]⟩, .slice none 0 0] 26), (g1, Ob [.int .i64 x.kind, .int .i64 x.n, .int .i64 (if isNamed x.kind = true then idx off x.name else 0), .string x.name, .slice Aa na ca] 26)]) rfl ⟨_, Le.refl _, H.pick [0, 1, 2, 3] (by decide)⟩ ?_ ?_
    · refine ⟨kn_op rfl rfl (wantB_none rfl) fun _ hF2 => ?_, ?_⟩
      · obtain ⟨_, hle2, H2⟩ := hF2
        refine  (ow_fieldAddr fd26_4 ty24 rfl rfl (r := 4) rfl ?_)
        exact ⟨rfl, rfl⟩
      refine ⟨kn_op rfl rfl (wantB_none rfl) fun _ hF2 => ?_, ?_⟩
      · obtain ⟨_, hle2, H2⟩ := hF2
        refine  (ow_load (v := .slice Aa na ca) ty24 H2 rfl 3 rfl rfl rfl rfl ?_)
        exact ⟨rfl, rfl⟩
      exact trivial
    refine cw_op rfl (wantB_none rfl) (ow_append1 sl24 ty26 rfl rfl [(g9, Ob [.int .i64 y8.kind, .int .i64 y8.n, .int .i64 y8.no, .string y8.name, .slice A8 y8.l.length c8] 26), (g2, Ob [.int .i64 0, .int .i64 0, .int .i64 0, .string ⟨#[]⟩, .slice none 0 0] 26), (g1, Ob [.int .i64 x.kind, .int .i64 x.n, .int .i64 (if isNamed x.kind = true then idx off x.name else 0), .string x.name, .slice Aa na ca] 26)] (v := .slice Aa na ca) (cs := cs_) (L := L) H ha rfl rfl ((ex_iff.2 ⟨_, rfl, hrk10, hrn10, hro10, hrs10, hrl10⟩)) (len_ex _) (plain_ex _) (by have := x.len_pc; simp only [List.length_map, List.length_take]; omega) (by have := x.len_pc; simp only [List.length_map, List.length_take]; omega) (fun va12 cs13 _ H ha => ?_))
    obtain ⟨Aa14, na14, ca14, rfl⟩ := Acc.form ha
    refine af_some [(32, .pointer (some ⟨g1, 4, none⟩))] (fun w_ => ∃ I2, Le I10 I2 ∧ Hp B I2 w_ [(g9, Ob [.int .i64 y8.kind, .int .i64 y8.n, .int .i64 y8.no, .string y8.name, .slice A8 y8.l.length c8] 26), (g2, Ob [.int .i64 0, .int .i64 0, .int .i64 0, .string ⟨#[]⟩, .slice none 0 0] 26), (g1, Ob [.int .i64 x.kind, .int .i64 x.n, .int .i64 (if isNamed x.kind = true then idx off x.name else 0), .string x.name, .slice Aa na ca] 26)]) rfl ⟨_, Le.refl _, H.pick [0, 1, 2] (by decide)⟩ ?_ ?_
    · refine ⟨kn_op rfl rfl (wantB_none rfl) fun _ hF2 => ?_, ?_⟩
      · obtain ⟨_, hle2, H2⟩ := hF2
        refine  (ow_fieldAddr fd26_4 ty24 rfl rfl (r := 4) rfl ?_)
        exact ⟨rfl, rfl⟩
      exact trivial
    refine cw_op rfl (wantB_none rfl) (ow_store ty24 H rfl (v := .slice Aa14 na14 ca14) rfl [.slice Aa14 na14 ca14] rfl rfl rfl 2 rfl rfl (fun _ H => ?_))
    refine af_none ?_
    refine cw_nil ?_
    refine st_inBlock ?_
    refine st_region ?_
    refine sr_op rfl rfl (ow_add (r := ((i + 1 : Nat) : Int)) rfl rfl (inc_i64 (by omega)) ?_)
    refine sr_op rfl rfl (ow_move (v := .int .i64 ((i + 1 : Nat) : Int)) rfl ?_)
    refine sr_nil ?_
    exact st_inLoop (st_live [0, 3, 4, 19, 20, 21] (ih6 _ _ _ (by omega) ⟨i + 1, _, _, _, _, _, _, rfl, rfl, H.drop 1, by omega, Le.trans hI1 hI10, by rw [take_some he8, List.map_append, List.map_append]; exact ha⟩))
  · have hc7 := of_decide_eq_false hc7
    refine st_exit rfl ?_
    refine st_seq ?_
    refine st_region ?_
    refine sr_op rfl rfl (ow_load (v := .agg #[.int .i64 x.kind, .int .i64 x.n, .int .i64 (if isNamed x.kind = true then idx off x.name else 0), .string x.name, .slice Aa na ca]) ty26 H rfl 1 rfl rfl rfl rfl ?_)
    refine sr_op rfl rfl (ow_store ty26 H rfl (v := .agg #[.int .i64 x.kind, .int .i64 x.n, .int .i64 (if isNamed x.kind = true then idx off x.name else 0), .string x.name, .slice Aa na ca]) rfl [.int .i64 x.kind, .int .i64 x.n, .int .i64 (if isNamed x.kind = true then idx off x.name else 0), .string x.name, .slice Aa na ca] rfl rfl rfl 0 rfl rfl (fun _ H => ?_))
    refine sr_nil ?_
    refine st_ret hb (hR _ _ (.agg #[.int .i64 x.kind, .int .i64 x.n, .int .i64 (if isNamed x.kind = true then idx off x.name else 0), .string x.name, .slice Aa na ca]) (res_run (vs := [.agg #[.int .i64 x.kind, .int .i64 x.n, .int .i64 (if isNamed x.kind = true then idx off x.name else 0), .string x.name, .slice Aa na ca]]) Tryz.results56 ⟨_, _, rfl, resV_own (v := .agg #[.int .i64 x.kind, .int .i64 x.n, .int .i64 (if isNamed x.kind = true then idx off x.name else 0), .string x.name, .slice Aa na ca]) ty26 H rfl 0 rfl rfl rfl rfl, rfl⟩) ?_)
    obtain ⟨I9, hI9, H, hr⟩ := Acc.done ha (H.drop 2)
    have : x.l.take i = x.l := List.take_of_length_le (by omega)
    rw [this] at hr
    have hlen : x.l.length = (resolveX off x).l.length := by rw [resolveX_l, List.length_map]
    refine ⟨_, rfl, I9, _, Le.trans hI1 hI9, H, rfl, ex_iff.2 ⟨_, by rw [resolveX_kind, resolveX_n, resolveX_no, resolveX_name], by rw [resolveX_kind]; exact hxk, by rw [resolveX_n]; exact hxn, ?_, by rw [resolveX_name]; exact hxs, ?_⟩⟩
    · rw [resolveX_no]
      split
      · exact idx_I64 _ _ (by omega)
      · unfold I64; omega
    · rw [resolveX_l]
      exact hr
end Go.Proofs.YtghmjnbpkobooaaGreatDoor
