/-
  The statement SyntaxSpaces of the law package of syntax, as the given card has it, is proved: for every input that the row lets in, the law returns true and each argument reads behind the call as it read before; the listed variables (tables and errors of the library) begin as the program's text lays them. No further condition.
-/
import Derived.Test.YtghmjnbpkobooaaGreatDoorMH
import Derived.Test.YtghmjnbpkobooaaGreatDoorZ2
import Derived.Test.YtghmjnbpkobooaaGreatDoorL8
import Derived.Test.YtghmjnbpkobooaaGreatDoorBD
import Derived.Test.YtghmjnbpkobooaaGreatDoorMR
set_option linter.unusedVariables false
set_option linter.unusedSimpArgs false
set_option maxRecDepth 10000
set_option maxHeartbeats 4000000
namespace Go.Proofs.YtghmjnbpkobooaaGreatDoor
open Go Go.RowKit

theorem Lex_n {B I L w} (H : Hp B I w L) (src : ByteArray) (hS : S63 src) (hlib : LibAt I) : Calls Tryz.prog 35 #[.string src] w (Rt fun r w' => ∃ l a e I' v, lexE src = (l, a, e) ∧ Le I I' ∧ Hp B I' w' L ∧ r = .tuple #[v, .int .i64 a, .int .i64 e] ∧ RepS encTk I' 4 l v) := by
  refine Calls.mono (Lex_c H src hS hlib) fun e w' he => ?_
  obtain ⟨_, rfl, I', v, hI, H', rfl, hl⟩ := he
  exact ⟨_, rfl, _, _, _, I', v, rfl, hI, H', rfl, hl⟩
theorem Text_v {B I L w} (H : Hp B I w L) {l : List Tk} {v : Value} (hl : RepS encTk I 4 l v) (hn : l.length ≤ 100000) (hlib : LibAt I) (hv : l.all validB = true) : Calls Tryz.prog 36 #[v] w (Rt fun r w' => r = .tuple #[.string (joinW l), .int .i64 0] ∧ Hp B I w' L) := by
  have h := Text_c H hl hn (fun h => join_bound (by omega) h) hlib (rep_toks hl)
  rw [text_yes hv] at h
  exact h
theorem law_start {src : ByteArray} {l : List Tk} {a e a2 k : Int} {x : Po} (h1 : lexE src = (l, a, e)) (h2 : parseE src = (x, a2, k)) (he : e = 0) (hk : k = 0) : l.all validB = true ∧ policyT fuelN l = .ok x [] ∧ l.length ≤ src.size ∧ costT l ≤ 2 * src.size := by
  subst he
  subst hk
  have hg := lex_good (src := src) (by rw [h1])
  have hp := parse_good (src := src) (by rw [h2])
  rw [h1] at hg hp
  rw [h2] at hp
  exact ⟨hg.2.1, hp.2.1, hg.2.2.1, hg.2.2.2.2⟩
theorem take_valid {l : List Tk} (i : Nat) (h : l.all validB = true) : (l.take i).all validB = true := by
  rw [← List.take_append_drop i l, List.all_append, Bool.and_eq_true] at h
  exact h.1
theorem u64_nat (n : Int) : ∃ q : Nat, IntKind.u64.wrap n = (q : Int) := by
  refine ⟨(n % 18446744073709551616).toNat, ?_⟩
  have h : IntKind.u64.wrap n = n % 18446744073709551616 := rfl
  rw [h]
  omega
theorem u64_len {q : Nat} (h : q ≤ 1000000) : IntKind.u64.wrap (q : Int) = (q : Int) := by
  have h1 : IntKind.u64.wrap (q : Int) = (q : Int) % 18446744073709551616 := rfl
  rw [h1]
  omega
theorem rem_nat (q : Nat) {l : Nat} (h : 0 < l) : ∃ i : Nat, Int.tmod (q : Int) (l : Int) = (i : Int) ∧ i < l := by
  refine ⟨q % l, ?_, Nat.mod_lt _ h⟩
  rw [Int.tmod_eq_emod_of_nonneg (by omega)]
  rfl
end Go.Proofs.YtghmjnbpkobooaaGreatDoor

set_option linter.unusedVariables false
set_option linter.unusedSimpArgs false
namespace Go.Proofs.YtghmjnbpkobooaaGreatDoor
open Go Go.RowKit

def Wh (x : ByteArray) : Prop := ∃ u A, x.data.toList = u :: A ∧ classI (u.toNat : Int) = 1
/-- What is written so far is read as these tokens, if white space follows. -/
def ReadV (s : ByteArray) (l : List Tk) : Prop := ∃ m, sameTs l m = true ∧ ∀ x : ByteArray, Wh x → lexFrom (s ++ x) 0 [] = lexFrom (s ++ x) s.size m
theorem readv_start : ReadV ⟨#[]⟩ [] := ⟨[], rfl, fun x _ => rfl⟩
theorem readv_next {s : ByteArray} {l : List Tk} {t : Tk} {g : ByteArray} (h : ReadV s l) (hv : validB t = true) (hg : GapOk g.data.toList) (hw : Wh g) : ReadV (s ++ (g ++ spellS t)) (l ++ [t]) := by
  obtain ⟨m, h1, h2⟩ := h
  obtain ⟨u, A, hsp, hs, hc1, hcm, _⟩ := word_valid hv
  refine ⟨m ++ [mkTk t.kind t.text t.n (0 + ((s.size + g.size : Nat) : Int))], same_snoc h1 (same_norm _ _), fun x hx => ?_⟩
  have e : (s ++ (g ++ spellS t)) ++ x = s ++ ((g ++ spellS t) ++ x) := by
    apply bytes_ext
    simp only [app_list, List.append_assoc]
  have hW : Wh ((g ++ spellS t) ++ x) := by
    obtain ⟨v, B, h3, h4⟩ := hw
    exact ⟨v, B ++ (spellS t).data.toList ++ x.data.toList, by simp only [app_list, h3, List.cons_append, List.append_assoc], h4⟩
  have hd : (s ++ ((g ++ spellS t) ++ x)).data.toList.drop s.size = g.data.toList ++ ((u :: A) ++ x.data.toList) := by
    rw [app_list, size_data, List.drop_left, app_list, app_list, hsp, List.append_assoc]
  have hwz : (spellS t).size = (u :: A).length := by rw [size_data, hsp]
  have hgz : g.size = g.data.toList.length := size_data _
  rw [e, h2 _ hW]
  generalize s ++ ((g ++ spellS t) ++ x) = src at hd ⊢
  rw [hg src _ _ _ hd, ← hgz]
  have hd2 : src.data.toList.drop (s.size + g.size) = (u :: A) ++ x.data.toList := by rw [← List.drop_drop, hd, hgz, List.drop_left]
  obtain ⟨_, hlt⟩ := at_drop (u := u) (Y := A ++ x.data.toList) hd2
  obtain ⟨v, B, hx1, hx2⟩ := hx
  have hst : stepO src (s.size + g.size) = some (shiftR (s.size + g.size) ([mkTk t.kind t.text t.n 0], (u :: A).length)) := by
    rw [step_T hlt, hd2, hx1, stepT_white _ hx2 hc1 (fun e => by rw [hcm] at e; cases e), hs]
    rfl
  rw [lex_step hlt hst, app_size, app_size, hwz, ← Nat.add_assoc]
  rfl
theorem readv_lex {s : ByteArray} {l : List Tk} (h : ReadV s l) (hz : s.size ≤ 60000) : ∃ m, lexE (s ++ ⟨#[10]⟩) = (m, 0, 0) ∧ sameTs l m = true := by
  obtain ⟨m, h1, h2⟩ := h
  have hsz : (s ++ (⟨#[10]⟩ : ByteArray)).size = s.size + 1 := by rw [app_size]; rfl
  have h3 := h2 ⟨#[10]⟩ ⟨10, [], rfl, white_10⟩
  have hd : (s ++ (⟨#[10]⟩ : ByteArray)).data.toList.drop s.size = [10] ++ [] := by
    rw [app_list, size_data, List.drop_left]
    rfl
  rw [gap_white white_10 _ _ _ _ hd] at h3
  rw [lex_end (src := s ++ ⟨#[10]⟩) (a := s.size + [10].length) m (by rw [hsz]; exact Nat.le_refl _)] at h3
  exact ⟨m, by rw [lexE_small (by omega), h3], h1⟩
/-- The gaps that the statement on spaces may write. -/
def gaps5 : List ByteArray := [⟨#[32]⟩, ⟨#[10, 9]⟩, ⟨#[32, 47, 47, 32, 40, 32, 55, 10]⟩, ⟨#[13, 32, 32]⟩, ⟨#[32, 47, 47, 10]⟩]
theorem gaps5_ok {k : Nat} {g : ByteArray} (h : gaps5[k]? = some g) : GapOk g.data.toList ∧ Wh g ∧ g.size ≤ 8 := by
  have w32 := gap_white white_32
  have w10 := gap_white white_10
  have h9 : classI ((9 : UInt8).toNat : Int) = 1 := by decide +kernel
  have h13 : classI ((13 : UInt8).toNat : Int) = 1 := by decide +kernel
  have hm := List.mem_of_getElem? h
  simp only [gaps5, List.mem_cons, List.not_mem_nil, or_false] at hm
  rcases hm with rfl | rfl | rfl | rfl | rfl
  · exact ⟨w32, ⟨32, _, rfl, white_32⟩, by decide⟩
  · exact ⟨gap_app w10 (gap_white h9), ⟨10, _, rfl, white_10⟩, by decide⟩
  · exact ⟨gap_app w32 (gap_com (w := [32, 40, 32, 55]) (by decide)), ⟨32, _, rfl, white_32⟩, by decide⟩
  · exact ⟨gap_app (gap_white h13) (gap_app w32 w32), ⟨13, _, rfl, h13⟩, by decide⟩
  · exact ⟨gap_app w32 (gap_com (w := []) (by decide)), ⟨32, _, rfl, white_32⟩, by decide⟩
theorem gaps5_at {k : Nat} (h : k < 5) : ∃ g, gaps5[k]? = some g := ⟨_, List.getElem?_eq_getElem (by show k < 5; exact h)⟩
theorem rem5 (e : Int) (h : 0 ≤ e) : ∃ k : Nat, Int.tmod e 5 = (k : Int) ∧ k < 5 := by
  refine ⟨(e % 5).toNat, ?_, by omega⟩
  rw [Int.tmod_eq_emod_of_nonneg h]
  omega
end Go.Proofs.YtghmjnbpkobooaaGreatDoor

set_option linter.unusedVariables false
set_option linter.unusedSimpArgs false
namespace Go.Proofs.YtghmjnbpkobooaaGreatDoor
open Go Go.RowKit
variable {P : Program} {n : Nat} {m : Sl} {w : World} {X : Sl → World → Prop} {Q : List PanicEntry → World → Prop}
variable {d : Nat} {t ty : TypeId} {pos : String} {aft : Array Edge} {gd : Option (Nat × Bool)} {x y : Operand}
theorem ow_indexAgg {e : TypeId} {N : Nat} {z : Value} {by_ : Nat} (ht : P.underlying t = some (.array N e)) (he : Ty P e 1 false z by_) {us : List Value} (hx : ev n m x = .agg us.toArray) {k : IntKind} {i : Nat} (hy : ev n m y = .int k (i : Int)) (hi : i < N) {v : Value} (hv : us[i]? = some v)
    (h : X ((d, v) :: m) w) : Ow P n ⟨some d, .index t x y, ty, pos, aft, gd⟩ X Q m w := by
  refine ow_val (v := v) (w' := w) ?_ h
  simp [execOp, Instr.index, asIntOf, part, underlying, program, Sem.run_bind, Sem.run, hx, hy, ht, Result.andThen, hi, he.size, he.agg, hv]
end Go.Proofs.YtghmjnbpkobooaaGreatDoor

set_option linter.unusedVariables false
set_option linter.unusedSimpArgs false
set_option maxRecDepth 10000
set_option maxHeartbeats 4000000
namespace Go.Proofs.YtghmjnbpkobooaaGreatDoor
open Go Go.RowKit

theorem sz_nl : (⟨#[10]⟩ : ByteArray).size = 1 := rfl
theorem Text_1 {B I L w} (H : Hp B I w L) {t : Tk} {v : Value} (hl : RepS encTk I 4 [t] v) (hlib : LibAt I) (hv : validB t = true) : Calls Tryz.prog 36 #[v] w (Rt fun r w' => r = .tuple #[.string (spellS t), .int .i64 0] ∧ Hp B I w' L) := by
  have h := Text_v H hl (by simp) hlib (by rw [List.all_cons, hv]; rfl)
  have e : joinW [t] = spellS t := spell_one t
  rw [e] at h
  exact h
theorem one_size {t : Tk} (hv : validB t = true) : (spellS t).size ≤ 32 := by
  obtain ⟨_, _, _, _, _, _, h⟩ := word_valid hv
  exact h
theorem all_at {l : List Tk} {j : Nat} {t : Tk} (h : l.all validB = true) (ht : l[j]? = some t) : validB t = true := List.all_eq_true.1 h t (List.mem_of_getElem? ht)
theorem SyntaxSpaces_c {B I L w} (H : Hp B I w L) (src : ByteArray) (hS : src.size ≤ 140737488355328) {gaps : List Int} {gv : Value} (hgp : RepS encU I 1 gaps gv) (hlib : LibAt I) : Calls Tryz.prog 6 #[.string src, gv] w (Rt fun r w' => r = .bool true ∧ Hp B I w' L) := by
  obtain ⟨sgA, sgc, rfl, sgm, sgM, sg⟩ := RepS.open_ hgp
  refine calls_st (n := 94) Tryz.func6 rfl rfl rfl ?_
  intro G bF cs hb hfn hR hP
  simp only [ini]
  refine st_seq ?_
  refine st_region ?_
  refine sr_op rfl rfl (ow_assign (v := .bool false) rfl ?_)
  refine sr_nil ?_
  refine st_seq ?_
  refine st_seq ?_
  refine st_region ?_
  refine sr_op rfl rfl (ow_call en31 rfl (sane19_c H hlib) ?_)
  rintro _ _ ⟨rfl, H⟩
  refine sr_op rfl rfl (ow_not rfl ?_)
  refine sr_nil ?_
  refine st_no rfl ?_
  refine st_skip ?_
  refine st_seq ?_
  refine st_region ?_
  refine sr_op rfl rfl (ow_move (v := .string src) rfl ?_)
  refine sr_op rfl rfl (ow_call en35 rfl (Lex_n H src (by unfold S63; omega) hlib) ?_)
  rintro _ _ ⟨l1, a1, e1, I1, v1, hlx1, hI1, H, rfl, hl1⟩
  obtain ⟨s1A, s1c, rfl, s1m, s1M, s1⟩ := RepS.open_ hl1
  refine sr_op rfl rfl (ow_move (v := .tuple #[.slice s1A l1.length s1c, .int .i64 a1, .int .i64 e1]) rfl ?_)
  refine sr_op rfl rfl (ow_extract (v := .slice s1A l1.length s1c) rfl rfl ?_)
  refine sr_op rfl rfl (ow_extract (v := .int .i64 a1) rfl rfl ?_)
  refine sr_op rfl rfl (ow_extract (v := .int .i64 e1) rfl rfl ?_)
  refine sr_op rfl rfl (ow_assign (v := .slice s1A l1.length s1c) rfl ?_)
  refine sr_op rfl rfl (ow_assign (v := .int .i64 a1) rfl ?_)
  refine sr_op rfl rfl (ow_assign (v := .int .i64 e1) rfl ?_)
  refine sr_nil ?_
  refine st_seq ?_
  refine st_seq ?_
  refine st_region ?_
  refine sr_op rfl rfl (ow_move (v := .string src) rfl ?_)
  refine sr_op rfl rfl (ow_lenT un9 rfl rfl ?_)
  refine sr_op rfl rfl (ow_gtr rfl rfl ?_)
  refine sr_op rfl rfl (ow_move (v := .bool (decide (1000 < (src.size : Int)))) rfl ?_)
  refine sr_cut 3 (fun m_ w_ => ∃ (r_ : Sl) (v_ : Bool), m_ = (34, .bool v_) :: (0, .string src) :: (1, .slice sgA gaps.length sgc) :: (4, .bool false) :: (5, .slice s1A l1.length s1c) :: r_ ∧ Hp B I1 w_ (L) ∧ v_ = ((decide (1000 < (src.size : Int))) || (!decide (e1 = 0)))) (fun again => ?_) ?_
  · rcases hg : decide (1000 < (src.size : Int)) with _ | _
    · refine sr_want rfl (j := 3) (d := 31) rfl rfl rfl (v := false) rfl rfl (ow_move (v := .int .i64 e1) rfl ?_)
      refine sr_want rfl (j := 3) (d := 31) rfl rfl rfl (v := false) rfl rfl (ow_neq rfl rfl ?_)
      refine sr_op rfl rfl (ow_pick (v := .bool (!decide (e1 = 0))) rfl rfl ?_)
      exact sr_live [34, 0, 1, 4, 5] (again _ _ ⟨_, _, rfl, H, by rw [hg] <;> rfl⟩)
    · refine sr_pass rfl (j := 3) (d := 31) rfl rfl rfl (u := true) (v := false) rfl rfl ?_
      refine sr_pass rfl (j := 3) (d := 31) rfl rfl rfl (u := true) (v := false) rfl rfl ?_
      refine sr_op rfl rfl (ow_pick (v := .bool true) rfl rfl ?_)
      exact sr_live [34, 0, 1, 4, 5] (again _ _ ⟨_, _, rfl, H, by rw [hg] <;> rfl⟩)
  rintro _ _ ⟨r, _, rfl, H, rfl⟩
  refine sr_nil ?_
  refine st_cond ((decide (1000 < (src.size : Int))) || (!decide (e1 = 0))) rfl (fun hc1 => ?_) (fun hc1 => ?_)
  · skip
    refine st_seq ?_
    refine st_region ?_
    refine sr_op rfl rfl (ow_assign (v := .bool true) rfl ?_)
    refine sr_nil ?_
    refine st_ret hb (hR _ _ (.bool true) (res_run (vs := [.bool true]) Tryz.results6 ⟨_, _, rfl, rfl, rfl⟩) ?_)
    exact ⟨_, rfl, rfl, (Hp.back H hI1)⟩
  · simp only [Bool.or_eq_false_iff, Bool.not_eq_false', decide_eq_false_iff_not, decide_eq_true_eq] at hc1
    obtain ⟨hz1, he1⟩ := hc1
    have hlg := lex_good (src := src) (by rw [hlx1]; exact he1)
    rw [hlx1] at hlg
    obtain ⟨_, hval, hll, _, _⟩ := hlg
    simp only at hval hll
    refine st_skip ?_
    refine st_seq ?_
    refine st_region ?_
    refine sr_op rfl rfl (ow_assign (v := .string ⟨#[]⟩) rfl ?_)
    refine sr_nil ?_
    refine st_seq ?_
    refine st_seq ?_
    refine st_region ?_
    refine sr_op rfl rfl (ow_move (v := .slice s1A l1.length s1c) rfl ?_)
    refine sr_op rfl rfl (ow_lenS sl67 rfl rfl ?_)
    refine sr_op rfl rfl (ow_move (v := .int .i64 0) rfl ?_)
    refine sr_nil ?_
    refine st_block ?_
    refine st_loop ?_
    refine st_live [0, 1, 4, 8, 35, 36, 37] ?_
    refine st_ind (fun d_ m_ w_ => ∃ (j : Nat) (s : ByteArray) (J2 : Im) (r_ : Sl), d_ = l1.length - j ∧ m_ = (0, .string src) :: (1, .slice sgA gaps.length sgc) :: (4, .bool false) :: (8, .string s) :: (35, .slice s1A l1.length s1c) :: (36, .int .i64 (l1.length : Int)) :: (37, .int .i64 (j : Int)) :: r_ ∧ Hp B J2 w_ (L) ∧ Le I1 J2 ∧ j ≤ l1.length ∧ s.size ≤ 40 * j ∧ ReadV s (l1.take j)) _ ⟨0, ⟨#[]⟩, I1, _, rfl, rfl, H, Le.refl _, Nat.zero_le _, Nat.le_refl _, by rw [List.take_zero]; exact readv_start⟩ ?_
    rintro _ _ _ ⟨j, s, J2, r3, rfl, rfl, H, hJ2, hj, hsz, hrd⟩ ih4
    refine st_seq ?_
    refine st_region ?_
    refine sr_op rfl rfl (ow_lss rfl rfl ?_)
    refine sr_nil ?_
    refine st_seq ?_
    refine st_cond (decide ((j : Int) < (l1.length : Int))) rfl (fun hc5 => ?_) (fun hc5 => ?_)
    · have hc5 := of_decide_eq_true hc5
      refine st_skip ?_
      refine st_seq ?_
      refine st_block ?_
      refine st_seq ?_
      refine st_region ?_
      refine sr_op rfl rfl (ow_move (v := .int .i64 (j : Int)) rfl ?_)
      have s1 := (s1.mono hJ2)
      obtain ⟨e6, he6⟩ : ∃ q_, l1[j]? = some q_ := ⟨_, List.getElem?_eq_getElem (by omega)⟩
      obtain ⟨b6, o6, us6, hA6, hat6, hul6, hr6⟩ := RepS.get s1 he6
      have d6 := hr6
      obtain ⟨rfl, d6_0, d6_1, d6_2, d6_3⟩ := tk_iff.1 hr6
      refine sr_op rfl rfl (ow_indexAddrA sl67 ty71 hA6 rfl rfl (by omega) (by omega) (r := o6 + j * 4) rfl ?_)
      refine sr_op rfl rfl (ow_loadI (v := .agg #[.int .i64 e6.kind, .string e6.text, .int .i64 e6.n, .int .i64 e6.at_]) ty71 H rfl hat6 rfl rfl rfl ?_)
      refine sr_op rfl rfl (ow_alloc ty71 H [.int .i64 0, .string ⟨#[]⟩, .int .i64 0, .int .i64 0] rfl (fun g7 _ H => ?_))
      refine sr_op rfl rfl (ow_assign (v := .int .i64 (j : Int)) rfl ?_)
      refine sr_op rfl rfl (ow_store ty71 H rfl (v := .agg #[.int .i64 e6.kind, .string e6.text, .int .i64 e6.n, .int .i64 e6.at_]) rfl [.int .i64 e6.kind, .string e6.text, .int .i64 e6.n, .int .i64 e6.at_] rfl rfl rfl 0 rfl rfl (fun _ H => ?_))
      refine sr_nil ?_
      refine st_seq ?_
      refine st_region ?_
      refine sr_op rfl rfl (ow_load (v := .agg #[.int .i64 e6.kind, .string e6.text, .int .i64 e6.n, .int .i64 e6.at_]) ty71 H rfl 0 rfl rfl rfl rfl ?_)
      refine sr_op rfl rfl (ow_buildSlice H (e := 71) (ps := [(0, .agg #[.int .i64 e6.kind, .string e6.text, .int .i64 e6.n, .int .i64 e6.at_])]) rfl [.int .i64 e6.kind, .string e6.text, .int .i64 e6.n, .int .i64 e6.at_] (fun _ => by kernel_rfl) (fun g8 _ H => ?_))
      obtain ⟨I9, hI9, H, hl9⟩ := lit_done (enc := encTk) (sz := 4) (n := 1) [e6] rfl (by omega) H ⟨d6, rfl, rfl⟩
      have hve := all_at hval he6
      have hoe := one_size hve
      have hlib := (((hlib.mono hI1).mono hJ2).mono hI9)
      refine sr_op rfl rfl (ow_call en36 rfl (Text_1 H hl9 hlib hve) ?_)
      rintro _ _ ⟨rfl, H⟩
      refine sr_op rfl rfl (ow_move (v := .tuple #[.string (spellS e6), .int .i64 0]) rfl ?_)
      refine sr_op rfl rfl (ow_extract (v := .string (spellS e6)) rfl rfl ?_)
      refine sr_op rfl rfl (ow_extract (v := .int .i64 0) rfl rfl ?_)
      refine sr_op rfl rfl (ow_assign (v := .string (spellS e6)) rfl ?_)
      refine sr_op rfl rfl (ow_assign (v := .int .i64 0) rfl ?_)
      refine sr_nil ?_
      refine st_seq ?_
      refine st_seq ?_
      refine st_region ?_
      refine sr_op rfl rfl (ow_move (v := .int .i64 0) rfl ?_)
      refine sr_op rfl rfl (ow_neq rfl rfl ?_)
      refine sr_op rfl rfl (ow_move (v := .bool false) rfl ?_)
      refine sr_want rfl (j := 2) (d := 50) rfl rfl rfl (v := false) rfl rfl (ow_move (v := .string (spellS e6)) rfl ?_)
      refine sr_want rfl (j := 2) (d := 50) rfl rfl rfl (v := false) rfl rfl (ow_lenT un9 rfl rfl ?_)
      refine sr_want rfl (j := 2) (d := 50) rfl rfl rfl (v := false) rfl rfl (ow_gtr rfl rfl ?_)
      refine sr_op rfl rfl (ow_pick (v := .bool (decide (100 < ((spellS e6).size : Int)))) rfl rfl ?_)
      refine sr_nil ?_
      refine st_no (congrArg Value.bool (decide_eq_false (by omega))) ?_
      refine st_skip ?_
      refine st_seq ?_
      refine st_region ?_
      refine sr_op rfl rfl (ow_assign (v := .int .i64 0) rfl ?_)
      refine sr_nil ?_
      refine st_seq ?_
      refine st_seq ?_
      refine st_region ?_
      refine sr_op rfl rfl (ow_move (v := .int .i64 (j : Int)) rfl ?_)
      refine sr_op rfl rfl (ow_move (v := .slice sgA gaps.length sgc) rfl ?_)
      refine sr_op rfl rfl (ow_lenS sl66 rfl rfl ?_)
      refine sr_op rfl rfl (ow_lss rfl rfl ?_)
      refine sr_nil ?_
      refine st_cond (decide ((j : Int) < (gaps.length : Int))) rfl (fun hc10 => ?_) (fun hc10 => ?_)
      · have hc10 := of_decide_eq_true hc10
        refine st_region ?_
        refine sr_op rfl rfl (ow_move (v := .slice sgA gaps.length sgc) rfl ?_)
        refine sr_op rfl rfl (ow_move (v := .int .i64 (j : Int)) rfl ?_)
        have sg := (((sg.mono hI1).mono hJ2).mono hI9)
        obtain ⟨e11, he11⟩ : ∃ q_, gaps[j]? = some q_ := ⟨_, List.getElem?_eq_getElem (by omega)⟩
        obtain ⟨b11, o11, us11, hA11, hat11, hul11, hr11⟩ := RepS.get sg he11
        have d11 := hr11
        obtain ⟨rfl, d11_0⟩ := u_iff.1 hr11
        refine sr_op rfl rfl (ow_indexAddrA sl66 ty5 hA11 rfl rfl (by omega) (by omega) (r := o11 + j * 1) rfl ?_)
        refine sr_op rfl rfl (ow_loadI (v := .int .u8 e11) ty5 H rfl hat11 rfl rfl rfl ?_)
        refine sr_op rfl rfl (ow_conv (cm := true) Tryz.underlying5 Tryz.underlying3 rfl (r := e11) (wrap_i64 (by omega) (by omega)) ?_)
        obtain ⟨k, hk, hk5⟩ := rem5 e11 (by omega)
        refine sr_op rfl rfl (ow_rem rfl rfl (by omega) (r := (k : Int)) hk ?_)
        refine sr_op rfl rfl (ow_assign (v := .int .i64 (k : Int)) rfl ?_)
        refine sr_nil ?_
        refine st_region ?_
        refine sr_op rfl rfl (ow_move (v := .string s) rfl ?_)
        refine sr_op rfl rfl (ow_build (ps := [(0, .string ⟨#[32]⟩), (1, .string ⟨#[10, 9]⟩), (2, .string ⟨#[32, 47, 47, 32, 40, 32, 55, 10]⟩), (3, .string ⟨#[13, 32, 32]⟩), (4, .string ⟨#[32, 47, 47, 10]⟩)]) (v := .agg #[.string ⟨#[32]⟩, .string ⟨#[10, 9]⟩, .string ⟨#[32, 47, 47, 32, 40, 32, 55, 10]⟩, .string ⟨#[13, 32, 32]⟩, .string ⟨#[32, 47, 47, 10]⟩]) rfl (fun _ => by kernel_rfl) ?_)
        refine sr_op rfl rfl (ow_move (v := .int .i64 (k : Int)) rfl ?_)
        obtain ⟨gq, hgq⟩ := gaps5_at (k := k) (by omega)
        obtain ⟨hgo, hgw, hgz⟩ := gaps5_ok hgq
        refine sr_op rfl rfl (ow_indexAgg un73 ty9 (us := gaps5.map Value.string) rfl (i := k) rfl (by omega) (v := .string gq) (by show (gaps5.map Value.string)[k]? = _; rw [List.getElem?_map, hgq]; rfl) ?_)
        refine sr_op rfl rfl (ow_move (v := .string (spellS e6)) rfl ?_)
        refine sr_op rfl rfl (ow_cat rfl rfl (by first | omega | (simp only [app_size, sz_nl] at *; omega)) ?_)
        refine sr_op rfl rfl (ow_cat rfl rfl (by first | omega | (simp only [app_size, sz_nl] at *; omega)) ?_)
        refine sr_op rfl rfl (ow_assign (v := .string (s ++ (gq ++ (spellS e6)))) rfl ?_)
        refine sr_nil ?_
        refine st_inBlock ?_
        refine st_region ?_
        refine sr_op rfl rfl (ow_add (r := ((j + 1 : Nat) : Int)) rfl rfl (inc_i64 (by omega)) ?_)
        refine sr_op rfl rfl (ow_move (v := .int .i64 ((j + 1 : Nat) : Int)) rfl ?_)
        refine sr_nil ?_
        exact st_inLoop (st_live [0, 1, 4, 8, 35, 36, 37] (ih4 _ _ _ (by omega) ⟨j + 1, s ++ (gq ++ (spellS e6)), I9, _, rfl, rfl, H.drop 1, ((hJ2.trans hI9)), by omega, by
            simp only [app_size]
            omega, by
            rw [take_some he6]
            exact readv_next hrd hve hgo hgw⟩))
      · have hc10 := of_decide_eq_false hc10
        refine st_skip ?_
        refine st_region ?_
        refine sr_op rfl rfl (ow_move (v := .string s) rfl ?_)
        refine sr_op rfl rfl (ow_build (ps := [(0, .string ⟨#[32]⟩), (1, .string ⟨#[10, 9]⟩), (2, .string ⟨#[32, 47, 47, 32, 40, 32, 55, 10]⟩), (3, .string ⟨#[13, 32, 32]⟩), (4, .string ⟨#[32, 47, 47, 10]⟩)]) (v := .agg #[.string ⟨#[32]⟩, .string ⟨#[10, 9]⟩, .string ⟨#[32, 47, 47, 32, 40, 32, 55, 10]⟩, .string ⟨#[13, 32, 32]⟩, .string ⟨#[32, 47, 47, 10]⟩]) rfl (fun _ => by kernel_rfl) ?_)
        refine sr_op rfl rfl (ow_move (v := .int .i64 0) rfl ?_)
        obtain ⟨gq, hgq⟩ := gaps5_at (k := 0) (by omega)
        obtain ⟨hgo, hgw, hgz⟩ := gaps5_ok hgq
        refine sr_op rfl rfl (ow_indexAgg un73 ty9 (us := gaps5.map Value.string) rfl (i := 0) rfl (by omega) (v := .string gq) (by show (gaps5.map Value.string)[0]? = _; rw [List.getElem?_map, hgq]; rfl) ?_)
        refine sr_op rfl rfl (ow_move (v := .string (spellS e6)) rfl ?_)
        refine sr_op rfl rfl (ow_cat rfl rfl (by first | omega | (simp only [app_size, sz_nl] at *; omega)) ?_)
        refine sr_op rfl rfl (ow_cat rfl rfl (by first | omega | (simp only [app_size, sz_nl] at *; omega)) ?_)
        refine sr_op rfl rfl (ow_assign (v := .string (s ++ (gq ++ (spellS e6)))) rfl ?_)
        refine sr_nil ?_
        refine st_inBlock ?_
        refine st_region ?_
        refine sr_op rfl rfl (ow_add (r := ((j + 1 : Nat) : Int)) rfl rfl (inc_i64 (by omega)) ?_)
        refine sr_op rfl rfl (ow_move (v := .int .i64 ((j + 1 : Nat) : Int)) rfl ?_)
        refine sr_nil ?_
        exact st_inLoop (st_live [0, 1, 4, 8, 35, 36, 37] (ih4 _ _ _ (by omega) ⟨j + 1, s ++ (gq ++ (spellS e6)), I9, _, rfl, rfl, H.drop 1, ((hJ2.trans hI9)), by omega, by
            simp only [app_size]
            omega, by
            rw [take_some he6]
            exact readv_next hrd hve hgo hgw⟩))
    · have hc5 := of_decide_eq_false hc5
      refine st_exit rfl ?_
      refine st_seq ?_
      refine st_region ?_
      refine sr_op rfl rfl (ow_move (v := .string src) rfl ?_)
      have hlib := ((hlib.mono hI1).mono hJ2)
      refine sr_op rfl rfl (ow_call en18 rfl (Parse_c H src (by unfold S63; omega) hlib) ?_)
      rintro _ _ ⟨I2, us2, x2, a2, k2, hI2, H, rfl, hk2, hx2⟩
      have d2 := hx2
      obtain ⟨d2v1, d2v2, d2v3, d2v8, rfl, d2_0, d2_1, d2_2, d2_3, d2_4, d2_5, d2_6, d2_7, d2_8, d2_9⟩ := po_iff.1 hx2
      obtain ⟨d2A1, d2c1, rfl, d2m1, d2M1, d2_1⟩ := RepS.open_ d2_1
      obtain ⟨d2A2, d2c2, rfl, d2m2, d2M2, d2_2⟩ := RepS.open_ d2_2
      obtain ⟨d2A3, d2c3, rfl, d2m3, d2M3, d2_3⟩ := RepS.open_ d2_3
      obtain ⟨d2A8, d2c8, rfl, d2m8, d2M8, d2_8⟩ := RepS.open_ d2_8
      refine sr_op rfl rfl (ow_move (v := .tuple #[.agg #[.string x2.name, .slice d2A1 x2.kinds.length d2c1, .slice d2A2 x2.offices.length d2c2, .slice d2A3 x2.rules.length d2c3, .int .i64 x2.change.kind, .int .i64 x2.change.n, .int .i64 x2.change.no, .string x2.change.name, .slice d2A8 x2.change.l.length d2c8, .int .i64 x2.mode], .int .i64 a2, .int .i64 k2]) rfl ?_)
      refine sr_op rfl rfl (ow_extract (v := .agg #[.string x2.name, .slice d2A1 x2.kinds.length d2c1, .slice d2A2 x2.offices.length d2c2, .slice d2A3 x2.rules.length d2c3, .int .i64 x2.change.kind, .int .i64 x2.change.n, .int .i64 x2.change.no, .string x2.change.name, .slice d2A8 x2.change.l.length d2c8, .int .i64 x2.mode]) rfl rfl ?_)
      refine sr_op rfl rfl (ow_extract (v := .int .i64 a2) rfl rfl ?_)
      refine sr_op rfl rfl (ow_extract (v := .int .i64 k2) rfl rfl ?_)
      refine sr_op rfl rfl (ow_alloc ty28 H [.string ⟨#[]⟩, .slice none 0 0, .slice none 0 0, .slice none 0 0, .int .i64 0, .int .i64 0, .int .i64 0, .string ⟨#[]⟩, .slice none 0 0, .int .i64 0] rfl (fun g12 _ H => ?_))
      refine sr_op rfl rfl (ow_store ty28 H rfl (v := .agg #[.string x2.name, .slice d2A1 x2.kinds.length d2c1, .slice d2A2 x2.offices.length d2c2, .slice d2A3 x2.rules.length d2c3, .int .i64 x2.change.kind, .int .i64 x2.change.n, .int .i64 x2.change.no, .string x2.change.name, .slice d2A8 x2.change.l.length d2c8, .int .i64 x2.mode]) rfl [.string x2.name, .slice d2A1 x2.kinds.length d2c1, .slice d2A2 x2.offices.length d2c2, .slice d2A3 x2.rules.length d2c3, .int .i64 x2.change.kind, .int .i64 x2.change.n, .int .i64 x2.change.no, .string x2.change.name, .slice d2A8 x2.change.l.length d2c8, .int .i64 x2.mode] rfl rfl rfl 0 rfl rfl (fun _ H => ?_))
      refine sr_op rfl rfl (ow_assign (v := .int .i64 a2) rfl ?_)
      refine sr_op rfl rfl (ow_assign (v := .int .i64 k2) rfl ?_)
      refine sr_nil ?_
      refine st_seq ?_
      refine st_region ?_
      refine sr_op rfl rfl (ow_move (v := .string s) rfl ?_)
      refine sr_op rfl rfl (ow_cat rfl rfl (by first | omega | (simp only [app_size, sz_nl] at *; omega)) ?_)
      rw [List.take_of_length_le (by omega)] at hrd
      obtain ⟨m, hm, hsm⟩ := readv_lex hrd (by omega)
      have hlib := (hlib.mono hI2)
      refine sr_op rfl rfl (ow_call en18 rfl (Parse_c H _ (by unfold S63; simp only [app_size, sz_nl]; omega) hlib) ?_)
      rintro _ _ ⟨I3, us3, x3, a3, k3, hI3, H, rfl, hk3, hx3⟩
      have d3 := hx3
      obtain ⟨d3v1, d3v2, d3v3, d3v8, rfl, d3_0, d3_1, d3_2, d3_3, d3_4, d3_5, d3_6, d3_7, d3_8, d3_9⟩ := po_iff.1 hx3
      obtain ⟨d3A1, d3c1, rfl, d3m1, d3M1, d3_1⟩ := RepS.open_ d3_1
      obtain ⟨d3A2, d3c2, rfl, d3m2, d3M2, d3_2⟩ := RepS.open_ d3_2
      obtain ⟨d3A3, d3c3, rfl, d3m3, d3M3, d3_3⟩ := RepS.open_ d3_3
      obtain ⟨d3A8, d3c8, rfl, d3m8, d3M8, d3_8⟩ := RepS.open_ d3_8
      have hps := parse_same (a := a1) (by rw [hlx1, he1]) hm hsm
      rw [hk2, hk3] at hps
      have hpx : x2 = x3 := hps.1
      have hpk : k2 = k3 := hps.2
      refine sr_op rfl rfl (ow_move (v := .tuple #[.agg #[.string x3.name, .slice d3A1 x3.kinds.length d3c1, .slice d3A2 x3.offices.length d3c2, .slice d3A3 x3.rules.length d3c3, .int .i64 x3.change.kind, .int .i64 x3.change.n, .int .i64 x3.change.no, .string x3.change.name, .slice d3A8 x3.change.l.length d3c8, .int .i64 x3.mode], .int .i64 a3, .int .i64 k3]) rfl ?_)
      refine sr_op rfl rfl (ow_extract (v := .agg #[.string x3.name, .slice d3A1 x3.kinds.length d3c1, .slice d3A2 x3.offices.length d3c2, .slice d3A3 x3.rules.length d3c3, .int .i64 x3.change.kind, .int .i64 x3.change.n, .int .i64 x3.change.no, .string x3.change.name, .slice d3A8 x3.change.l.length d3c8, .int .i64 x3.mode]) rfl rfl ?_)
      refine sr_op rfl rfl (ow_extract (v := .int .i64 a3) rfl rfl ?_)
      refine sr_op rfl rfl (ow_extract (v := .int .i64 k3) rfl rfl ?_)
      refine sr_op rfl rfl (ow_alloc ty28 H [.string ⟨#[]⟩, .slice none 0 0, .slice none 0 0, .slice none 0 0, .int .i64 0, .int .i64 0, .int .i64 0, .string ⟨#[]⟩, .slice none 0 0, .int .i64 0] rfl (fun g13 _ H => ?_))
      refine sr_op rfl rfl (ow_store ty28 H rfl (v := .agg #[.string x3.name, .slice d3A1 x3.kinds.length d3c1, .slice d3A2 x3.offices.length d3c2, .slice d3A3 x3.rules.length d3c3, .int .i64 x3.change.kind, .int .i64 x3.change.n, .int .i64 x3.change.no, .string x3.change.name, .slice d3A8 x3.change.l.length d3c8, .int .i64 x3.mode]) rfl [.string x3.name, .slice d3A1 x3.kinds.length d3c1, .slice d3A2 x3.offices.length d3c2, .slice d3A3 x3.rules.length d3c3, .int .i64 x3.change.kind, .int .i64 x3.change.n, .int .i64 x3.change.no, .string x3.change.name, .slice d3A8 x3.change.l.length d3c8, .int .i64 x3.mode] rfl rfl rfl 0 rfl rfl (fun _ H => ?_))
      refine sr_op rfl rfl (ow_assign (v := .int .i64 a3) rfl ?_)
      refine sr_op rfl rfl (ow_assign (v := .int .i64 k3) rfl ?_)
      refine sr_nil ?_
      refine st_seq ?_
      refine st_region ?_
      refine sr_op rfl rfl (ow_move (v := .int .i64 k2) rfl ?_)
      refine sr_op rfl rfl (ow_move (v := .int .i64 k3) rfl ?_)
      refine sr_op rfl rfl (ow_eql rfl rfl ?_)
      refine sr_op rfl rfl (ow_move (v := .bool (decide (k2 = k3))) rfl ?_)
      refine sr_want rfl (j := 3) (d := 89) rfl rfl rfl (v := true) (congrArg Value.bool (decide_eq_true hpk)) rfl (ow_load (v := .agg #[.string x2.name, .slice d2A1 x2.kinds.length d2c1, .slice d2A2 x2.offices.length d2c2, .slice d2A3 x2.rules.length d2c3, .int .i64 x2.change.kind, .int .i64 x2.change.n, .int .i64 x2.change.no, .string x2.change.name, .slice d2A8 x2.change.l.length d2c8, .int .i64 x2.mode]) ty28 H rfl 1 rfl rfl rfl rfl ?_)
      refine sr_want rfl (j := 3) (d := 89) rfl rfl rfl (v := true) (congrArg Value.bool (decide_eq_true hpk)) rfl (ow_load (v := .agg #[.string x3.name, .slice d3A1 x3.kinds.length d3c1, .slice d3A2 x3.offices.length d3c2, .slice d3A3 x3.rules.length d3c3, .int .i64 x3.change.kind, .int .i64 x3.change.n, .int .i64 x3.change.no, .string x3.change.name, .slice d3A8 x3.change.l.length d3c8, .int .i64 x3.mode]) ty28 H rfl 0 rfl rfl rfl rfl ?_)
      have d2 := (d2.mono hI3)
      refine sr_want rfl (j := 3) (d := 89) rfl rfl rfl (v := true) (congrArg Value.bool (decide_eq_true hpk)) rfl (ow_call en34 rfl (rSame_as H d2 d3 (b := true) ((sameP_iff _ _).2 hpx)) ?_)
      rintro _ _ ⟨rfl, H⟩
      refine sr_op rfl rfl (ow_pick (a := true) (v := .bool true) (congrArg Value.bool (decide_eq_true hpk)) rfl ?_)
      refine sr_op rfl rfl (ow_assign (v := .bool true) rfl ?_)
      refine sr_nil ?_
      refine st_ret hb (hR _ _ (.bool true) (res_run (vs := [.bool true]) Tryz.results6 ⟨_, _, rfl, rfl, rfl⟩) ?_)
      exact ⟨_, rfl, rfl, (Hp.back (H.drop 2) (((hI1.trans hJ2).trans hI2).trans hI3))⟩
end Go.Proofs.YtghmjnbpkobooaaGreatDoor

set_option linter.unusedVariables false
set_option linter.unusedSimpArgs false
set_option maxRecDepth 10000
set_option maxHeartbeats 4000000
namespace Go.Proofs.YtghmjnbpkobooaaGreatDoor
open Go Go.RowKit

open Go.ChangeShapes Go.WideShapes Go.ChangeAt
open Go.ChangeMaps (open_string shut_string)
theorem cells5 : Tryz.prog.cellsOf 5 = 1 := by kernel_rfl
set_option maxRecDepth 100000 in
theorem syntaxSpaces_lifted (os : Os) (started : os.Started) (H : Type) (enc : TypeId × Value → H) :
    ReturnsInHanded {} Tryz.checked os 6 .any (fun w args => (Rows.syntaxSpacesSpec.pre enc Tryz.prog Tryz.f6 [] false w args ∧ laidMetH Tryz.prog laidL w) ∧ sizedMet enc Tryz.prog Tryz.f6 (OpenSpec.ofChange Rows.syntaxSpacesSpec) false w args)
      (Rows.syntaxSpacesSpec.post enc Tryz.prog Tryz.f6 false true false false) := by
  refine returnsInHanded_of_change_and (C := Tryz.checked) (X := fun w _ => laidMetH Tryz.prog laidL w) (fun _ _ _ hh h => h.of_heap hh) own_ started (by kernel_rfl) Tryz.func6
    (ChangeSpec.witness_shaped (enc := enc) (C := Tryz.checked) (os := os) (X := fun w _ => laidMetH Tryz.prog laidL w) false (World.doorLaid Tryz.prog 67 os) #[.string ⟨#[]⟩, .slice none 0 0] 8 rfl (World.shaped_of_RefB (by kernel_rfl) (by kernel_rfl)) (by kernel_rfl) (by kernel_rfl) (by kernel_rfl) (laidL_met os _)) ?_
  intro W base args ds gs before hval0 hW _ hsz0 hL _
  have hsz : (DataW.weightsEach Tryz.prog (Tryz.f6.params.toList ++ Rows.syntaxSpacesSpec.plain.varTypes Tryz.prog) (ds ++ gs)).all (· ≤ reachBytes) = true := hsz0
  have hval : ∀ (j : Nat) t v, Tryz.f6.params[j]? = some t → args[j]? = some v → Value.okWide Tryz.prog W .any base t v := hval0
  have hW' := hW
  obtain ⟨p, q, hA0, hV, rfl, hfz, hnd⟩ := hW
  have hA : DataW.TrodAll enc Tryz.prog W 0 (fun _ => true) true Tryz.f6.params.toList args.toList ds p := hA0
  rw [Tryz.params6] at hA hval hsz
  obtain ⟨v0, vs0, d0, ds0, p0, q0, hargs, rfl, rfl, h0, r0⟩ := trodAll_cons hA
  obtain ⟨v1, vs1, d1, ds1, p1, q1, rfl, rfl, rfl, h1, r1⟩ := trodAll_cons r0
  obtain ⟨rfl, rfl, rfl⟩ := trodAll_nil r1
  obtain rfl : args = #[v0, v1] := by cases args; simp_all
  obtain ⟨rfl, rfl⟩ := trodVars_none hV
  obtain ⟨src, rfl, rfl, rfl, y0⟩ := open_string Tryz.underlying9 (hval 0 9 v0 rfl rfl) h0
  have w0 : src.size ≤ 140737488351232 := by
    have z := sized_string hsz (j := 0) (t := 9) rfl rfl
    rw [Array.length_toList] at z
    exact z
  have k1 := h1
  have lt1 : ∀ x ∈ p1, x.block < W.heap.size := by obtain ⟨m, hm⟩ := k1; exact DataW.trod_lt m _ _ _ hm
  obtain ⟨fu1, hf1⟩ := h1
  obtain ⟨a1, len1, cap1, rfl⟩ := okWide_slice Tryz.underlying66 (hval 1 66 v1 rfl rfl)
  obtain ⟨gaps, u1, e1, hr1⟩ := rd_slice (en := encU) Tryz.underlying66 cells5 (by decide) (fun _ _ _ _ h_ => by obtain ⟨s_, rfl, k_⟩ := rd_u8 Tryz.underlying5 h_; exact ⟨s_, u_iff.2 ⟨rfl, k_⟩⟩) hf1
  cases e1
  have hlib := lib_at hL
  refine Calls.mono (SyntaxSpaces_c (hp_start W) src (by omega) hr1 hlib) fun e W' he => ?_
  obtain ⟨_, rfl, rfl, hb_⟩ := he
  obtain ⟨W2, bel, hal⟩ := below_of hb_
  exact ⟨_, rfl, ChangeSpec.post_alike ⟨_, _, _, [], _, [], hW', trodAll_mk1 (shut_bool Tryz.underlying4 _), (trodAll_cons_mk (shut_string Tryz.underlying9 y0) (trodAll_cons_mk (Below.trod laidOut_ (by kernel_rfl) (of_decide_eq_true (by kernel_rfl)) k1 bel lt1) trodAll_mk0)), rfl, bel.frame _, fun h => by cases h⟩ hal⟩
theorem syntaxSpaces_r1 : Tryz.pinned.checked.prog.funcNamed Rows.syntaxSpacesRow.func = some 6 := by kernel_rfl
theorem syntaxSpaces_r2 : joinedFacts Tryz.pinned.checked.prog 6 Tryz.f6 Rows.syntaxSpacesSpec Rows.syntaxSpacesRow = true := by kernel_rfl
theorem syntaxSpaces_r3 : Tryz.f6.isInstance Tryz.pinned.checked.prog Rows.syntaxSpacesRow.origin Rows.syntaxSpacesRow.targs := of_decide_eq_true (by kernel_rfl)
theorem syntaxSpaces_r4 : Tryz.f6.isWrapper Tryz.pinned.checked.prog Rows.syntaxSpacesRow.wrapper Rows.syntaxSpacesRow.mainSum := by unfold Func.isWrapper; first | (rw [if_pos (by decide +kernel)]; kernel_rfl) | (rw [if_neg (by decide +kernel)]; exact ⟨rfl, rfl⟩)
theorem syntaxSpaces_row : Rows.SyntaxSpacesSaid :=
  OpenClaim.holds_of_wide 6 Tryz.f6 rfl rfl rfl rfl rfl rfl rfl ⟨rfl, rfl, rfl, rfl, rfl⟩ rfl rfl rfl rfl rfl syntaxSpaces_r1 Tryz.func6 syntaxSpaces_r2 syntaxSpaces_r3 syntaxSpaces_r4
    (fun os started H enc _ => syntaxSpaces_lifted os started H enc)
theorem syntaxSpaces_h1 : Rows.syntaxSpacesRow.wfByText (OpenSpec.ofChange Rows.syntaxSpacesSpec) = true := by kernel_rfl
theorem syntaxSpaces_h2 : Tryz.pinned.checked.prog.mainIs = some (((true, "6dfbc9ab955ebfe709820a3f39b9f3e8b45f2ec5d23a756b48fd12bbbea2d69f") : Bool × String).1, ((true, "6dfbc9ab955ebfe709820a3f39b9f3e8b45f2ec5d23a756b48fd12bbbea2d69f") : Bool × String).2.toList) := by kernel_rfl
theorem syntaxSpaces_h3 : true = Tryz.pinned.checked.prog.looks [] := by kernel_rfl
theorem syntaxSpaces_h4 : ([9, 66].all fun u => !Tryz.prog.wantsStandIn u) = true := by kernel_rfl
theorem syntaxSpaces_h5 : false = Rows.syntaxSpacesRow.goesBy Tryz.pinned.checked.prog := by kernel_rfl
theorem syntaxSpaces_holds : Rows.SyntaxSpacesCardSaid :=
  Claim7.holds_tied_plain_at .later [] [.data, .data, .data, .sentinel, .sentinel] true (true, "6dfbc9ab955ebfe709820a3f39b9f3e8b45f2ec5d23a756b48fd12bbbea2d69f") true
    syntaxSpaces_row (fun _ h => by cases h) syntaxSpaces_h1 (fun _ h => by cases h) syntaxSpaces_row_tie rfl ⟨rfl, rfl⟩ syntaxSpaces_h2 rfl
    (fun f fn hf hfn => by
      obtain rfl : f = 6 := Option.some.inj (syntaxSpaces_r1.symm.trans hf) |>.symm
      obtain rfl : fn = Tryz.f6 := (Option.some.inj (Tryz.func6.symm.trans hfn)).symm
      exact ⟨syntaxSpaces_h3, fun j t ht => by
        rw [Tryz.params6] at ht
        have hm : t ∈ [9, 66] := by simpa using Array.mem_of_getElem? ht
        exact (show Tryz.prog.wantsStandIn t = false by simpa using List.all_eq_true.1 syntaxSpaces_h4 t hm)⟩)
    syntaxSpaces_h5
#print axioms syntaxSpaces_holds
end Go.Proofs.YtghmjnbpkobooaaGreatDoor
