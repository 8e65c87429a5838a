/-
  The statement SyntaxChange of the law package of syntax, as the given card has it, is proved: for every input that the row lets in, the law returns true and each argument reads behind the call as it read before; the listed variables (tables and errors of the library) begin as the program's text lays them. No further condition.
-/
import Derived.Test.YtghmjnbpkobooaaGreatDoorMH
import Derived.Test.YtghmjnbpkobooaaGreatDoorZ2
import Derived.Test.YtghmjnbpkobooaaGreatDoorY4
import Derived.Test.YtghmjnbpkobooaaGreatDoorBB
import Derived.Test.YtghmjnbpkobooaaGreatDoorMR
set_option linter.unusedVariables false
set_option linter.unusedSimpArgs false
set_option maxRecDepth 10000
set_option maxHeartbeats 4000000
namespace Go.Proofs.YtghmjnbpkobooaaGreatDoor
open Go Go.RowKit

theorem Lex_n {B I L w} (H : Hp B I w L) (src : ByteArray) (hS : S63 src) (hlib : LibAt I) : Calls Tryz.prog 35 #[.string src] w (Rt fun r w' => ∃ l a e I' v, lexE src = (l, a, e) ∧ Le I I' ∧ Hp B I' w' L ∧ r = .tuple #[v, .int .i64 a, .int .i64 e] ∧ RepS encTk I' 4 l v) := by
  refine Calls.mono (Lex_c H src hS hlib) fun e w' he => ?_
  obtain ⟨_, rfl, I', v, hI, H', rfl, hl⟩ := he
  exact ⟨_, rfl, _, _, _, I', v, rfl, hI, H', rfl, hl⟩
theorem Text_v {B I L w} (H : Hp B I w L) {l : List Tk} {v : Value} (hl : RepS encTk I 4 l v) (hn : l.length ≤ 100000) (hlib : LibAt I) (hv : l.all validB = true) : Calls Tryz.prog 36 #[v] w (Rt fun r w' => r = .tuple #[.string (joinW l), .int .i64 0] ∧ Hp B I w' L) := by
  have h := Text_c H hl hn (fun h => join_bound (by omega) h) hlib (rep_toks hl)
  rw [text_yes hv] at h
  exact h
theorem law_start {src : ByteArray} {l : List Tk} {a e a2 k : Int} {x : Po} (h1 : lexE src = (l, a, e)) (h2 : parseE src = (x, a2, k)) (he : e = 0) (hk : k = 0) : l.all validB = true ∧ policyT fuelN l = .ok x [] ∧ l.length ≤ src.size ∧ costT l ≤ 2 * src.size := by
  subst he
  subst hk
  have hg := lex_good (src := src) (by rw [h1])
  have hp := parse_good (src := src) (by rw [h2])
  rw [h1] at hg hp
  rw [h2] at hp
  exact ⟨hg.2.1, hp.2.1, hg.2.2.1, hg.2.2.2.2⟩
theorem take_valid {l : List Tk} (i : Nat) (h : l.all validB = true) : (l.take i).all validB = true := by
  rw [← List.take_append_drop i l, List.all_append, Bool.and_eq_true] at h
  exact h.1
theorem u64_nat (n : Int) : ∃ q : Nat, IntKind.u64.wrap n = (q : Int) := by
  refine ⟨(n % 18446744073709551616).toNat, ?_⟩
  have h : IntKind.u64.wrap n = n % 18446744073709551616 := rfl
  rw [h]
  omega
theorem u64_len {q : Nat} (h : q ≤ 1000000) : IntKind.u64.wrap (q : Int) = (q : Int) := by
  have h1 : IntKind.u64.wrap (q : Int) = (q : Int) % 18446744073709551616 := rfl
  rw [h1]
  omega
theorem rem_nat (q : Nat) {l : Nat} (h : 0 < l) : ∃ i : Nat, Int.tmod (q : Int) (l : Int) = (i : Int) ∧ i < l := by
  refine ⟨q % l, ?_, Nat.mod_lt _ h⟩
  rw [Int.tmod_eq_emod_of_nonneg (by omega)]
  rfl
end Go.Proofs.YtghmjnbpkobooaaGreatDoor

set_option linter.unusedVariables false
set_option linter.unusedSimpArgs false
namespace Go.Proofs.YtghmjnbpkobooaaGreatDoor
open Go Go.RowKit
theorem joinL_app : ∀ (a b : List (List UInt8)), a ≠ [] → b ≠ [] → joinL (a ++ b) = joinL a ++ 32 :: joinL b
  | [], b, h, _ => absurd rfl h
  | [x], [], _, h => absurd rfl h
  | [x], y :: b, _, _ => rfl
  | x :: y :: r, b, _, hb => by
    have := joinL_app (y :: r) b (by simp) hb
    show x ++ 32 :: joinL (y :: (r ++ b)) = (x ++ 32 :: joinL (y :: r)) ++ 32 :: joinL b
    rw [List.cons_append] at this
    rw [this]
    simp
theorem pref_app {s p : ByteArray} {r : List UInt8} (h : s.data.toList = p.data.toList ++ r) : prefB s p = true := by
  have hz : p.size = p.data.toList.length := size_data p
  unfold prefB
  rw [Bool.and_eq_true]
  refine ⟨decide_eq_true ?_, decide_eq_true ?_⟩
  · have := congrArg List.length h
    rw [List.length_append, ← size_data, ← size_data] at this
    omega
  · apply bytes_ext
    rw [cut_list, h, List.drop_zero, Nat.sub_zero, hz, List.take_left]
theorem joinW_list (l : List Tk) : (joinW l).data.toList = joinL (wordsL l) := join_words l
theorem words_app (a b : List Tk) : wordsL (a ++ b) = wordsL a ++ wordsL b := by simp [wordsL]
theorem words_ne {l : List Tk} (h : l ≠ []) : wordsL l ≠ [] := by
  intro e
  apply h
  have := congrArg List.length e
  rw [wordsL, List.length_map] at this
  exact List.length_eq_zero_iff.1 this
theorem join_pref (a b : List Tk) : prefB (joinW (a ++ b)) (joinW a) = true := by
  by_cases ha : a = []
  · subst ha
    exact pref_app (p := joinW []) (r := (joinW ([] ++ b)).data.toList) rfl
  · by_cases hb : b = []
    · subst hb
      rw [List.append_nil]
      exact pref_app (r := []) (List.append_nil _).symm
    · refine pref_app (r := 32 :: joinL (wordsL b)) ?_
      rw [joinW_list, joinW_list, words_app, joinL_app _ _ (words_ne ha) (words_ne hb)]
theorem pref_take (l : List Tk) (i : Nat) : prefB (joinW l) (joinW (l.take i)) = true := by
  have := join_pref (l.take i) (l.drop i)
  rwa [List.take_append_drop] at this
theorem set_valid {l : List Tk} {t : Tk} (i : Nat) (h : l.all validB = true) (ht : validB t = true) : (l.set i t).all validB = true := by
  rw [List.all_eq_true]
  intro x hx
  rcases List.mem_or_eq_of_mem_set hx with h1 | h1
  · exact List.all_eq_true.1 h x h1
  · rw [h1]
    exact ht
theorem set_take {l : List Tk} {t : Tk} (i : Nat) : (l.set i t).take i = l.take i := by
  apply List.ext_getElem?
  intro k
  rw [List.getElem?_take, List.getElem?_take]
  by_cases hk : k < i
  · rw [if_pos hk, if_pos hk, List.getElem?_set_ne (by omega)]
  · rw [if_neg hk, if_neg hk]
end Go.Proofs.YtghmjnbpkobooaaGreatDoor

set_option linter.unusedVariables false
set_option linter.unusedSimpArgs false
namespace Go.Proofs.YtghmjnbpkobooaaGreatDoor
open Go Go.RowKit
theorem wr_get {cs us : List Value} {off : Nat} (h : off + us.length ≤ cs.length) (k : Nat) : (wr cs off us)[k]? = if off ≤ k ∧ k < off + us.length then us[k - off]? else cs[k]? := by
  unfold wr
  have hl : (cs.take off).length = off := by rw [List.length_take]; omega
  by_cases h1 : k < off
  · rw [if_neg (by omega), List.getElem?_append_left (by omega), List.getElem?_take, if_pos h1]
  · rw [List.getElem?_append_right (by omega), hl]
    by_cases h2 : k < off + us.length
    · rw [if_pos (by omega), List.getElem?_append_left (by omega)]
    · rw [if_neg (by omega), List.getElem?_append_right (by omega), List.getElem?_drop]
      congr 1
      omega
theorem Acc.open2 {α : Type} {I : Im} {sz : Nat} {v : Value} {cs : List Value} {enc : α → List Dat} {l : List α} (ha : Acc I sz v cs (l.map enc)) (h : 0 < l.length) : ∃ g c, v = .slice (some ⟨g, 0, none⟩) l.length c ∧ l.length ≤ c ∧ c ≤ 9223372036854775807 := by
  rcases ha with ⟨_, h0⟩ | ⟨g, cap, hv, h1, h2, _⟩
  · rw [List.map_eq_nil_iff] at h0
    rw [h0] at h
    cases h
  · rw [List.length_map] at hv h1
    exact ⟨g, cap, hv, h1, h2⟩
theorem Acc.set {I : Im} {sz : Nat} {v : Value} {cs us : List Value} {xs : List (List Dat)} {i : Nat} {q : List Dat} (ha : Acc I sz v cs xs) (hi : i < xs.length) (hq : RepL I q us) (hu : us.length = sz) : Acc I sz v (wr cs (i * sz) us) (xs.set i q) ∧ i * sz + sz ≤ cs.length := by
  rcases ha with ⟨_, h0⟩ | ⟨g, cap, hv, h1, h2, h3, h4⟩
  · rw [h0] at hi
    cases hi
  · have h5 := Nat.mul_le_mul_right sz (show i + 1 ≤ cap by omega)
    rw [Nat.add_mul, Nat.one_mul] at h5
    have h6 : i * sz + us.length ≤ cs.length := by omega
    refine ⟨.inr ⟨g, cap, by rw [List.length_set]; exact hv, by rw [List.length_set]; exact h1, h2, ?_, fun j x hx => ?_⟩, by omega⟩
    · unfold wr
      rw [List.length_append, List.length_append, List.length_take, List.length_drop]
      omega
    · by_cases hj : j = i
      · subst hj
        rw [List.getElem?_set_self hi] at hx
        injection hx with hx
        subst hx
        have e : ((wr cs (j * sz) us).drop (j * sz)).take sz = us := by
          apply List.ext_getElem?
          intro k
          rw [List.getElem?_take]
          by_cases hk : k < sz
          · rw [if_pos hk, List.getElem?_drop, wr_get h6, if_pos (by omega), Nat.add_sub_cancel_left]
          · rw [if_neg hk, List.getElem?_eq_none (by omega)]
        rw [e]
        exact hq
      · rw [List.getElem?_set_ne (by omega)] at hx
        have e : ((wr cs (i * sz) us).drop (j * sz)).take sz = (cs.drop (j * sz)).take sz := by
          apply List.ext_getElem?
          intro k
          rw [List.getElem?_take, List.getElem?_take]
          by_cases hk : k < sz
          · rw [if_pos hk, if_pos hk, List.getElem?_drop, List.getElem?_drop, wr_get h6, if_neg]
            intro ⟨h7, h8⟩
            rcases Nat.lt_or_gt_of_ne hj with h9 | h9
            · have := Nat.mul_le_mul_right sz (show j + 1 ≤ i by omega)
              rw [Nat.add_mul, Nat.one_mul] at this
              omega
            · have := Nat.mul_le_mul_right sz (show i + 1 ≤ j by omega)
              rw [Nat.add_mul, Nat.one_mul] at this
              omega
          · rw [if_neg hk, if_neg hk]
        rw [e]
        exact h4 j x hx
section
variable {P : Program} {B : World} {I : Im} {L : List (Nat × Obj)} {n : Nat} {m : Sl} {w : World} {X : Sl → World → Prop} {Q : List PanicEntry → World → Prop}
variable {t ty : TypeId} {pos : String} {aft : Array Edge} {gd : Option (Nat × Bool)} {x y : Operand}
theorem ow_storeAcc {sz : Nat} {ag : Bool} {z : Value} {by_ : Nat} (ht : Ty P t sz ag z by_) {g n' c : Nat} {e : TypeId} {cs : List Value} {xs : List (List Dat)} (H : Hp B I w (rowL (.slice (some ⟨g, 0, none⟩) n' c) cs e ++ L)) (ha : Acc I sz (.slice (some ⟨g, 0, none⟩) n' c) cs xs) {i : Nat} (hi : i < xs.length)
    (hx : ev n m x = .pointer (some ⟨g, i * sz, none⟩)) {u : Value} (hy : ev n m y = u) (us : List Value) (hu : u.cells = us.toArray) (hsz : Nat.beq us.length sz = true) (h1 : us.all one = true) {q : List Dat} (hq : RepL I q us)
    (h : ∀ w' cs', Hp B I w' (rowL (.slice (some ⟨g, 0, none⟩) n' c) cs' e ++ L) → Acc I sz (.slice (some ⟨g, 0, none⟩) n' c) cs' (xs.set i q) → X m w') : Ow P n ⟨none, .store t x y, ty, pos, aft, gd⟩ X Q m w :=
  have h2 := ha.set hi hq (Nat.eq_of_beq_eq_true hsz)
  ow_store ht H hx hy us hu hsz h1 0 rfl (Nat.ble_eq_true_of_le h2.2) (fun w' H' => h w' _ H' h2.1)
end
end Go.Proofs.YtghmjnbpkobooaaGreatDoor

set_option linter.unusedVariables false
set_option linter.unusedSimpArgs false
set_option maxRecDepth 10000
set_option maxHeartbeats 4000000
namespace Go.Proofs.YtghmjnbpkobooaaGreatDoor
open Go Go.RowKit

theorem RepS.cutN {α : Type} {enc : α → List Dat} {I : Im} {sz : Nat} {l : List α} {A : Option Addr} {n cp : Nat} (h : RepS enc I sz l (.slice A n cp)) (hn : l.length = n) (a c : Nat) (h1 : a ≤ c) (h2 : c ≤ n) : RepS enc I sz ((l.take c).drop a) (.slice (if cp = a then A else A.map (·.add (a * sz))) (c - a) (cp - a)) := by
  subst hn
  exact RepS.cut h a c h1 h2
theorem SyntaxChange_c {B I L w} (H : Hp B I w L) (src : ByteArray) (hS : src.size ≤ 140737488355328) (n : Int) (hn : I64 n) {other : Tk} {us : List Value} (hot : RepL I (encTk other) us) (hlib : LibAt I) : Calls Tryz.prog 7 #[.string src, .int .i64 n, .agg us.toArray] w (Rt fun r w' => r = .bool true ∧ Hp B I w' L) := by
  have d0 := hot
  obtain ⟨rfl, d0_0, d0_1, d0_2, d0_3⟩ := tk_iff.1 hot
  refine calls_st (n := 129) Tryz.func7 rfl rfl rfl ?_
  intro G bF cs hb hfn hR hP
  simp only [ini]
  refine st_seq ?_
  refine st_region ?_
  refine sr_op rfl rfl (ow_box H (v := .agg #[.int .i64 other.kind, .string other.text, .int .i64 other.n, .int .i64 other.at_]) rfl [.int .i64 other.kind, .string other.text, .int .i64 other.n, .int .i64 other.at_] rfl (fun g1 _ H => ?_))
  refine sr_op rfl rfl (ow_assign (v := .bool false) rfl ?_)
  refine sr_nil ?_
  refine st_seq ?_
  refine st_seq ?_
  refine st_region ?_
  refine sr_op rfl rfl (ow_call en31 rfl (sane19_c H hlib) ?_)
  rintro _ _ ⟨rfl, H⟩
  refine sr_op rfl rfl (ow_not rfl ?_)
  refine sr_nil ?_
  refine st_no rfl ?_
  refine st_skip ?_
  refine st_seq ?_
  refine st_region ?_
  refine sr_op rfl rfl (ow_move (v := .string src) rfl ?_)
  refine sr_op rfl rfl (ow_call en35 rfl (Lex_n H src (by unfold S63; omega) hlib) ?_)
  rintro _ _ ⟨l1, a1, e1, I1, v1, hlx1, hI1, H, rfl, hl1⟩
  obtain ⟨s1A, s1c, rfl, s1m, s1M, s1⟩ := RepS.open_ hl1
  refine sr_op rfl rfl (ow_move (v := .tuple #[.slice s1A l1.length s1c, .int .i64 a1, .int .i64 e1]) rfl ?_)
  refine sr_op rfl rfl (ow_extract (v := .slice s1A l1.length s1c) rfl rfl ?_)
  refine sr_op rfl rfl (ow_extract (v := .int .i64 a1) rfl rfl ?_)
  refine sr_op rfl rfl (ow_extract (v := .int .i64 e1) rfl rfl ?_)
  refine sr_op rfl rfl (ow_assign (v := .slice s1A l1.length s1c) rfl ?_)
  refine sr_op rfl rfl (ow_assign (v := .int .i64 a1) rfl ?_)
  refine sr_op rfl rfl (ow_assign (v := .int .i64 e1) rfl ?_)
  refine sr_nil ?_
  refine st_seq ?_
  refine st_region ?_
  refine sr_op rfl rfl (ow_move (v := .string src) rfl ?_)
  have hlib := (hlib.mono hI1)
  refine sr_op rfl rfl (ow_call en18 rfl (Parse_c H src (by unfold S63; omega) hlib) ?_)
  rintro _ _ ⟨I2, us2, x2, a2, k2, hI2, H, rfl, hk2, hx2⟩
  have d2 := hx2
  obtain ⟨d2v1, d2v2, d2v3, d2v8, rfl, d2_0, d2_1, d2_2, d2_3, d2_4, d2_5, d2_6, d2_7, d2_8, d2_9⟩ := po_iff.1 hx2
  obtain ⟨d2A1, d2c1, rfl, d2m1, d2M1, d2_1⟩ := RepS.open_ d2_1
  obtain ⟨d2A2, d2c2, rfl, d2m2, d2M2, d2_2⟩ := RepS.open_ d2_2
  obtain ⟨d2A3, d2c3, rfl, d2m3, d2M3, d2_3⟩ := RepS.open_ d2_3
  obtain ⟨d2A8, d2c8, rfl, d2m8, d2M8, d2_8⟩ := RepS.open_ d2_8
  refine sr_op rfl rfl (ow_move (v := .tuple #[.agg #[.string x2.name, .slice d2A1 x2.kinds.length d2c1, .slice d2A2 x2.offices.length d2c2, .slice d2A3 x2.rules.length d2c3, .int .i64 x2.change.kind, .int .i64 x2.change.n, .int .i64 x2.change.no, .string x2.change.name, .slice d2A8 x2.change.l.length d2c8, .int .i64 x2.mode], .int .i64 a2, .int .i64 k2]) rfl ?_)
  refine sr_op rfl rfl (ow_extract (v := .agg #[.string x2.name, .slice d2A1 x2.kinds.length d2c1, .slice d2A2 x2.offices.length d2c2, .slice d2A3 x2.rules.length d2c3, .int .i64 x2.change.kind, .int .i64 x2.change.n, .int .i64 x2.change.no, .string x2.change.name, .slice d2A8 x2.change.l.length d2c8, .int .i64 x2.mode]) rfl rfl ?_)
  refine sr_op rfl rfl (ow_extract (v := .int .i64 a2) rfl rfl ?_)
  refine sr_op rfl rfl (ow_extract (v := .int .i64 k2) rfl rfl ?_)
  refine sr_op rfl rfl (ow_alloc ty28 H [.string ⟨#[]⟩, .slice none 0 0, .slice none 0 0, .slice none 0 0, .int .i64 0, .int .i64 0, .int .i64 0, .string ⟨#[]⟩, .slice none 0 0, .int .i64 0] rfl (fun g2 _ H => ?_))
  refine sr_op rfl rfl (ow_store ty28 H rfl (v := .agg #[.string x2.name, .slice d2A1 x2.kinds.length d2c1, .slice d2A2 x2.offices.length d2c2, .slice d2A3 x2.rules.length d2c3, .int .i64 x2.change.kind, .int .i64 x2.change.n, .int .i64 x2.change.no, .string x2.change.name, .slice d2A8 x2.change.l.length d2c8, .int .i64 x2.mode]) rfl [.string x2.name, .slice d2A1 x2.kinds.length d2c1, .slice d2A2 x2.offices.length d2c2, .slice d2A3 x2.rules.length d2c3, .int .i64 x2.change.kind, .int .i64 x2.change.n, .int .i64 x2.change.no, .string x2.change.name, .slice d2A8 x2.change.l.length d2c8, .int .i64 x2.mode] rfl rfl rfl 0 rfl rfl (fun _ H => ?_))
  refine sr_op rfl rfl (ow_assign (v := .int .i64 a2) rfl ?_)
  refine sr_op rfl rfl (ow_assign (v := .int .i64 k2) rfl ?_)
  refine sr_nil ?_
  refine st_seq ?_
  refine st_seq ?_
  refine st_region ?_
  refine sr_op rfl rfl (ow_move (v := .string src) rfl ?_)
  refine sr_op rfl rfl (ow_lenT un9 rfl rfl ?_)
  refine sr_op rfl rfl (ow_gtr rfl rfl ?_)
  refine sr_op rfl rfl (ow_move (v := .bool (decide (2000 < (src.size : Int)))) rfl ?_)
  refine sr_cut 3 (fun m_ w_ => ∃ (r_ : Sl) (v_ : Bool), m_ = (40, .bool v_) :: (1, .int .i64 n) :: (5, .pointer (some ⟨g1, 0, none⟩)) :: (6, .bool false) :: (7, .slice s1A l1.length s1c) :: (12, .int .i64 k2) :: r_ ∧ Hp B I2 w_ ((g2, Ob [.string x2.name, .slice d2A1 x2.kinds.length d2c1, .slice d2A2 x2.offices.length d2c2, .slice d2A3 x2.rules.length d2c3, .int .i64 x2.change.kind, .int .i64 x2.change.n, .int .i64 x2.change.no, .string x2.change.name, .slice d2A8 x2.change.l.length d2c8, .int .i64 x2.mode] 28) :: (g1, Ob [.int .i64 other.kind, .string other.text, .int .i64 other.n, .int .i64 other.at_] 71) :: L) ∧ v_ = ((decide (2000 < (src.size : Int))) || (!decide (e1 = 0)))) (fun again => ?_) ?_
  · rcases hg : decide (2000 < (src.size : Int)) with _ | _
    · refine sr_want rfl (j := 3) (d := 37) rfl rfl rfl (v := false) rfl rfl (ow_move (v := .int .i64 e1) rfl ?_)
      refine sr_want rfl (j := 3) (d := 37) rfl rfl rfl (v := false) rfl rfl (ow_neq rfl rfl ?_)
      refine sr_op rfl rfl (ow_pick (v := .bool (!decide (e1 = 0))) rfl rfl ?_)
      exact sr_live [40, 1, 5, 6, 7, 12] (again _ _ ⟨_, _, rfl, H, by rw [hg] <;> rfl⟩)
    · refine sr_pass rfl (j := 3) (d := 37) rfl rfl rfl (u := true) (v := false) rfl rfl ?_
      refine sr_pass rfl (j := 3) (d := 37) rfl rfl rfl (u := true) (v := false) rfl rfl ?_
      refine sr_op rfl rfl (ow_pick (v := .bool true) rfl rfl ?_)
      exact sr_live [40, 1, 5, 6, 7, 12] (again _ _ ⟨_, _, rfl, H, by rw [hg] <;> rfl⟩)
  rintro _ _ ⟨r, _, rfl, H, rfl⟩
  refine sr_op rfl rfl (ow_move (v := .bool ((decide (2000 < (src.size : Int))) || (!decide (e1 = 0)))) rfl ?_)
  refine sr_cut 3 (fun m_ w_ => ∃ (r_ : Sl) (v_ : Bool), m_ = (44, .bool v_) :: (1, .int .i64 n) :: (5, .pointer (some ⟨g1, 0, none⟩)) :: (6, .bool false) :: (7, .slice s1A l1.length s1c) :: r_ ∧ Hp B I2 w_ ((g2, Ob [.string x2.name, .slice d2A1 x2.kinds.length d2c1, .slice d2A2 x2.offices.length d2c2, .slice d2A3 x2.rules.length d2c3, .int .i64 x2.change.kind, .int .i64 x2.change.n, .int .i64 x2.change.no, .string x2.change.name, .slice d2A8 x2.change.l.length d2c8, .int .i64 x2.mode] 28) :: (g1, Ob [.int .i64 other.kind, .string other.text, .int .i64 other.n, .int .i64 other.at_] 71) :: L) ∧ v_ = (((decide (2000 < (src.size : Int))) || (!decide (e1 = 0))) || (!decide (k2 = 0)))) (fun again => ?_) ?_
  · rcases hg : (decide (2000 < (src.size : Int))) || (!decide (e1 = 0)) with _ | _
    · refine sr_want rfl (j := 7) (d := 41) rfl rfl rfl (v := false) rfl rfl (ow_move (v := .int .i64 k2) rfl ?_)
      refine sr_want rfl (j := 7) (d := 41) rfl rfl rfl (v := false) rfl rfl (ow_neq rfl rfl ?_)
      refine sr_op rfl rfl (ow_pick (v := .bool (!decide (k2 = 0))) rfl rfl ?_)
      exact sr_live [44, 1, 5, 6, 7] (again _ _ ⟨_, _, rfl, H, by rw [hg] <;> rfl⟩)
    · refine sr_pass rfl (j := 7) (d := 41) rfl rfl rfl (u := true) (v := false) rfl rfl ?_
      refine sr_pass rfl (j := 7) (d := 41) rfl rfl rfl (u := true) (v := false) rfl rfl ?_
      refine sr_op rfl rfl (ow_pick (v := .bool true) rfl rfl ?_)
      exact sr_live [44, 1, 5, 6, 7] (again _ _ ⟨_, _, rfl, H, by rw [hg] <;> rfl⟩)
  rintro _ _ ⟨r, _, rfl, H, rfl⟩
  refine sr_op rfl rfl (ow_move (v := .bool (((decide (2000 < (src.size : Int))) || (!decide (e1 = 0))) || (!decide (k2 = 0)))) rfl ?_)
  refine sr_cut 4 (fun m_ w_ => ∃ (r_ : Sl) (v_ : Bool), m_ = (49, .bool v_) :: (1, .int .i64 n) :: (5, .pointer (some ⟨g1, 0, none⟩)) :: (6, .bool false) :: (7, .slice s1A l1.length s1c) :: r_ ∧ Hp B I2 w_ ((g2, Ob [.string x2.name, .slice d2A1 x2.kinds.length d2c1, .slice d2A2 x2.offices.length d2c2, .slice d2A3 x2.rules.length d2c3, .int .i64 x2.change.kind, .int .i64 x2.change.n, .int .i64 x2.change.no, .string x2.change.name, .slice d2A8 x2.change.l.length d2c8, .int .i64 x2.mode] 28) :: (g1, Ob [.int .i64 other.kind, .string other.text, .int .i64 other.n, .int .i64 other.at_] 71) :: L) ∧ v_ = ((((decide (2000 < (src.size : Int))) || (!decide (e1 = 0))) || (!decide (k2 = 0))) || (decide ((l1.length : Int) = 0)))) (fun again => ?_) ?_
  · rcases hg : ((decide (2000 < (src.size : Int))) || (!decide (e1 = 0))) || (!decide (k2 = 0)) with _ | _
    · refine sr_want rfl (j := 11) (d := 45) rfl rfl rfl (v := false) rfl rfl (ow_move (v := .slice s1A l1.length s1c) rfl ?_)
      refine sr_want rfl (j := 11) (d := 45) rfl rfl rfl (v := false) rfl rfl (ow_lenS sl67 rfl rfl ?_)
      refine sr_want rfl (j := 11) (d := 45) rfl rfl rfl (v := false) rfl rfl (ow_eql rfl rfl ?_)
      refine sr_op rfl rfl (ow_pick (v := .bool (decide ((l1.length : Int) = 0))) rfl rfl ?_)
      exact sr_live [49, 1, 5, 6, 7] (again _ _ ⟨_, _, rfl, H, by rw [hg] <;> rfl⟩)
    · refine sr_pass rfl (j := 11) (d := 45) rfl rfl rfl (u := true) (v := false) rfl rfl ?_
      refine sr_pass rfl (j := 11) (d := 45) rfl rfl rfl (u := true) (v := false) rfl rfl ?_
      refine sr_pass rfl (j := 11) (d := 45) rfl rfl rfl (u := true) (v := false) rfl rfl ?_
      refine sr_op rfl rfl (ow_pick (v := .bool true) rfl rfl ?_)
      exact sr_live [49, 1, 5, 6, 7] (again _ _ ⟨_, _, rfl, H, by rw [hg] <;> rfl⟩)
  rintro _ _ ⟨r, _, rfl, H, rfl⟩
  refine sr_op rfl rfl (ow_move (v := .bool ((((decide (2000 < (src.size : Int))) || (!decide (e1 = 0))) || (!decide (k2 = 0))) || (decide ((l1.length : Int) = 0)))) rfl ?_)
  refine sr_cut 4 (fun m_ w_ => ∃ (r_ : Sl) (v_ : Bool), m_ = (54, .bool v_) :: (1, .int .i64 n) :: (5, .pointer (some ⟨g1, 0, none⟩)) :: (6, .bool false) :: (7, .slice s1A l1.length s1c) :: r_ ∧ Hp B I2 w_ ((g2, Ob [.string x2.name, .slice d2A1 x2.kinds.length d2c1, .slice d2A2 x2.offices.length d2c2, .slice d2A3 x2.rules.length d2c3, .int .i64 x2.change.kind, .int .i64 x2.change.n, .int .i64 x2.change.no, .string x2.change.name, .slice d2A8 x2.change.l.length d2c8, .int .i64 x2.mode] 28) :: (g1, Ob [.int .i64 other.kind, .string other.text, .int .i64 other.n, .int .i64 other.at_] 71) :: L) ∧ v_ = (((((decide (2000 < (src.size : Int))) || (!decide (e1 = 0))) || (!decide (k2 = 0))) || (decide ((l1.length : Int) = 0))) || (decide (1000 < (l1.length : Int))))) (fun again => ?_) ?_
  · rcases hg : (((decide (2000 < (src.size : Int))) || (!decide (e1 = 0))) || (!decide (k2 = 0))) || (decide ((l1.length : Int) = 0)) with _ | _
    · refine sr_want rfl (j := 16) (d := 50) rfl rfl rfl (v := false) rfl rfl (ow_move (v := .slice s1A l1.length s1c) rfl ?_)
      refine sr_want rfl (j := 16) (d := 50) rfl rfl rfl (v := false) rfl rfl (ow_lenS sl67 rfl rfl ?_)
      refine sr_want rfl (j := 16) (d := 50) rfl rfl rfl (v := false) rfl rfl (ow_gtr rfl rfl ?_)
      refine sr_op rfl rfl (ow_pick (v := .bool (decide (1000 < (l1.length : Int)))) rfl rfl ?_)
      exact sr_live [54, 1, 5, 6, 7] (again _ _ ⟨_, _, rfl, H, by rw [hg] <;> rfl⟩)
    · refine sr_pass rfl (j := 16) (d := 50) rfl rfl rfl (u := true) (v := false) rfl rfl ?_
      refine sr_pass rfl (j := 16) (d := 50) rfl rfl rfl (u := true) (v := false) rfl rfl ?_
      refine sr_pass rfl (j := 16) (d := 50) rfl rfl rfl (u := true) (v := false) rfl rfl ?_
      refine sr_op rfl rfl (ow_pick (v := .bool true) rfl rfl ?_)
      exact sr_live [54, 1, 5, 6, 7] (again _ _ ⟨_, _, rfl, H, by rw [hg] <;> rfl⟩)
  rintro _ _ ⟨r, _, rfl, H, rfl⟩
  refine sr_op rfl rfl (ow_move (v := .bool (((((decide (2000 < (src.size : Int))) || (!decide (e1 = 0))) || (!decide (k2 = 0))) || (decide ((l1.length : Int) = 0))) || (decide (1000 < (l1.length : Int))))) rfl ?_)
  refine sr_cut 4 (fun m_ w_ => ∃ (r_ : Sl) (v_ : Bool), m_ = (59, .bool v_) :: (1, .int .i64 n) :: (5, .pointer (some ⟨g1, 0, none⟩)) :: (6, .bool false) :: (7, .slice s1A l1.length s1c) :: r_ ∧ Hp B I2 w_ ((g2, Ob [.string x2.name, .slice d2A1 x2.kinds.length d2c1, .slice d2A2 x2.offices.length d2c2, .slice d2A3 x2.rules.length d2c3, .int .i64 x2.change.kind, .int .i64 x2.change.n, .int .i64 x2.change.no, .string x2.change.name, .slice d2A8 x2.change.l.length d2c8, .int .i64 x2.mode] 28) :: (g1, Ob [.int .i64 other.kind, .string other.text, .int .i64 other.n, .int .i64 other.at_] 71) :: L) ∧ v_ = ((((((decide (2000 < (src.size : Int))) || (!decide (e1 = 0))) || (!decide (k2 = 0))) || (decide ((l1.length : Int) = 0))) || (decide (1000 < (l1.length : Int)))) || (!(validB other)))) (fun again => ?_) ?_
  · rcases hg : ((((decide (2000 < (src.size : Int))) || (!decide (e1 = 0))) || (!decide (k2 = 0))) || (decide ((l1.length : Int) = 0))) || (decide (1000 < (l1.length : Int))) with _ | _
    · refine sr_want rfl (j := 21) (d := 55) rfl rfl rfl (v := false) rfl rfl (ow_load (v := .agg #[.int .i64 other.kind, .string other.text, .int .i64 other.n, .int .i64 other.at_]) ty71 H rfl 1 rfl rfl rfl rfl ?_)
      have d0 := ((d0.mono hI1).mono hI2)
      refine sr_want rfl (j := 21) (d := 55) rfl rfl rfl (v := false) rfl rfl (ow_call en37 rfl (Valid_c H d0) ?_)
      rintro _ _ ⟨rfl, H⟩
      refine sr_want rfl (j := 21) (d := 55) rfl rfl rfl (v := false) rfl rfl (ow_not rfl ?_)
      refine sr_op rfl rfl (ow_pick (v := .bool (!(validB other))) rfl rfl ?_)
      exact sr_live [59, 1, 5, 6, 7] (again _ _ ⟨_, _, rfl, H, by rw [hg] <;> rfl⟩)
    · refine sr_pass rfl (j := 21) (d := 55) rfl rfl rfl (u := true) (v := false) rfl rfl ?_
      refine sr_pass rfl (j := 21) (d := 55) rfl rfl rfl (u := true) (v := false) rfl rfl ?_
      refine sr_pass rfl (j := 21) (d := 55) rfl rfl rfl (u := true) (v := false) rfl rfl ?_
      refine sr_op rfl rfl (ow_pick (v := .bool true) rfl rfl ?_)
      exact sr_live [59, 1, 5, 6, 7] (again _ _ ⟨_, _, rfl, H, by rw [hg] <;> rfl⟩)
  rintro _ _ ⟨r, _, rfl, H, rfl⟩
  refine sr_nil ?_
  refine st_cond ((((((decide (2000 < (src.size : Int))) || (!decide (e1 = 0))) || (!decide (k2 = 0))) || (decide ((l1.length : Int) = 0))) || (decide (1000 < (l1.length : Int)))) || (!(validB other))) rfl (fun hc3 => ?_) (fun hc3 => ?_)
  · skip
    refine st_seq ?_
    refine st_region ?_
    refine sr_op rfl rfl (ow_assign (v := .bool true) rfl ?_)
    refine sr_nil ?_
    refine st_ret hb (hR _ _ (.bool true) (res_run (vs := [.bool true]) Tryz.results7 ⟨_, _, rfl, rfl, rfl⟩) ?_)
    exact ⟨_, rfl, rfl, (Hp.back (H.drop 2) (hI1.trans hI2))⟩
  · simp only [Bool.or_eq_false_iff, Bool.not_eq_false', decide_eq_false_iff_not, decide_eq_true_eq] at hc3
    obtain ⟨⟨⟨⟨⟨hz1, he1⟩, hk1⟩, hne⟩, hlm⟩, hvo⟩ := hc3
    obtain ⟨hval, hpol, hll, hco⟩ := law_start hlx1 hk2 he1 hk1
    refine st_skip ?_
    refine st_seq ?_
    refine st_region ?_
    refine sr_op rfl rfl (ow_move (v := .int .i64 n) rfl ?_)
    obtain ⟨qn, hqn⟩ := u64_nat n
    refine sr_op rfl rfl (ow_conv (cm := true) Tryz.underlying3 Tryz.underlying76 rfl (r := (qn : Int)) hqn ?_)
    refine sr_op rfl rfl (ow_move (v := .slice s1A l1.length s1c) rfl ?_)
    refine sr_op rfl rfl (ow_lenS sl67 rfl rfl ?_)
    refine sr_op rfl rfl (ow_conv (cm := true) Tryz.underlying3 Tryz.underlying76 rfl (r := (l1.length : Int)) (u64_len (by omega)) ?_)
    obtain ⟨i, hi, hil⟩ := rem_nat qn (l := l1.length) (by omega)
    refine sr_op rfl rfl (ow_rem rfl rfl (by omega) (r := (i : Int)) hi ?_)
    refine sr_op rfl rfl (ow_conv (cm := true) Tryz.underlying76 Tryz.underlying3 rfl (r := (i : Int)) (wrap_i64 (by omega) (by omega)) ?_)
    refine sr_op rfl rfl (ow_assign (v := .int .i64 (i : Int)) rfl ?_)
    refine sr_nil ?_
    refine st_seq ?_
    refine st_region ?_
    refine sr_op rfl rfl (ow_buildSlice H (e := 71) (ps := []) rfl [] (fun _ => by kernel_rfl) (fun g4 _ H => ?_))
    refine sr_op rfl rfl (ow_move (v := .slice s1A l1.length s1c) rfl ?_)
    have s1 := (s1.mono hI2)
    refine sr_op rfl rfl (ow_appendF (l := l1) (enc := encTk) sl67 ty71 rfl rfl (g := g4) (L := _) H rfl rfl rfl s1 (fun _ _ => rfl) (by omega) (by omega) (fun va csa _ H ha_ => ?_))
    obtain ⟨ga, ca, rfl, hca, hcb⟩ := Acc.open2 ha_ (by omega)
    refine sr_op rfl rfl (ow_assign (v := .slice (some ⟨ga, 0, none⟩) l1.length ca) rfl ?_)
    refine sr_nil ?_
    refine st_seq ?_
    refine st_region ?_
    refine sr_op rfl rfl (ow_move (v := .slice (some ⟨ga, 0, none⟩) l1.length ca) rfl ?_)
    refine sr_op rfl rfl (ow_move (v := .int .i64 (i : Int)) rfl ?_)
    refine sr_op rfl rfl (ow_load (v := .agg #[.int .i64 other.kind, .string other.text, .int .i64 other.n, .int .i64 other.at_]) ty71 H rfl 2 rfl rfl rfl rfl ?_)
    refine sr_op rfl rfl (ow_indexAddr sl67 ty71 rfl rfl (by omega) (by omega) (r := i * 4) (by simp) ?_)
    have d0 := ((d0.mono hI1).mono hI2)
    refine sr_op rfl rfl (ow_storeAcc (i := i) ty71 H ha_ (by rw [List.length_map]; omega) rfl (u := .agg #[.int .i64 other.kind, .string other.text, .int .i64 other.n, .int .i64 other.at_]) rfl [.int .i64 other.kind, .string other.text, .int .i64 other.n, .int .i64 other.at_] rfl rfl rfl d0 (fun _ csr H ha_ => ?_))
    rw [← List.map_set] at ha_
    obtain ⟨I9, hI9, H9, hr_⟩ := Acc.done ha_ H
    change RepS encTk I9 4 (l1.set i other) (.slice (some ⟨ga, 0, none⟩) l1.length ca) at hr_
    have H := H9
    have hls : (l1.set i other).length = l1.length := List.length_set
    refine sr_nil ?_
    refine st_seq ?_
    refine st_region ?_
    refine sr_op rfl rfl (ow_move (v := .slice (some ⟨ga, 0, none⟩) l1.length ca) rfl ?_)
    have hvm : (l1.set i other).all validB = true := set_valid i hval hvo
    have hlib := ((hlib.mono hI2).mono hI9)
    refine sr_op rfl rfl (ow_call en36 rfl (Text_v H hr_ (by omega) hlib hvm) ?_)
    rintro _ _ ⟨rfl, H⟩
    refine sr_op rfl rfl (ow_move (v := .tuple #[.string (joinW (l1.set i other)), .int .i64 0]) rfl ?_)
    refine sr_op rfl rfl (ow_extract (v := .string (joinW (l1.set i other))) rfl rfl ?_)
    refine sr_op rfl rfl (ow_extract (v := .int .i64 0) rfl rfl ?_)
    refine sr_op rfl rfl (ow_assign (v := .string (joinW (l1.set i other))) rfl ?_)
    refine sr_op rfl rfl (ow_assign (v := .int .i64 0) rfl ?_)
    refine sr_nil ?_
    refine st_seq ?_
    refine st_region ?_
    refine sr_op rfl rfl (ow_move (v := .slice (some ⟨ga, 0, none⟩) l1.length ca) rfl ?_)
    refine sr_op rfl rfl (ow_move (v := .int .i64 (i : Int)) rfl ?_)
    refine sr_op rfl rfl (ow_cutS (a := 0) (c := i) sl67 ty71 rfl (.inl ⟨rfl, rfl⟩) (.inr ⟨_, rfl⟩) (by omega) (by omega) (by omega) ?_)
    refine sr_op rfl rfl (ow_call en36 rfl (Text_v H (by have h_ := RepS.cutN hr_ hls 0 i (by omega) (by omega); rw [List.drop_zero] at h_; exact h_) (by rw [List.length_take]; omega) hlib (take_valid i hvm)) ?_)
    rintro _ _ ⟨rfl, H⟩
    refine sr_op rfl rfl (ow_move (v := .tuple #[.string (joinW ((l1.set i other).take i)), .int .i64 0]) rfl ?_)
    refine sr_op rfl rfl (ow_extract (v := .string (joinW ((l1.set i other).take i))) rfl rfl ?_)
    refine sr_op rfl rfl (ow_extract (v := .int .i64 0) rfl rfl ?_)
    refine sr_op rfl rfl (ow_assign (v := .string (joinW ((l1.set i other).take i))) rfl ?_)
    refine sr_op rfl rfl (ow_assign (v := .int .i64 0) rfl ?_)
    refine sr_nil ?_
    refine st_seq ?_
    refine st_seq ?_
    refine st_region ?_
    refine sr_op rfl rfl (ow_move (v := .int .i64 0) rfl ?_)
    refine sr_op rfl rfl (ow_neq rfl rfl ?_)
    refine sr_op rfl rfl (ow_move (v := .bool false) rfl ?_)
    refine sr_want rfl (j := 2) (d := 88) rfl rfl rfl (v := false) rfl rfl (ow_move (v := .int .i64 0) rfl ?_)
    refine sr_want rfl (j := 2) (d := 88) rfl rfl rfl (v := false) rfl rfl (ow_neq rfl rfl ?_)
    refine sr_op rfl rfl (ow_pick (v := .bool false) rfl rfl ?_)
    refine sr_op rfl rfl (ow_move (v := .bool false) rfl ?_)
    refine sr_want rfl (j := 6) (d := 92) rfl rfl rfl (v := false) rfl rfl (ow_move (v := .string (joinW (l1.set i other))) rfl ?_)
    refine sr_want rfl (j := 6) (d := 92) rfl rfl rfl (v := false) rfl rfl (ow_move (v := .string (joinW ((l1.set i other).take i))) rfl ?_)
    refine sr_want rfl (j := 6) (d := 92) rfl rfl rfl (v := false) rfl rfl (ow_call en38 rfl (HasPrefix_c H _ _) ?_)
    rintro _ _ ⟨rfl, H⟩
    refine sr_want rfl (j := 6) (d := 92) rfl rfl rfl (v := false) rfl rfl (ow_not rfl ?_)
    refine sr_op rfl rfl (ow_pick (v := .bool (!(prefB (joinW (l1.set i other)) (joinW ((l1.set i other).take i))))) rfl rfl ?_)
    refine sr_nil ?_
    refine st_no (congrArg Value.bool (congrArg (a₂ := true) not (pref_take _ _))) ?_
    refine st_skip ?_
    refine st_seq ?_
    refine st_seq ?_
    refine st_region ?_
    refine sr_op rfl rfl (ow_move (v := .string (joinW (l1.set i other))) rfl ?_)
    refine sr_op rfl rfl (ow_lenT un9 rfl rfl ?_)
    refine sr_op rfl rfl (ow_gtr rfl rfl ?_)
    refine sr_nil ?_
    refine st_cond (decide (65536 < ((joinW (l1.set i other)).size : Int))) rfl (fun hc5 => ?_) (fun hc5 => ?_)
    · skip
      refine st_seq ?_
      refine st_region ?_
      refine sr_op rfl rfl (ow_assign (v := .bool true) rfl ?_)
      refine sr_nil ?_
      refine st_ret hb (hR _ _ (.bool true) (res_run (vs := [.bool true]) Tryz.results7 ⟨_, _, rfl, rfl, rfl⟩) ?_)
      exact ⟨_, rfl, rfl, (Hp.back (H.drop 2) ((hI1.trans hI2).trans hI9))⟩
    · have hz3 := of_decide_eq_false hc5
      refine st_skip ?_
      refine st_seq ?_
      refine st_region ?_
      refine sr_op rfl rfl (ow_move (v := .string (joinW (l1.set i other))) rfl ?_)
      refine sr_op rfl rfl (ow_call en18 rfl (Parse_c H _ (by unfold S63; omega) hlib) ?_)
      rintro _ _ ⟨I3, us3, x3, a3, k3, hI3, H, rfl, hk3, hx3⟩
      have d3 := hx3
      obtain ⟨d3v1, d3v2, d3v3, d3v8, rfl, d3_0, d3_1, d3_2, d3_3, d3_4, d3_5, d3_6, d3_7, d3_8, d3_9⟩ := po_iff.1 hx3
      obtain ⟨d3A1, d3c1, rfl, d3m1, d3M1, d3_1⟩ := RepS.open_ d3_1
      obtain ⟨d3A2, d3c2, rfl, d3m2, d3M2, d3_2⟩ := RepS.open_ d3_2
      obtain ⟨d3A3, d3c3, rfl, d3m3, d3M3, d3_3⟩ := RepS.open_ d3_3
      obtain ⟨d3A8, d3c8, rfl, d3m8, d3M8, d3_8⟩ := RepS.open_ d3_8
      have hw := change_parse hvm hpol hil hls (set_take i) (by omega)
      rw [hk3] at hw
      simp only at hw
      refine sr_op rfl rfl (ow_move (v := .tuple #[.agg #[.string x3.name, .slice d3A1 x3.kinds.length d3c1, .slice d3A2 x3.offices.length d3c2, .slice d3A3 x3.rules.length d3c3, .int .i64 x3.change.kind, .int .i64 x3.change.n, .int .i64 x3.change.no, .string x3.change.name, .slice d3A8 x3.change.l.length d3c8, .int .i64 x3.mode], .int .i64 a3, .int .i64 k3]) rfl ?_)
      refine sr_op rfl rfl (ow_extract (v := .agg #[.string x3.name, .slice d3A1 x3.kinds.length d3c1, .slice d3A2 x3.offices.length d3c2, .slice d3A3 x3.rules.length d3c3, .int .i64 x3.change.kind, .int .i64 x3.change.n, .int .i64 x3.change.no, .string x3.change.name, .slice d3A8 x3.change.l.length d3c8, .int .i64 x3.mode]) rfl rfl ?_)
      refine sr_op rfl rfl (ow_extract (v := .int .i64 a3) rfl rfl ?_)
      refine sr_op rfl rfl (ow_extract (v := .int .i64 k3) rfl rfl ?_)
      refine sr_op rfl rfl (ow_alloc ty28 H [.string ⟨#[]⟩, .slice none 0 0, .slice none 0 0, .slice none 0 0, .int .i64 0, .int .i64 0, .int .i64 0, .string ⟨#[]⟩, .slice none 0 0, .int .i64 0] rfl (fun g6 _ H => ?_))
      refine sr_op rfl rfl (ow_store ty28 H rfl (v := .agg #[.string x3.name, .slice d3A1 x3.kinds.length d3c1, .slice d3A2 x3.offices.length d3c2, .slice d3A3 x3.rules.length d3c3, .int .i64 x3.change.kind, .int .i64 x3.change.n, .int .i64 x3.change.no, .string x3.change.name, .slice d3A8 x3.change.l.length d3c8, .int .i64 x3.mode]) rfl [.string x3.name, .slice d3A1 x3.kinds.length d3c1, .slice d3A2 x3.offices.length d3c2, .slice d3A3 x3.rules.length d3c3, .int .i64 x3.change.kind, .int .i64 x3.change.n, .int .i64 x3.change.no, .string x3.change.name, .slice d3A8 x3.change.l.length d3c8, .int .i64 x3.mode] rfl rfl rfl 0 rfl rfl (fun _ H => ?_))
      refine sr_op rfl rfl (ow_assign (v := .int .i64 a3) rfl ?_)
      refine sr_op rfl rfl (ow_assign (v := .int .i64 k3) rfl ?_)
      refine sr_nil ?_
      refine st_seq ?_
      refine st_region ?_
      refine sr_op rfl rfl (ow_move (v := .int .i64 k3) rfl ?_)
      refine sr_op rfl rfl (ow_eql rfl rfl ?_)
      refine sr_op rfl rfl (ow_move (v := .bool (decide (k3 = 0))) rfl ?_)
      refine sr_cut 3 (fun m_ w_ => ∃ (r_ : Sl) (v_ : Bool), m_ = (112, .bool v_) :: (6, .bool false) :: (15, .string (joinW (l1.set i other))) :: (16, .string (joinW ((l1.set i other).take i))) :: (18, .int .i64 a3) :: (19, .int .i64 k3) :: r_ ∧ Hp B I3 w_ ((g6, Ob [.string x3.name, .slice d3A1 x3.kinds.length d3c1, .slice d3A2 x3.offices.length d3c2, .slice d3A3 x3.rules.length d3c3, .int .i64 x3.change.kind, .int .i64 x3.change.n, .int .i64 x3.change.no, .string x3.change.name, .slice d3A8 x3.change.l.length d3c8, .int .i64 x3.mode] 28) :: (g2, Ob [.string x2.name, .slice d2A1 x2.kinds.length d2c1, .slice d2A2 x2.offices.length d2c2, .slice d2A3 x2.rules.length d2c3, .int .i64 x2.change.kind, .int .i64 x2.change.n, .int .i64 x2.change.no, .string x2.change.name, .slice d2A8 x2.change.l.length d2c8, .int .i64 x2.mode] 28) :: (g1, Ob [.int .i64 other.kind, .string other.text, .int .i64 other.n, .int .i64 other.at_] 71) :: L) ∧ v_ = ((decide (k3 = 0)) && (decide (a3 = 0)))) (fun again => ?_) ?_
      · rcases hg : decide (k3 = 0) with _ | _
        · refine sr_pass rfl (j := 2) (d := 109) rfl rfl rfl (u := false) (v := true) rfl rfl ?_
          refine sr_pass rfl (j := 2) (d := 109) rfl rfl rfl (u := false) (v := true) rfl rfl ?_
          refine sr_op rfl rfl (ow_pick (v := .bool false) rfl rfl ?_)
          exact sr_live [112, 6, 15, 16, 18, 19] (again _ _ ⟨_, _, rfl, H, by rw [hg] <;> rfl⟩)
        · refine sr_want rfl (j := 2) (d := 109) rfl rfl rfl (v := true) rfl rfl (ow_move (v := .int .i64 a3) rfl ?_)
          refine sr_want rfl (j := 2) (d := 109) rfl rfl rfl (v := true) rfl rfl (ow_eql rfl rfl ?_)
          refine sr_op rfl rfl (ow_pick (v := .bool (decide (a3 = 0))) rfl rfl ?_)
          exact sr_live [112, 6, 15, 16, 18, 19] (again _ _ ⟨_, _, rfl, H, by rw [hg] <;> rfl⟩)
      rintro _ _ ⟨r, _, rfl, H, rfl⟩
      refine sr_op rfl rfl (ow_move (v := .bool ((decide (k3 = 0)) && (decide (a3 = 0)))) rfl ?_)
      refine sr_cut 15 (fun m_ w_ => ∃ (r_ : Sl) (v_ : Bool), m_ = (128, .bool v_) :: (6, .bool false) :: r_ ∧ Hp B I3 w_ ((g6, Ob [.string x3.name, .slice d3A1 x3.kinds.length d3c1, .slice d3A2 x3.offices.length d3c2, .slice d3A3 x3.rules.length d3c3, .int .i64 x3.change.kind, .int .i64 x3.change.n, .int .i64 x3.change.no, .string x3.change.name, .slice d3A8 x3.change.l.length d3c8, .int .i64 x3.mode] 28) :: (g2, Ob [.string x2.name, .slice d2A1 x2.kinds.length d2c1, .slice d2A2 x2.offices.length d2c2, .slice d2A3 x2.rules.length d2c3, .int .i64 x2.change.kind, .int .i64 x2.change.n, .int .i64 x2.change.no, .string x2.change.name, .slice d2A8 x2.change.l.length d2c8, .int .i64 x2.mode] 28) :: (g1, Ob [.int .i64 other.kind, .string other.text, .int .i64 other.n, .int .i64 other.at_] 71) :: L) ∧ v_ = (((decide (k3 = 0)) && (decide (a3 = 0))) || (((decide (k3 = 190)) && (decide (((joinW ((l1.set i other).take i)).size : Int) ≤ a3))) && (decide (a3 ≤ ((joinW (l1.set i other)).size : Int)))))) (fun again => ?_) ?_
      · rcases hg : (decide (k3 = 0)) && (decide (a3 = 0)) with _ | _
        · refine sr_want rfl (j := 6) (d := 113) rfl rfl rfl (v := false) rfl rfl (ow_move (v := .int .i64 k3) rfl ?_)
          refine sr_want rfl (j := 6) (d := 113) rfl rfl rfl (v := false) rfl rfl (ow_eql rfl rfl ?_)
          refine sr_want rfl (j := 6) (d := 113) rfl rfl rfl (v := false) rfl rfl (ow_move (v := .bool (decide (k3 = 190))) rfl ?_)
          refine sr_cut 5 (fun m_ w_ => ∃ (r_ : Sl) (v_ : Bool), m_ = (121, .bool v_) :: (6, .bool false) :: (15, .string (joinW (l1.set i other))) :: (18, .int .i64 a3) :: (113, .bool false) :: r_ ∧ Hp B I3 w_ ((g6, Ob [.string x3.name, .slice d3A1 x3.kinds.length d3c1, .slice d3A2 x3.offices.length d3c2, .slice d3A3 x3.rules.length d3c3, .int .i64 x3.change.kind, .int .i64 x3.change.n, .int .i64 x3.change.no, .string x3.change.name, .slice d3A8 x3.change.l.length d3c8, .int .i64 x3.mode] 28) :: (g2, Ob [.string x2.name, .slice d2A1 x2.kinds.length d2c1, .slice d2A2 x2.offices.length d2c2, .slice d2A3 x2.rules.length d2c3, .int .i64 x2.change.kind, .int .i64 x2.change.n, .int .i64 x2.change.no, .string x2.change.name, .slice d2A8 x2.change.l.length d2c8, .int .i64 x2.mode] 28) :: (g1, Ob [.int .i64 other.kind, .string other.text, .int .i64 other.n, .int .i64 other.at_] 71) :: L) ∧ v_ = ((decide (k3 = 190)) && (decide (((joinW ((l1.set i other).take i)).size : Int) ≤ a3)))) (fun again => ?_) ?_
          · rcases hg : decide (k3 = 190) with _ | _
            · refine sr_pass rfl (j := 9) (d := 116) rfl rfl rfl (u := false) (v := true) rfl rfl ?_
              refine sr_pass rfl (j := 9) (d := 116) rfl rfl rfl (u := false) (v := true) rfl rfl ?_
              refine sr_pass rfl (j := 9) (d := 116) rfl rfl rfl (u := false) (v := true) rfl rfl ?_
              refine sr_pass rfl (j := 9) (d := 116) rfl rfl rfl (u := false) (v := true) rfl rfl ?_
              refine sr_want rfl (j := 6) (d := 113) rfl rfl rfl (v := false) rfl rfl (ow_pick (v := .bool false) rfl rfl ?_)
              exact sr_live [121, 6, 15, 18, 113] (again _ _ ⟨_, _, rfl, H, by rw [hg] <;> rfl⟩)
            · refine sr_want rfl (j := 9) (d := 116) rfl rfl rfl (v := true) rfl rfl (ow_move (v := .int .i64 a3) rfl ?_)
              refine sr_want rfl (j := 9) (d := 116) rfl rfl rfl (v := true) rfl rfl (ow_move (v := .string (joinW ((l1.set i other).take i))) rfl ?_)
              refine sr_want rfl (j := 9) (d := 116) rfl rfl rfl (v := true) rfl rfl (ow_lenT un9 rfl rfl ?_)
              refine sr_want rfl (j := 9) (d := 116) rfl rfl rfl (v := true) rfl rfl (ow_geq rfl rfl ?_)
              refine sr_want rfl (j := 6) (d := 113) rfl rfl rfl (v := false) rfl rfl (ow_pick (v := .bool (decide (((joinW ((l1.set i other).take i)).size : Int) ≤ a3))) rfl rfl ?_)
              exact sr_live [121, 6, 15, 18, 113] (again _ _ ⟨_, _, rfl, H, by rw [hg] <;> rfl⟩)
          rintro _ _ ⟨r, _, rfl, H, rfl⟩
          refine sr_want rfl (j := 6) (d := 113) rfl rfl rfl (v := false) rfl rfl (ow_move (v := .bool ((decide (k3 = 190)) && (decide (((joinW ((l1.set i other).take i)).size : Int) ≤ a3)))) rfl ?_)
          refine sr_cut 5 (fun m_ w_ => ∃ (r_ : Sl) (v_ : Bool), m_ = (127, .bool v_) :: (6, .bool false) :: (113, .bool false) :: r_ ∧ Hp B I3 w_ ((g6, Ob [.string x3.name, .slice d3A1 x3.kinds.length d3c1, .slice d3A2 x3.offices.length d3c2, .slice d3A3 x3.rules.length d3c3, .int .i64 x3.change.kind, .int .i64 x3.change.n, .int .i64 x3.change.no, .string x3.change.name, .slice d3A8 x3.change.l.length d3c8, .int .i64 x3.mode] 28) :: (g2, Ob [.string x2.name, .slice d2A1 x2.kinds.length d2c1, .slice d2A2 x2.offices.length d2c2, .slice d2A3 x2.rules.length d2c3, .int .i64 x2.change.kind, .int .i64 x2.change.n, .int .i64 x2.change.no, .string x2.change.name, .slice d2A8 x2.change.l.length d2c8, .int .i64 x2.mode] 28) :: (g1, Ob [.int .i64 other.kind, .string other.text, .int .i64 other.n, .int .i64 other.at_] 71) :: L) ∧ v_ = (((decide (k3 = 190)) && (decide (((joinW ((l1.set i other).take i)).size : Int) ≤ a3))) && (decide (a3 ≤ ((joinW (l1.set i other)).size : Int))))) (fun again => ?_) ?_
          · rcases hg : (decide (k3 = 190)) && (decide (((joinW ((l1.set i other).take i)).size : Int) ≤ a3)) with _ | _
            · refine sr_pass rfl (j := 15) (d := 122) rfl rfl rfl (u := false) (v := true) rfl rfl ?_
              refine sr_pass rfl (j := 15) (d := 122) rfl rfl rfl (u := false) (v := true) rfl rfl ?_
              refine sr_pass rfl (j := 15) (d := 122) rfl rfl rfl (u := false) (v := true) rfl rfl ?_
              refine sr_pass rfl (j := 15) (d := 122) rfl rfl rfl (u := false) (v := true) rfl rfl ?_
              refine sr_want rfl (j := 6) (d := 113) rfl rfl rfl (v := false) rfl rfl (ow_pick (v := .bool false) rfl rfl ?_)
              exact sr_live [127, 6, 113] (again _ _ ⟨_, _, rfl, H, by rw [hg] <;> rfl⟩)
            · refine sr_want rfl (j := 15) (d := 122) rfl rfl rfl (v := true) rfl rfl (ow_move (v := .int .i64 a3) rfl ?_)
              refine sr_want rfl (j := 15) (d := 122) rfl rfl rfl (v := true) rfl rfl (ow_move (v := .string (joinW (l1.set i other))) rfl ?_)
              refine sr_want rfl (j := 15) (d := 122) rfl rfl rfl (v := true) rfl rfl (ow_lenT un9 rfl rfl ?_)
              refine sr_want rfl (j := 15) (d := 122) rfl rfl rfl (v := true) rfl rfl (ow_leq rfl rfl ?_)
              refine sr_want rfl (j := 6) (d := 113) rfl rfl rfl (v := false) rfl rfl (ow_pick (v := .bool (decide (a3 ≤ ((joinW (l1.set i other)).size : Int)))) rfl rfl ?_)
              exact sr_live [127, 6, 113] (again _ _ ⟨_, _, rfl, H, by rw [hg] <;> rfl⟩)
          rintro _ _ ⟨r, _, rfl, H, rfl⟩
          refine sr_op rfl rfl (ow_pick (v := .bool (((decide (k3 = 190)) && (decide (((joinW ((l1.set i other).take i)).size : Int) ≤ a3))) && (decide (a3 ≤ ((joinW (l1.set i other)).size : Int))))) rfl rfl ?_)
          exact sr_live [128, 6] (again _ _ ⟨_, _, rfl, H, by rw [hg] <;> rfl⟩)
        · refine sr_pass rfl (j := 6) (d := 113) rfl rfl rfl (u := true) (v := false) rfl rfl ?_
          refine sr_pass rfl (j := 6) (d := 113) rfl rfl rfl (u := true) (v := false) rfl rfl ?_
          refine sr_pass rfl (j := 6) (d := 113) rfl rfl rfl (u := true) (v := false) rfl rfl ?_
          refine sr_pass_undef rfl (j := 9) (d := 116) rfl rfl rfl rfl ?_
          refine sr_pass_undef rfl (j := 9) (d := 116) rfl rfl rfl rfl ?_
          refine sr_pass_undef rfl (j := 9) (d := 116) rfl rfl rfl rfl ?_
          refine sr_pass_undef rfl (j := 9) (d := 116) rfl rfl rfl rfl ?_
          refine sr_pass rfl (j := 6) (d := 113) rfl rfl rfl (u := true) (v := false) rfl rfl ?_
          refine sr_pass rfl (j := 6) (d := 113) rfl rfl rfl (u := true) (v := false) rfl rfl ?_
          refine sr_pass_undef rfl (j := 15) (d := 122) rfl rfl rfl rfl ?_
          refine sr_pass_undef rfl (j := 15) (d := 122) rfl rfl rfl rfl ?_
          refine sr_pass_undef rfl (j := 15) (d := 122) rfl rfl rfl rfl ?_
          refine sr_pass_undef rfl (j := 15) (d := 122) rfl rfl rfl rfl ?_
          refine sr_pass rfl (j := 6) (d := 113) rfl rfl rfl (u := true) (v := false) rfl rfl ?_
          refine sr_op rfl rfl (ow_pick (v := .bool true) rfl rfl ?_)
          exact sr_live [128, 6] (again _ _ ⟨_, _, rfl, H, by rw [hg] <;> rfl⟩)
      rintro _ _ ⟨r, _, rfl, H, rfl⟩
      refine sr_op rfl rfl (ow_assign (v := .bool (((decide (k3 = 0)) && (decide (a3 = 0))) || (((decide (k3 = 190)) && (decide (((joinW ((l1.set i other).take i)).size : Int) ≤ a3))) && (decide (a3 ≤ ((joinW (l1.set i other)).size : Int)))))) rfl ?_)
      refine sr_nil ?_
      refine st_ret hb (hR _ _ (.bool (((decide (k3 = 0)) && (decide (a3 = 0))) || (((decide (k3 = 190)) && (decide (((joinW ((l1.set i other).take i)).size : Int) ≤ a3))) && (decide (a3 ≤ ((joinW (l1.set i other)).size : Int)))))) (res_run (vs := [.bool (((decide (k3 = 0)) && (decide (a3 = 0))) || (((decide (k3 = 190)) && (decide (((joinW ((l1.set i other).take i)).size : Int) ≤ a3))) && (decide (a3 ≤ ((joinW (l1.set i other)).size : Int)))))]) Tryz.results7 ⟨_, _, rfl, rfl, rfl⟩) ?_)
      exact ⟨_, rfl, congrArg Value.bool (by rcases hw with ⟨h1, h2⟩ | ⟨h1, h2, h3⟩ <;> simp [h1, h2, *]), (Hp.back (H.drop 3) (((hI1.trans hI2).trans hI9).trans hI3))⟩
end Go.Proofs.YtghmjnbpkobooaaGreatDoor

set_option linter.unusedVariables false
set_option linter.unusedSimpArgs false
set_option maxRecDepth 10000
set_option maxHeartbeats 4000000
namespace Go.Proofs.YtghmjnbpkobooaaGreatDoor
open Go Go.RowKit

open Go.ChangeShapes Go.WideShapes Go.ChangeAt
open Go.ChangeMaps (open_string shut_string)
set_option maxRecDepth 100000 in
theorem syntaxChange_lifted (os : Os) (started : os.Started) (H : Type) (enc : TypeId × Value → H) :
    ReturnsInHanded {} Tryz.checked os 7 .any (fun w args => (Rows.syntaxChangeSpec.pre enc Tryz.prog Tryz.f7 [] false w args ∧ laidMetH Tryz.prog laidL w) ∧ sizedMet enc Tryz.prog Tryz.f7 (OpenSpec.ofChange Rows.syntaxChangeSpec) false w args)
      (Rows.syntaxChangeSpec.post enc Tryz.prog Tryz.f7 false true false false) := by
  refine returnsInHanded_of_change_and (C := Tryz.checked) (X := fun w _ => laidMetH Tryz.prog laidL w) (fun _ _ _ hh h => h.of_heap hh) own_ started (by kernel_rfl) Tryz.func7
    (ChangeSpec.witness_shaped (enc := enc) (C := Tryz.checked) (os := os) (X := fun w _ => laidMetH Tryz.prog laidL w) false (World.doorLaid Tryz.prog 67 os) #[.string ⟨#[]⟩, .int .i64 0, .agg #[.int .i64 0, .string ⟨#[]⟩, .int .i64 0, .int .i64 0]] 8 rfl (World.shaped_of_RefB (by kernel_rfl) (by kernel_rfl)) (by kernel_rfl) (by kernel_rfl) (by kernel_rfl) (laidL_met os _)) ?_
  intro W base args ds gs before hval0 hW _ hsz0 hL _
  have hsz : (DataW.weightsEach Tryz.prog (Tryz.f7.params.toList ++ Rows.syntaxChangeSpec.plain.varTypes Tryz.prog) (ds ++ gs)).all (· ≤ reachBytes) = true := hsz0
  have hval : ∀ (j : Nat) t v, Tryz.f7.params[j]? = some t → args[j]? = some v → Value.okWide Tryz.prog W .any base t v := hval0
  have hW' := hW
  obtain ⟨p, q, hA0, hV, rfl, hfz, hnd⟩ := hW
  have hA : DataW.TrodAll enc Tryz.prog W 0 (fun _ => true) true Tryz.f7.params.toList args.toList ds p := hA0
  rw [Tryz.params7] at hA hval hsz
  obtain ⟨v0, vs0, d0, ds0, p0, q0, hargs, rfl, rfl, h0, r0⟩ := trodAll_cons hA
  obtain ⟨v1, vs1, d1, ds1, p1, q1, rfl, rfl, rfl, h1, r1⟩ := trodAll_cons r0
  obtain ⟨v2, vs2, d2, ds2, p2, q2, rfl, rfl, rfl, h2, r2⟩ := trodAll_cons r1
  obtain ⟨rfl, rfl, rfl⟩ := trodAll_nil r2
  obtain rfl : args = #[v0, v1, v2] := by cases args; simp_all
  obtain ⟨rfl, rfl⟩ := trodVars_none hV
  obtain ⟨src, rfl, rfl, rfl, y0⟩ := open_string Tryz.underlying9 (hval 0 9 v0 rfl rfl) h0
  have w0 : src.size ≤ 140737488351232 := by
    have z := sized_string hsz (j := 0) (t := 9) rfl rfl
    rw [Array.length_toList] at z
    exact z
  obtain ⟨n, rfl, rfl, rfl, w1⟩ := open_int Tryz.underlying3 (hval 1 3 v1 rfl rfl) h1
  have k2 := h2
  have lt2 : ∀ x ∈ p2, x.block < W.heap.size := by obtain ⟨m, hm⟩ := k2; exact DataW.trod_lt m _ _ _ hm
  obtain ⟨fu2, hf2⟩ := h2
  obtain ⟨us2, rfl⟩ : ∃ us : List Value, v2 = .agg us.toArray := by obtain ⟨c_, hc_, _⟩ := okWide_agg_ Tryz.underlying71 (hval 2 71 v2 rfl rfl); exact ⟨c_.toList, by simpa using hc_⟩
  obtain ⟨other, hr2⟩ := rd_Tk _ _ _ hf2
  have hlib := lib_at hL
  refine Calls.mono (SyntaxChange_c (hp_start W) src (by omega) n (by have := bounds_i64 w1; constructor <;> omega) hr2 hlib) fun e W' he => ?_
  obtain ⟨_, rfl, rfl, hb_⟩ := he
  obtain ⟨W2, bel, hal⟩ := below_of hb_
  exact ⟨_, rfl, ChangeSpec.post_alike ⟨_, _, _, [], _, [], hW', trodAll_mk1 (shut_bool Tryz.underlying4 _), (trodAll_cons_mk (shut_string Tryz.underlying9 y0) (trodAll_cons_mk (shut_int Tryz.underlying3 w1) (trodAll_cons_mk (Below.trod laidOut_ (by kernel_rfl) (of_decide_eq_true (by kernel_rfl)) k2 bel lt2) trodAll_mk0))), rfl, bel.frame _, fun h => by cases h⟩ hal⟩
theorem syntaxChange_r1 : Tryz.pinned.checked.prog.funcNamed Rows.syntaxChangeRow.func = some 7 := by kernel_rfl
theorem syntaxChange_r2 : joinedFacts Tryz.pinned.checked.prog 7 Tryz.f7 Rows.syntaxChangeSpec Rows.syntaxChangeRow = true := by kernel_rfl
theorem syntaxChange_r3 : Tryz.f7.isInstance Tryz.pinned.checked.prog Rows.syntaxChangeRow.origin Rows.syntaxChangeRow.targs := of_decide_eq_true (by kernel_rfl)
theorem syntaxChange_r4 : Tryz.f7.isWrapper Tryz.pinned.checked.prog Rows.syntaxChangeRow.wrapper Rows.syntaxChangeRow.mainSum := by unfold Func.isWrapper; first | (rw [if_pos (by decide +kernel)]; kernel_rfl) | (rw [if_neg (by decide +kernel)]; exact ⟨rfl, rfl⟩)
theorem syntaxChange_row : Rows.SyntaxChangeSaid :=
  OpenClaim.holds_of_wide 7 Tryz.f7 rfl rfl rfl rfl rfl rfl rfl ⟨rfl, rfl, rfl, rfl, rfl⟩ rfl rfl rfl rfl rfl syntaxChange_r1 Tryz.func7 syntaxChange_r2 syntaxChange_r3 syntaxChange_r4
    (fun os started H enc _ => syntaxChange_lifted os started H enc)
theorem syntaxChange_h1 : Rows.syntaxChangeRow.wfByText (OpenSpec.ofChange Rows.syntaxChangeSpec) = true := by kernel_rfl
theorem syntaxChange_h2 : Tryz.pinned.checked.prog.mainIs = some (((true, "6dfbc9ab955ebfe709820a3f39b9f3e8b45f2ec5d23a756b48fd12bbbea2d69f") : Bool × String).1, ((true, "6dfbc9ab955ebfe709820a3f39b9f3e8b45f2ec5d23a756b48fd12bbbea2d69f") : Bool × String).2.toList) := by kernel_rfl
theorem syntaxChange_h3 : true = Tryz.pinned.checked.prog.looks [] := by kernel_rfl
theorem syntaxChange_h4 : ([9, 3, 71].all fun u => !Tryz.prog.wantsStandIn u) = true := by kernel_rfl
theorem syntaxChange_h5 : false = Rows.syntaxChangeRow.goesBy Tryz.pinned.checked.prog := by kernel_rfl
theorem syntaxChange_holds : Rows.SyntaxChangeCardSaid :=
  Claim7.holds_tied_plain_at .later [] [.data, .data, .data, .sentinel, .sentinel] true (true, "6dfbc9ab955ebfe709820a3f39b9f3e8b45f2ec5d23a756b48fd12bbbea2d69f") true
    syntaxChange_row (fun _ h => by cases h) syntaxChange_h1 (fun _ h => by cases h) syntaxChange_row_tie rfl ⟨rfl, rfl⟩ syntaxChange_h2 rfl
    (fun f fn hf hfn => by
      obtain rfl : f = 7 := Option.some.inj (syntaxChange_r1.symm.trans hf) |>.symm
      obtain rfl : fn = Tryz.f7 := (Option.some.inj (Tryz.func7.symm.trans hfn)).symm
      exact ⟨syntaxChange_h3, fun j t ht => by
        rw [Tryz.params7] at ht
        have hm : t ∈ [9, 3, 71] := by simpa using Array.mem_of_getElem? ht
        exact (show Tryz.prog.wantsStandIn t = false by simpa using List.all_eq_true.1 syntaxChange_h4 t hm)⟩)
    syntaxChange_h5
#print axioms syntaxChange_holds
end Go.Proofs.YtghmjnbpkobooaaGreatDoor
