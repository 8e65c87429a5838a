/-
  Walks: number of the reference.
-/
import Derived.Test.YtbbflenaeihmeaaDoorQC
import Derived.Test.YtbbflenaeihmeaaDoorLB
set_option linter.unusedVariables false
set_option linter.unusedSimpArgs false
set_option maxRecDepth 10000
set_option maxHeartbeats 4000000
namespace Go.Proofs.YtbbflenaeihmeaaDoor
open Go Go.RowKit

def numR (s : ByteArray) (a : Int) (ok : Bool) : Prop := (ok = true ∧ numO s = some a) ∨ (ok = false ∧ numO s = none)
theorem val_take {l : List UInt8} {i : Nat} {u : UInt8} (hu : l[i]? = some u) {n : Nat} (h : valF 0 (l.take i) = n) : valF 0 (l.take (i + 1)) = n * 10 + (u.toNat - 48) := by
  rw [take_some hu, val_app, h]
  rfl
theorem val_part (l : List UInt8) (i : Nat) : valF 0 (l.take i) ≤ valF 0 l := by
  have := val_app (l.take i) (l.drop i) 0
  rw [List.take_append_drop] at this
  rw [this]
  exact val_ge _ _
theorem dig_at {l : List UInt8} (hd : l.all isDig = true) {i : Nat} {u : UInt8} (hu : l[i]? = some u) : 48 ≤ u.toNat ∧ u.toNat ≤ 57 := by
  have := List.all_eq_true.1 hd u (List.mem_of_getElem? hu)
  simpa [isDig] using this
theorem num_end {s : ByteArray} {c : UInt8} {r : List UInt8} (hl : s.data.toList = c :: r) (hd : (c :: r).all isDig = true) {n : Nat} (hn : valF 0 s.data.toList = n) (hb : n ≤ 1099511627776) : numR s (n : Int) (decide ((s.size : Int) = 1) || !decide ((c.toNat : Int) = 48)) := by
  have hv := numO_val hl hd
  rw [hl] at hn
  rw [hn] at hv
  have hz : s.size = r.length + 1 := by rw [size_data, hl]; rfl
  by_cases h : r = [] ∨ c ≠ 48
  · refine .inl ⟨?_, by rw [hv, if_pos ⟨hb, h⟩]⟩
    rcases h with h | h
    · have : s.size = 1 := by rw [hz, h]; rfl
      rw [decide_eq_true (by omega)]
      rfl
    · have : ¬ (c.toNat : Int) = 48 := fun e => h (UInt8.toNat_inj.1 (by show c.toNat = 48; omega))
      rw [decide_eq_false this]
      simp
  · refine .inr ⟨?_, by rw [hv, if_neg (fun k => h k.2)]⟩
    have h1 : r ≠ [] := fun e => h (.inl e)
    have h2 : c = 48 := Decidable.of_not_not fun e => h (.inr e)
    have h3 : r.length ≠ 0 := fun e => h1 (List.eq_nil_of_length_eq_zero e)
    rw [decide_eq_false (show ¬ (s.size : Int) = 1 by omega), h2]
    rfl
theorem num_big {s : ByteArray} {c : UInt8} {r : List UInt8} (hl : s.data.toList = c :: r) (hd : (c :: r).all isDig = true) {i n : Nat} (hn : valF 0 (s.data.toList.take i) = n) (hb : 1099511627776 < n) : numR s 0 false := by
  refine .inr ⟨rfl, ?_⟩
  have := val_part s.data.toList i
  rw [hl] at this hn
  rw [numO_val hl hd, if_neg (fun h => by have := h.1; omega)]
theorem number2_c {B I L w} (H : Hp B I w L) {s : ByteArray} {c : UInt8} {r : List UInt8} (hl : s.data.toList = c :: r) (hd : (c :: r).all isDig = true) (hz : s.size ≤ 70000) : Calls Tryd.prog 82 #[.string s] w (Rt fun r w' => ∃ a ok, r = .tuple #[.int .i64 a, .bool ok] ∧ numR s a ok ∧ Hp B I w' L) := by
  have hd2 : s.data.toList.all isDig = true := by rw [hl]; exact hd
  have h0 : s[0]? = some c := by
    obtain ⟨u_, h1_, h2_⟩ := byte_at (s := s) (i := 0) (by rw [size_data, hl]; simp)
    rw [hl] at h2_
    cases h2_
    exact h1_
  refine calls_st (n := 31) Tryd.func82 rfl rfl rfl ?_
  intro G bF cs hb hfn hR hP
  simp only [ini]
  refine st_seq ?_
  refine st_region ?_
  refine sr_op rfl rfl (ow_assign (v := .int .i64 0) rfl ?_)
  refine sr_op rfl rfl (ow_assign (v := .bool false) rfl ?_)
  refine sr_nil ?_
  refine st_seq ?_
  refine st_region ?_
  refine sr_op rfl rfl (ow_assign (v := .int .i64 0) rfl ?_)
  refine sr_nil ?_
  refine st_seq ?_
  refine st_seq ?_
  refine st_region ?_
  refine sr_op rfl rfl (ow_assign (v := .int .i64 0) rfl ?_)
  refine sr_nil ?_
  refine st_block ?_
  refine st_loop ?_
  refine st_live [0, 2, 3, 4, 5] ?_
  refine st_ind (fun d_ m_ w_ => ∃ (i n : Nat) (r_ : Sl), d_ = s.size - i ∧ m_ = (0, .string s) :: (2, .int .i64 0) :: (3, .bool false) :: (4, .int .i64 (n : Int)) :: (5, .int .i64 (i : Int)) :: r_ ∧ Hp B I w_ (L) ∧ i ≤ s.size ∧ valF 0 (s.data.toList.take i) = n ∧ n ≤ 1099511627776) _ ⟨0, 0, _, rfl, rfl, H, Nat.zero_le _, rfl, by omega⟩ ?_
  rintro _ _ _ ⟨i, n, r2, rfl, rfl, H, hi, hn, hnb⟩ ih3
  obtain ⟨u, hu⟩ := byte_of s i
  refine st_seq ?_
  refine st_seq ?_
  refine st_region ?_
  refine sr_op rfl rfl (ow_move (v := .int .i64 (i : Int)) rfl ?_)
  refine sr_op rfl rfl (ow_move (v := .string s) rfl ?_)
  refine sr_op rfl rfl (ow_lenT un9 rfl rfl ?_)
  refine sr_op rfl rfl (ow_lss rfl rfl ?_)
  refine sr_nil ?_
  refine st_cond (decide ((i : Int) < (s.size : Int))) rfl (fun hc4 => ?_) (fun hc4 => ?_)
  · have hlt := of_decide_eq_true hc4
    have hdg := dig_at hd2 (hu (by omega)).2
    refine st_skip ?_
    refine st_seq ?_
    refine st_block ?_
    refine st_seq ?_
    refine st_region ?_
    refine sr_op rfl rfl (ow_move (v := .int .i64 (n : Int)) rfl ?_)
    refine sr_op rfl rfl (ow_mul (r := 10 * (n : Int)) rfl rfl (wrap_i64 (by omega) (by omega)) ?_)
    refine sr_op rfl rfl (ow_move (v := .string s) rfl ?_)
    refine sr_op rfl rfl (ow_move (v := .int .i64 (i : Int)) rfl ?_)
    refine sr_op rfl rfl (ow_indexT un9 rfl rfl (by omega) (u := u) (hu (by first | omega | (simp at hg; omega))).1 ?_)
    refine sr_op rfl rfl (ow_sub (r := (u.toNat : Int) - 48) rfl rfl (wrap_u8 (by omega) (by omega)) ?_)
    refine sr_op rfl rfl (ow_conv (cm := true) Tryd.underlying5 Tryd.underlying3 rfl (r := ((u.toNat : Int) - 48)) (wrap_i64 (by omega) (by omega)) ?_)
    refine sr_op rfl rfl (ow_add (r := ((n * 10 + (u.toNat - 48) : Nat) : Int)) rfl rfl (by rw [show ((10 * (n : Int)) + ((u.toNat : Int) - 48)) = ((n * 10 + (u.toNat - 48) : Nat) : Int) by omega]; exact wrap_i64 (by omega) (by omega)) ?_)
    refine sr_op rfl rfl (ow_assign (v := .int .i64 ((n * 10 + (u.toNat - 48) : Nat) : Int)) rfl ?_)
    refine sr_nil ?_
    refine st_seq ?_
    refine st_region ?_
    refine sr_op rfl rfl (ow_move (v := .int .i64 ((n * 10 + (u.toNat - 48) : Nat) : Int)) rfl ?_)
    refine sr_op rfl rfl (ow_gtr rfl rfl ?_)
    refine sr_nil ?_
    refine st_cond (decide (1099511627776 < ((n * 10 + (u.toNat - 48) : Nat) : Int))) rfl (fun hc5 => ?_) (fun hc5 => ?_)
    · have hbg := of_decide_eq_true hc5
      refine st_seq ?_
      refine st_region ?_
      refine sr_op rfl rfl (ow_assign (v := .int .i64 0) rfl ?_)
      refine sr_op rfl rfl (ow_assign (v := .bool false) rfl ?_)
      refine sr_nil ?_
      refine st_ret hb (hR _ _ (.tuple #[.int .i64 0, .bool false]) (res_run (vs := [.int .i64 0, .bool false]) Tryd.results82 ⟨_, _, rfl, rfl, ⟨_, _, rfl, rfl, rfl⟩⟩) ?_)
      exact ⟨_, rfl, _, _, rfl, num_big hl hd (val_take (hu (by omega)).2 hn) (by omega), H⟩
    · have hbg := of_decide_eq_false hc5
      refine st_skip ?_
      refine st_inBlock ?_
      refine st_region ?_
      refine sr_op rfl rfl (ow_move (v := .int .i64 (i : Int)) rfl ?_)
      refine sr_op rfl rfl (ow_add (r := ((i + 1 : Nat) : Int)) rfl rfl (inc_i64 (by omega)) ?_)
      refine sr_op rfl rfl (ow_assign (v := .int .i64 ((i + 1 : Nat) : Int)) rfl ?_)
      refine sr_nil ?_
      exact st_inLoop (st_live [0, 2, 3, 4, 5] (ih3 _ _ _ (by omega) ⟨i + 1, n * 10 + (u.toNat - 48), _, rfl, rfl, H, by omega, val_take (hu (by omega)).2 hn, by omega⟩))
  · have hge := of_decide_eq_false hc4
    refine st_exit rfl ?_
    refine st_seq ?_
    refine st_cut (fun m_ w_ => ∃ (r_ : Sl) (v3_ : Bool), m_ = (2, .int .i64 (n : Int)) :: (3, .bool v3_) :: r_ ∧ Hp B I w_ (L) ∧ v3_ = ((decide ((s.size : Int) = 1)) || (!decide ((c.toNat : Int) = 48)))) (fun again => ?_) ?_
    · rcases Bool.eq_false_or_eq_true (decide ((s.size : Int) = 1)) with hg6 | hg6
      · refine st_draw (F := (fun w_ => ∃ I2, Le I I2 ∧ Hp B I2 w_ [])) (p0 := [0, 1, 2, 3, 4, 5, 6, 7, 8, 9, 10]) (plan := []) [0, 1, 2, 3, 4, 5, 6, 7, 8, 9, 10] [0, 1, 2, 3, 4, 9, 5, 6, 7, 8, 10] [(3, .bool true), (2, .int .i64 (n : Int)), (30, .bool true), (29, undef), (28, undef), (27, undef), (26, .bool (decide ((s.size : Int) = 1))), (25, .bool (decide ((s.size : Int) = 1))), (24, .int .i64 (s.size : Int)), (23, .string s), (22, .int .i64 (n : Int))] (by kernel_rfl) rfl ?_ ⟨_, Le.refl _, H.drew.pick [] (by decide)⟩ ?_
        · refine ⟨kn_op rfl rfl (wantB_none rfl) fun _ hF2 => ?_, ?_⟩
          · obtain ⟨_, hle2, H2⟩ := hF2
            refine  (ow_move (v := .int .i64 (n : Int)) rfl ?_)
            exact ⟨rfl, rfl⟩
          refine ⟨kn_op rfl rfl (wantB_none rfl) fun _ hF2 => ?_, ?_⟩
          · obtain ⟨_, hle2, H2⟩ := hF2
            refine  (ow_move (v := .string s) rfl ?_)
            exact ⟨rfl, rfl⟩
          refine ⟨kn_op rfl rfl (wantB_none rfl) fun _ hF2 => ?_, ?_⟩
          · obtain ⟨_, hle2, H2⟩ := hF2
            refine  (ow_lenT un9 rfl rfl ?_)
            exact ⟨rfl, rfl⟩
          refine ⟨kn_op rfl rfl (wantB_none rfl) fun _ hF2 => ?_, ?_⟩
          · obtain ⟨_, hle2, H2⟩ := hF2
            refine  (ow_eql rfl rfl ?_)
            exact ⟨rfl, rfl⟩
          refine ⟨kn_op rfl rfl (wantB_none rfl) fun _ hF2 => ?_, ?_⟩
          · obtain ⟨_, hle2, H2⟩ := hF2
            refine  (ow_move (v := .bool (decide ((s.size : Int) = 1))) rfl ?_)
            exact ⟨rfl, rfl⟩
          refine ⟨kn_pass rfl rfl ((wantB_some (j := 4) rfl rfl (d := 26) rfl rfl (u := true) (by exact congrArg Value.bool hg6)).trans rfl) rfl, ?_⟩
          refine ⟨kn_pass rfl rfl ((wantB_some (j := 4) rfl rfl (d := 26) rfl rfl (u := true) (by exact congrArg Value.bool hg6)).trans rfl) rfl, ?_⟩
          refine ⟨kn_pass rfl rfl ((wantB_some (j := 4) rfl rfl (d := 26) rfl rfl (u := true) (by exact congrArg Value.bool hg6)).trans rfl) rfl, ?_⟩
          refine ⟨kn_op rfl rfl (wantB_none rfl) fun _ hF2 => ?_, ?_⟩
          · obtain ⟨_, hle2, H2⟩ := hF2
            refine  (ow_pick (a := true) (v := .bool true) (congrArg Value.bool hg6) rfl ?_)
            exact ⟨rfl, rfl⟩
          refine ⟨kn_op rfl rfl (wantB_none rfl) fun _ hF2 => ?_, ?_⟩
          · obtain ⟨_, hle2, H2⟩ := hF2
            refine  (ow_assign (v := .int .i64 (n : Int)) rfl ?_)
            exact ⟨rfl, rfl⟩
          refine ⟨kn_op rfl rfl (wantB_none rfl) fun _ hF2 => ?_, ?_⟩
          · obtain ⟨_, hle2, H2⟩ := hF2
            refine  (ow_assign (v := .bool true) rfl ?_)
            exact ⟨rfl, rfl⟩
          exact trivial
        have H := H.drew
        refine cw_nil ?_
        exact st_live [2, 3] (again _ _ ⟨_, _, rfl, H, by first | rfl | (rw [hg6] <;> rfl) | simp [hg6]⟩)
      · refine st_draw (F := (fun w_ => ∃ I2, Le I I2 ∧ Hp B I2 w_ [])) (p0 := [0, 1, 2, 3, 4, 5, 6, 7, 8, 9, 10]) (plan := []) [0, 1, 2, 3, 4, 5, 6, 7, 8, 9, 10] [0, 1, 2, 3, 4, 9, 5, 6, 7, 8, 10] [(3, .bool (!decide ((c.toNat : Int) = 48))), (2, .int .i64 (n : Int)), (30, .bool (!decide ((c.toNat : Int) = 48))), (29, .bool (!decide ((c.toNat : Int) = 48))), (28, .int .u8 (c.toNat : Int)), (27, .string s), (26, .bool (decide ((s.size : Int) = 1))), (25, .bool (decide ((s.size : Int) = 1))), (24, .int .i64 (s.size : Int)), (23, .string s), (22, .int .i64 (n : Int))] (by kernel_rfl) rfl ?_ ⟨_, Le.refl _, H.drew.pick [] (by decide)⟩ ?_
        · refine ⟨kn_op rfl rfl (wantB_none rfl) fun _ hF2 => ?_, ?_⟩
          · obtain ⟨_, hle2, H2⟩ := hF2
            refine  (ow_move (v := .int .i64 (n : Int)) rfl ?_)
            exact ⟨rfl, rfl⟩
          refine ⟨kn_op rfl rfl (wantB_none rfl) fun _ hF2 => ?_, ?_⟩
          · obtain ⟨_, hle2, H2⟩ := hF2
            refine  (ow_move (v := .string s) rfl ?_)
            exact ⟨rfl, rfl⟩
          refine ⟨kn_op rfl rfl (wantB_none rfl) fun _ hF2 => ?_, ?_⟩
          · obtain ⟨_, hle2, H2⟩ := hF2
            refine  (ow_lenT un9 rfl rfl ?_)
            exact ⟨rfl, rfl⟩
          refine ⟨kn_op rfl rfl (wantB_none rfl) fun _ hF2 => ?_, ?_⟩
          · obtain ⟨_, hle2, H2⟩ := hF2
            refine  (ow_eql rfl rfl ?_)
            exact ⟨rfl, rfl⟩
          refine ⟨kn_op rfl rfl (wantB_none rfl) fun _ hF2 => ?_, ?_⟩
          · obtain ⟨_, hle2, H2⟩ := hF2
            refine  (ow_move (v := .bool (decide ((s.size : Int) = 1))) rfl ?_)
            exact ⟨rfl, rfl⟩
          refine ⟨kn_op rfl rfl ((wantB_some (j := 4) rfl rfl (d := 26) rfl rfl (u := false) (by exact congrArg Value.bool hg6)).trans rfl) fun _ hF2 => ?_, ?_⟩
          · obtain ⟨_, hle2, H2⟩ := hF2
            refine  (ow_move (v := .string s) rfl ?_)
            exact ⟨rfl, rfl⟩
          refine ⟨kn_op rfl rfl ((wantB_some (j := 4) rfl rfl (d := 26) rfl rfl (u := false) (by exact congrArg Value.bool hg6)).trans rfl) fun _ hF2 => ?_, ?_⟩
          · obtain ⟨_, hle2, H2⟩ := hF2
            refine  (ow_indexT un9 rfl rfl (by omega) (u := c) h0 ?_)
            exact ⟨rfl, rfl⟩
          refine ⟨kn_op rfl rfl ((wantB_some (j := 4) rfl rfl (d := 26) rfl rfl (u := false) (by exact congrArg Value.bool hg6)).trans rfl) fun _ hF2 => ?_, ?_⟩
          · obtain ⟨_, hle2, H2⟩ := hF2
            refine  (ow_neq rfl rfl ?_)
            exact ⟨rfl, rfl⟩
          refine ⟨kn_op rfl rfl (wantB_none rfl) fun _ hF2 => ?_, ?_⟩
          · obtain ⟨_, hle2, H2⟩ := hF2
            refine  (ow_pick (a := false) (v := .bool (!decide ((c.toNat : Int) = 48))) (congrArg Value.bool hg6) rfl ?_)
            exact ⟨rfl, rfl⟩
          refine ⟨kn_op rfl rfl (wantB_none rfl) fun _ hF2 => ?_, ?_⟩
          · obtain ⟨_, hle2, H2⟩ := hF2
            refine  (ow_assign (v := .int .i64 (n : Int)) rfl ?_)
            exact ⟨rfl, rfl⟩
          refine ⟨kn_op rfl rfl (wantB_none rfl) fun _ hF2 => ?_, ?_⟩
          · obtain ⟨_, hle2, H2⟩ := hF2
            refine  (ow_assign (v := .bool (!decide ((c.toNat : Int) = 48))) rfl ?_)
            exact ⟨rfl, rfl⟩
          exact trivial
        have H := H.drew
        refine cw_nil ?_
        exact st_live [2, 3] (again _ _ ⟨_, _, rfl, H, by first | rfl | (rw [hg6] <;> rfl) | simp [hg6]⟩)
    rintro _ _ ⟨r7, _, rfl, H, rfl⟩
    refine st_ret hb (hR _ _ (.tuple #[.int .i64 (n : Int), .bool ((decide ((s.size : Int) = 1)) || (!decide ((c.toNat : Int) = 48)))]) (res_run (vs := [.int .i64 (n : Int), .bool ((decide ((s.size : Int) = 1)) || (!decide ((c.toNat : Int) = 48)))]) Tryd.results82 ⟨_, _, rfl, rfl, ⟨_, _, rfl, rfl, rfl⟩⟩) ?_)
    rw [List.take_of_length_le (by rw [← size_data]; omega)] at hn
    exact ⟨_, rfl, _, _, rfl, num_end hl hd hn hnb, H⟩
end Go.Proofs.YtbbflenaeihmeaaDoor
