/-
  Walks: the writer.
-/
import Derived.Test.YtghmjnbpkobooaaGreatDoorZ1
import Derived.Test.YtghmjnbpkobooaaGreatDoorYB
import Derived.Test.YtghmjnbpkobooaaGreatDoorBB
set_option linter.unusedVariables false
set_option linter.unusedSimpArgs false
set_option maxRecDepth 10000
set_option maxHeartbeats 4000000
namespace Go.Proofs.YtghmjnbpkobooaaGreatDoor
open Go Go.RowKit

def WriteOk (B : World) (d : Nat) : Prop := ∀ {I : Im} {L : List (Nat × Obj)} {w : World} {gW : Nat} {A : Option Addr} {n c : Nat} {cs_ : List Value} {toks : List Tk} {x : Ex} {us : List Value}, x.pc ≤ d → Hp B I w (wrB gW (.slice A n c) :: (rowL (.slice A n c) cs_ 71 ++ L)) → Acc I 4 (.slice A n c) cs_ (toks.map encTk) → RepL I (encEx x) us → toks.length + (exprP x).length ≤ 100000 → Calls Tryz.prog 211 #[.pointer (some ⟨gW, 0, none⟩), .agg us.toArray] w (Rt fun r w' => ∃ I' A' n' c' cs', Le I I' ∧ Hp B I' w' (wrB gW (.slice A' n' c') :: (rowL (.slice A' n' c') cs' 71 ++ L)) ∧ Acc I' 4 (.slice A' n' c') cs' ((toks ++ exprP x).map encTk))
theorem i64_neg {n : Int} (h : I64 n) : I64 n := h
theorem puts_nil (l : List Tk) : l ++ putsP [] = l := by simp [putsP]
theorem put_c {B I L w} {gW : Nat} {A : Option Addr} {n c : Nat} {cs_ : List Value} {toks : List Tk} {items : List Pa} {d gA : Nat} {vs : List Value} (ih : WriteOk B d) (H : Hp B I w (wrB gW (.slice A n c) :: (rowL (.slice A n c) cs_ 71 ++ L))) (ha : Acc I 4 (.slice A n c) cs_ (toks.map encTk)) (hat : At I gA 0 vs) (hv : ArgsV I vs items) (hB : toks.length + (putsP items).length ≤ 100000) (hd : ∀ p ∈ items, p.w ≤ d) (hN : items.length ≤ 100) : Calls Tryz.prog 127 #[.pointer (some ⟨gW, 0, none⟩), .slice (some ⟨gA, 0, none⟩) items.length items.length] w (Rt fun r w' => ∃ I' A' n' c' cs', Le I I' ∧ Hp B I' w' (wrB gW (.slice A' n' c') :: (rowL (.slice A' n' c') cs' 71 ++ L)) ∧ Acc I' 4 (.slice A' n' c') cs' ((toks ++ putsP items).map encTk)) := by
  have ha_ := ha
  refine calls_st (n := 71) Tryz.func127 rfl rfl rfl ?_
  intro G bF cs hb hfn hR hP
  simp only [ini]
  refine st_seq ?_
  refine st_region ?_
  refine sr_op rfl rfl (ow_move (v := .slice (some ⟨gA, 0, none⟩) items.length items.length) rfl ?_)
  refine sr_op rfl rfl (ow_lenS sl260 rfl rfl ?_)
  refine sr_op rfl rfl (ow_move (v := .int .i64 0) rfl ?_)
  refine sr_nil ?_
  refine st_block ?_
  refine st_loop ?_
  refine st_live [0, 11, 12, 13] ?_
  refine st_ind (fun d_ m_ w_ => ∃ (i : Nat) (J1 : Im) (Aa_ : Option Addr) (na_ ca_ : Nat) (cs_ : List Value) (r_ : Sl), d_ = items.length - i ∧ m_ = (0, .pointer (some ⟨gW, 0, none⟩)) :: (11, .slice (some ⟨gA, 0, none⟩) items.length items.length) :: (12, .int .i64 (items.length : Int)) :: (13, .int .i64 (i : Int)) :: r_ ∧ Hp B J1 w_ (wrB gW (.slice Aa_ na_ ca_) :: (rowL (.slice Aa_ na_ ca_) cs_ 71 ++ L)) ∧ Le I J1 ∧ Acc J1 4 (.slice Aa_ na_ ca_) cs_ ((toks ++ putsP (items.take i)).map encTk) ∧ i ≤ items.length) _ ⟨0, I, A, n, c, cs_, _, rfl, rfl, H, Le.refl _, (by simpa [putsP] using ha_), Nat.zero_le _⟩ ?_
  rintro _ _ _ ⟨i, J1, Aa_, na_, ca_, cs_, r2, rfl, rfl, H, hJ1, ha_, hi⟩ ih3
  refine st_seq ?_
  refine st_region ?_
  refine sr_op rfl rfl (ow_lss rfl rfl ?_)
  refine sr_nil ?_
  refine st_seq ?_
  refine st_cond (decide ((i : Int) < (items.length : Int))) rfl (fun hc4 => ?_) (fun hc4 => ?_)
  · have hc4 := of_decide_eq_true hc4
    refine st_skip ?_
    refine st_seq ?_
    refine st_block ?_
    refine st_seq ?_
    refine st_region ?_
    have hat := (hat.mono hJ1)
    have hv := (hv.mono hJ1)
    obtain ⟨p, hep⟩ : ∃ q_, items[i]? = some q_ := ⟨_, List.getElem?_eq_getElem (by omega)⟩
    obtain ⟨v, hev, harg⟩ := hv.get hep
    have hat1 := hat.one hev
    have hwp := hd p (List.mem_of_getElem? hep)
    have hbp := puts_le items (i + 1)
    rw [puts_step hep, List.length_append] at hbp
    refine sr_op rfl rfl (ow_indexAddrA sl260 ty20 rfl rfl rfl (by omega) (by omega) (r := 0 + i) (by simp) ?_)
    cases p
    · rename_i s
      obtain ⟨rfl, hs⟩ := harg
      refine sr_op rfl rfl (ow_loadI (v := .iface 9 (.string s)) ty20 H rfl hat1 rfl rfl rfl ?_)
      refine sr_op rfl rfl (ow_assign (v := .iface 9 (.string s)) rfl ?_)
      refine sr_nil ?_
      refine st_seq ?_
      refine st_region ?_
      refine sr_op rfl rfl (ow_move (v := .iface 9 (.string s)) rfl ?_)
      refine sr_nil ?_
      refine st_block ?_
      refine st_seq ?_
      refine st_region ?_
      refine sr_op rfl rfl (ow_assert2 Tryz.underlying9 rfl rfl ?_)
      refine sr_op rfl rfl (ow_extract (v := .bool true) rfl rfl ?_)
      refine sr_op rfl rfl (ow_extract (v := .string s) rfl rfl ?_)
      refine sr_nil ?_
      refine st_yes rfl ?_
      refine st_seq ?_
      refine st_region ?_
      refine sr_op rfl rfl (ow_assign (v := .string s) rfl ?_)
      refine sr_nil ?_
      refine st_seq ?_
      refine st_region ?_
      refine sr_op rfl rfl (ow_assign (v := .int .i64 3) rfl ?_)
      refine sr_nil ?_
      refine st_seq ?_
      refine st_seq ?_
      refine st_region ?_
      refine sr_op rfl rfl (ow_call en210 rfl (words_c H) ?_)
      rintro _ _ ⟨Iw, vw, hIw, H, rfl, hw⟩
      obtain ⟨w0A, w0c, rfl, w0m, w0M, w0⟩ := RepS.open_ hw
      refine sr_op rfl rfl (ow_move (v := .string s) rfl ?_)
      refine sr_op rfl rfl (ow_call en143 rfl (contains_c H w0 s) ?_)
      rintro _ _ ⟨rfl, H⟩
      refine sr_nil ?_
      refine st_cond (decide (0 ≤ idx resW s)) rfl (fun hc5 => ?_) (fun hc5 => ?_)
      · rw [idx_res] at hc5
        have hp_ : putP (.str s) = [mkTk 1 s 0 0] := by rw [putP, hc5]; rfl
        refine st_region ?_
        refine sr_op rfl rfl (ow_assign (v := .int .i64 1) rfl ?_)
        refine sr_nil ?_
        refine st_region ?_
        refine sr_op rfl rfl (ow_move (v := .pointer (some ⟨gW, 0, none⟩)) rfl ?_)
        refine sr_op rfl rfl (ow_move (v := .pointer (some ⟨gW, 0, none⟩)) rfl ?_)
        refine sr_op rfl rfl (ow_nilCheck rfl ?_)
        refine sr_op rfl rfl (ow_fieldAddr fd92_0 ty67 rfl rfl (r := 0) rfl ?_)
        refine sr_op rfl rfl (ow_load (v := .slice Aa_ na_ ca_) ty67 H rfl 0 rfl rfl rfl rfl ?_)
        refine sr_op rfl rfl (ow_move (v := .int .i64 1) rfl ?_)
        refine sr_op rfl rfl (ow_move (v := .string s) rfl ?_)
        refine sr_op rfl rfl (ow_build (ps := [(0, .int .i64 1), (1, .string s)]) (v := .agg #[.int .i64 1, .string s, .int .i64 0, .int .i64 0]) rfl (fun _ => by kernel_rfl) ?_)
        refine sr_op rfl rfl (ow_buildSlice H (e := 71) (ps := [(0, .agg #[.int .i64 1, .string s, .int .i64 0, .int .i64 0])]) rfl [.int .i64 1, .string s, .int .i64 0, .int .i64 0] (fun _ => by kernel_rfl) (fun g6 _ H => ?_))
        have ha_ := (ha_.mono hIw)
        refine sr_op rfl rfl (ow_append1 sl67 ty71 rfl rfl [wrB gW (.slice Aa_ na_ ca_)] (v := .slice Aa_ na_ ca_) (cs := cs_) (L := L) H ha_ rfl rfl (((tk_iff (t := mkTk 1 s 0 0)).2 ⟨rfl, i64_1, hs, i64_0, i64_0⟩)) (rfl) (rfl) (by simp only [List.length_map, List.length_append] at *; omega) (by simp only [List.length_map, List.length_append] at *; omega) (fun va7 cs8 _ H ha_ => ?_))
        obtain ⟨Aa9, na9, ca9, rfl⟩ := Acc.form ha_
        refine sr_op rfl rfl (ow_nilCheck rfl ?_)
        refine sr_op rfl rfl (ow_fieldAddr fd92_0 ty67 rfl rfl (r := 0) rfl ?_)
        refine sr_op rfl rfl (ow_store ty67 H rfl (v := .slice Aa9 na9 ca9) rfl [.slice Aa9 na9 ca9] rfl rfl rfl 0 rfl rfl (fun _ H => ?_))
        refine sr_nil ?_
        refine st_inBlock ?_
        refine st_inBlock ?_
        refine st_region ?_
        refine sr_op rfl rfl (ow_add (r := ((i + 1 : Nat) : Int)) rfl rfl (inc_i64 (by omega)) ?_)
        refine sr_op rfl rfl (ow_move (v := .int .i64 ((i + 1 : Nat) : Int)) rfl ?_)
        refine sr_nil ?_
        exact st_inLoop (st_live [0, 11, 12, 13] (ih3 _ _ _ (by omega) ⟨i + 1, Iw, _, _, _, _, _, rfl, rfl, H, ((hJ1.trans hIw)), (by rw [puts_step hep, hp_, ← List.append_assoc, List.map_append]; exact ha_), by omega⟩))
      · rw [idx_res] at hc5
        have hp_ : putP (.str s) = [mkTk 3 s 0 0] := by rw [putP, hc5]; rfl
        refine st_skip ?_
        refine st_region ?_
        refine sr_op rfl rfl (ow_move (v := .pointer (some ⟨gW, 0, none⟩)) rfl ?_)
        refine sr_op rfl rfl (ow_move (v := .pointer (some ⟨gW, 0, none⟩)) rfl ?_)
        refine sr_op rfl rfl (ow_nilCheck rfl ?_)
        refine sr_op rfl rfl (ow_fieldAddr fd92_0 ty67 rfl rfl (r := 0) rfl ?_)
        refine sr_op rfl rfl (ow_load (v := .slice Aa_ na_ ca_) ty67 H rfl 0 rfl rfl rfl rfl ?_)
        refine sr_op rfl rfl (ow_move (v := .int .i64 3) rfl ?_)
        refine sr_op rfl rfl (ow_move (v := .string s) rfl ?_)
        refine sr_op rfl rfl (ow_build (ps := [(0, .int .i64 3), (1, .string s)]) (v := .agg #[.int .i64 3, .string s, .int .i64 0, .int .i64 0]) rfl (fun _ => by kernel_rfl) ?_)
        refine sr_op rfl rfl (ow_buildSlice H (e := 71) (ps := [(0, .agg #[.int .i64 3, .string s, .int .i64 0, .int .i64 0])]) rfl [.int .i64 3, .string s, .int .i64 0, .int .i64 0] (fun _ => by kernel_rfl) (fun g10 _ H => ?_))
        have ha_ := (ha_.mono hIw)
        refine sr_op rfl rfl (ow_append1 sl67 ty71 rfl rfl [wrB gW (.slice Aa_ na_ ca_)] (v := .slice Aa_ na_ ca_) (cs := cs_) (L := L) H ha_ rfl rfl (((tk_iff (t := mkTk 3 s 0 0)).2 ⟨rfl, i64_3, hs, i64_0, i64_0⟩)) (rfl) (rfl) (by simp only [List.length_map, List.length_append] at *; omega) (by simp only [List.length_map, List.length_append] at *; omega) (fun va11 cs12 _ H ha_ => ?_))
        obtain ⟨Aa13, na13, ca13, rfl⟩ := Acc.form ha_
        refine sr_op rfl rfl (ow_nilCheck rfl ?_)
        refine sr_op rfl rfl (ow_fieldAddr fd92_0 ty67 rfl rfl (r := 0) rfl ?_)
        refine sr_op rfl rfl (ow_store ty67 H rfl (v := .slice Aa13 na13 ca13) rfl [.slice Aa13 na13 ca13] rfl rfl rfl 0 rfl rfl (fun _ H => ?_))
        refine sr_nil ?_
        refine st_inBlock ?_
        refine st_inBlock ?_
        refine st_region ?_
        refine sr_op rfl rfl (ow_add (r := ((i + 1 : Nat) : Int)) rfl rfl (inc_i64 (by omega)) ?_)
        refine sr_op rfl rfl (ow_move (v := .int .i64 ((i + 1 : Nat) : Int)) rfl ?_)
        refine sr_nil ?_
        exact st_inLoop (st_live [0, 11, 12, 13] (ih3 _ _ _ (by omega) ⟨i + 1, Iw, _, _, _, _, _, rfl, rfl, H, ((hJ1.trans hIw)), (by rw [puts_step hep, hp_, ← List.append_assoc, List.map_append]; exact ha_), by omega⟩))
    · rename_i s
      obtain ⟨rfl, hs⟩ := harg
      refine sr_op rfl rfl (ow_loadI (v := .iface 175 (.string s)) ty20 H rfl hat1 rfl rfl rfl ?_)
      refine sr_op rfl rfl (ow_assign (v := .iface 175 (.string s)) rfl ?_)
      refine sr_nil ?_
      refine st_seq ?_
      refine st_region ?_
      refine sr_op rfl rfl (ow_move (v := .iface 175 (.string s)) rfl ?_)
      refine sr_nil ?_
      refine st_block ?_
      refine st_seq ?_
      refine st_region ?_
      refine sr_op rfl rfl (ow_assertF Tryz.underlying9 rfl ty9 rfl rfl ?_)
      refine sr_op rfl rfl (ow_extract (v := .bool false) rfl rfl ?_)
      refine sr_op rfl rfl (ow_extract (v := .string ⟨#[]⟩) rfl rfl ?_)
      refine sr_nil ?_
      refine st_no rfl ?_
      refine st_seq ?_
      refine st_region ?_
      refine sr_op rfl rfl (ow_assert2 Tryz.underlying175 rfl rfl ?_)
      refine sr_op rfl rfl (ow_extract (v := .bool true) rfl rfl ?_)
      refine sr_op rfl rfl (ow_extract (v := .string s) rfl rfl ?_)
      refine sr_nil ?_
      refine st_yes rfl ?_
      refine st_seq ?_
      refine st_region ?_
      refine sr_op rfl rfl (ow_assign (v := .string s) rfl ?_)
      refine sr_nil ?_
      refine st_region ?_
      refine sr_op rfl rfl (ow_move (v := .pointer (some ⟨gW, 0, none⟩)) rfl ?_)
      refine sr_op rfl rfl (ow_move (v := .pointer (some ⟨gW, 0, none⟩)) rfl ?_)
      refine sr_op rfl rfl (ow_nilCheck rfl ?_)
      refine sr_op rfl rfl (ow_fieldAddr fd92_0 ty67 rfl rfl (r := 0) rfl ?_)
      refine sr_op rfl rfl (ow_load (v := .slice Aa_ na_ ca_) ty67 H rfl 0 rfl rfl rfl rfl ?_)
      refine sr_op rfl rfl (ow_move (v := .string s) rfl ?_)
      refine sr_op rfl rfl (ow_build (ps := [(0, .int .i64 1), (1, .string s)]) (v := .agg #[.int .i64 1, .string s, .int .i64 0, .int .i64 0]) rfl (fun _ => by kernel_rfl) ?_)
      refine sr_op rfl rfl (ow_buildSlice H (e := 71) (ps := [(0, .agg #[.int .i64 1, .string s, .int .i64 0, .int .i64 0])]) rfl [.int .i64 1, .string s, .int .i64 0, .int .i64 0] (fun _ => by kernel_rfl) (fun g14 _ H => ?_))
      refine sr_op rfl rfl (ow_append1 sl67 ty71 rfl rfl [wrB gW (.slice Aa_ na_ ca_)] (v := .slice Aa_ na_ ca_) (cs := cs_) (L := L) H ha_ rfl rfl (((tk_iff (t := mkTk 1 s 0 0)).2 ⟨rfl, i64_1, hs, i64_0, i64_0⟩)) (rfl) (rfl) (by simp only [List.length_map, List.length_append] at *; omega) (by simp only [List.length_map, List.length_append] at *; omega) (fun va15 cs16 _ H ha_ => ?_))
      obtain ⟨Aa17, na17, ca17, rfl⟩ := Acc.form ha_
      refine sr_op rfl rfl (ow_nilCheck rfl ?_)
      refine sr_op rfl rfl (ow_fieldAddr fd92_0 ty67 rfl rfl (r := 0) rfl ?_)
      refine sr_op rfl rfl (ow_store ty67 H rfl (v := .slice Aa17 na17 ca17) rfl [.slice Aa17 na17 ca17] rfl rfl rfl 0 rfl rfl (fun _ H => ?_))
      refine sr_nil ?_
      refine st_inBlock ?_
      refine st_inBlock ?_
      refine st_region ?_
      refine sr_op rfl rfl (ow_add (r := ((i + 1 : Nat) : Int)) rfl rfl (inc_i64 (by omega)) ?_)
      refine sr_op rfl rfl (ow_move (v := .int .i64 ((i + 1 : Nat) : Int)) rfl ?_)
      refine sr_nil ?_
      exact st_inLoop (st_live [0, 11, 12, 13] (ih3 _ _ _ (by omega) ⟨i + 1, J1, _, _, _, _, _, rfl, rfl, H, (hJ1), (by rw [puts_step hep, putP, ← List.append_assoc, List.map_append]; exact ha_), by omega⟩))
    · rename_i k
      obtain ⟨rfl, hk⟩ := harg
      refine sr_op rfl rfl (ow_loadI (v := .iface 3 (.int .i64 k)) ty20 H rfl hat1 rfl rfl rfl ?_)
      refine sr_op rfl rfl (ow_assign (v := .iface 3 (.int .i64 k)) rfl ?_)
      refine sr_nil ?_
      refine st_seq ?_
      refine st_region ?_
      refine sr_op rfl rfl (ow_move (v := .iface 3 (.int .i64 k)) rfl ?_)
      refine sr_nil ?_
      refine st_block ?_
      refine st_seq ?_
      refine st_region ?_
      refine sr_op rfl rfl (ow_assertF Tryz.underlying9 rfl ty9 rfl rfl ?_)
      refine sr_op rfl rfl (ow_extract (v := .bool false) rfl rfl ?_)
      refine sr_op rfl rfl (ow_extract (v := .string ⟨#[]⟩) rfl rfl ?_)
      refine sr_nil ?_
      refine st_no rfl ?_
      refine st_seq ?_
      refine st_region ?_
      refine sr_op rfl rfl (ow_assertF Tryz.underlying175 rfl ty175 rfl rfl ?_)
      refine sr_op rfl rfl (ow_extract (v := .bool false) rfl rfl ?_)
      refine sr_op rfl rfl (ow_extract (v := .string ⟨#[]⟩) rfl rfl ?_)
      refine sr_nil ?_
      refine st_no rfl ?_
      refine st_seq ?_
      refine st_region ?_
      refine sr_op rfl rfl (ow_assert2 Tryz.underlying3 rfl rfl ?_)
      refine sr_op rfl rfl (ow_extract (v := .bool true) rfl rfl ?_)
      refine sr_op rfl rfl (ow_extract (v := .int .i64 k) rfl rfl ?_)
      refine sr_nil ?_
      refine st_yes rfl ?_
      refine st_seq ?_
      refine st_region ?_
      refine sr_op rfl rfl (ow_assign (v := .int .i64 k) rfl ?_)
      refine sr_nil ?_
      refine st_region ?_
      refine sr_op rfl rfl (ow_move (v := .pointer (some ⟨gW, 0, none⟩)) rfl ?_)
      refine sr_op rfl rfl (ow_move (v := .pointer (some ⟨gW, 0, none⟩)) rfl ?_)
      refine sr_op rfl rfl (ow_nilCheck rfl ?_)
      refine sr_op rfl rfl (ow_fieldAddr fd92_0 ty67 rfl rfl (r := 0) rfl ?_)
      refine sr_op rfl rfl (ow_load (v := .slice Aa_ na_ ca_) ty67 H rfl 0 rfl rfl rfl rfl ?_)
      refine sr_op rfl rfl (ow_move (v := .int .i64 k) rfl ?_)
      refine sr_op rfl rfl (ow_build (ps := [(0, .int .i64 2), (2, .int .i64 k)]) (v := .agg #[.int .i64 2, .string ⟨#[]⟩, .int .i64 k, .int .i64 0]) rfl (fun _ => by kernel_rfl) ?_)
      refine sr_op rfl rfl (ow_buildSlice H (e := 71) (ps := [(0, .agg #[.int .i64 2, .string ⟨#[]⟩, .int .i64 k, .int .i64 0])]) rfl [.int .i64 2, .string ⟨#[]⟩, .int .i64 k, .int .i64 0] (fun _ => by kernel_rfl) (fun g18 _ H => ?_))
      refine sr_op rfl rfl (ow_append1 sl67 ty71 rfl rfl [wrB gW (.slice Aa_ na_ ca_)] (v := .slice Aa_ na_ ca_) (cs := cs_) (L := L) H ha_ rfl rfl (((tk_iff (t := mkTk 2 ⟨#[]⟩ k 0)).2 ⟨rfl, i64_2, (show S63 ⟨#[]⟩ by unfold S63; decide), hk, i64_0⟩)) (rfl) (rfl) (by simp only [List.length_map, List.length_append] at *; omega) (by simp only [List.length_map, List.length_append] at *; omega) (fun va19 cs20 _ H ha_ => ?_))
      obtain ⟨Aa21, na21, ca21, rfl⟩ := Acc.form ha_
      refine sr_op rfl rfl (ow_nilCheck rfl ?_)
      refine sr_op rfl rfl (ow_fieldAddr fd92_0 ty67 rfl rfl (r := 0) rfl ?_)
      refine sr_op rfl rfl (ow_store ty67 H rfl (v := .slice Aa21 na21 ca21) rfl [.slice Aa21 na21 ca21] rfl rfl rfl 0 rfl rfl (fun _ H => ?_))
      refine sr_nil ?_
      refine st_inBlock ?_
      refine st_inBlock ?_
      refine st_region ?_
      refine sr_op rfl rfl (ow_add (r := ((i + 1 : Nat) : Int)) rfl rfl (inc_i64 (by omega)) ?_)
      refine sr_op rfl rfl (ow_move (v := .int .i64 ((i + 1 : Nat) : Int)) rfl ?_)
      refine sr_nil ?_
      exact st_inLoop (st_live [0, 11, 12, 13] (ih3 _ _ _ (by omega) ⟨i + 1, J1, _, _, _, _, _, rfl, rfl, H, (hJ1), (by rw [puts_step hep, putP, ← List.append_assoc, List.map_append]; exact ha_), by omega⟩))
    · rename_i x
      obtain ⟨us, rfl, hx⟩ := harg
      have dx := hx
      obtain ⟨dxv4, rfl, dx_0, dx_1, dx_2, dx_3, dx_4⟩ := ex_iff.1 hx
      obtain ⟨dxA4, dxc4, rfl, dxm4, dxM4, dx_4⟩ := RepS.open_ dx_4
      refine sr_op rfl rfl (ow_loadI (v := .iface 26 (.agg #[.int .i64 x.kind, .int .i64 x.n, .int .i64 x.no, .string x.name, .slice dxA4 x.l.length dxc4])) ty20 H rfl hat1 rfl rfl rfl ?_)
      refine sr_op rfl rfl (ow_assign (v := .iface 26 (.agg #[.int .i64 x.kind, .int .i64 x.n, .int .i64 x.no, .string x.name, .slice dxA4 x.l.length dxc4])) rfl ?_)
      refine sr_nil ?_
      refine st_seq ?_
      refine st_region ?_
      refine sr_op rfl rfl (ow_move (v := .iface 26 (.agg #[.int .i64 x.kind, .int .i64 x.n, .int .i64 x.no, .string x.name, .slice dxA4 x.l.length dxc4])) rfl ?_)
      refine sr_nil ?_
      refine st_block ?_
      refine st_seq ?_
      refine st_region ?_
      refine sr_op rfl rfl (ow_assertF Tryz.underlying9 rfl ty9 rfl rfl ?_)
      refine sr_op rfl rfl (ow_extract (v := .bool false) rfl rfl ?_)
      refine sr_op rfl rfl (ow_extract (v := .string ⟨#[]⟩) rfl rfl ?_)
      refine sr_nil ?_
      refine st_no rfl ?_
      refine st_seq ?_
      refine st_region ?_
      refine sr_op rfl rfl (ow_assertF Tryz.underlying175 rfl ty175 rfl rfl ?_)
      refine sr_op rfl rfl (ow_extract (v := .bool false) rfl rfl ?_)
      refine sr_op rfl rfl (ow_extract (v := .string ⟨#[]⟩) rfl rfl ?_)
      refine sr_nil ?_
      refine st_no rfl ?_
      refine st_seq ?_
      refine st_region ?_
      refine sr_op rfl rfl (ow_assertF Tryz.underlying3 rfl ty3 rfl rfl ?_)
      refine sr_op rfl rfl (ow_extract (v := .bool false) rfl rfl ?_)
      refine sr_op rfl rfl (ow_extract (v := .int .i64 0) rfl rfl ?_)
      refine sr_nil ?_
      refine st_no rfl ?_
      refine st_seq ?_
      refine st_region ?_
      refine sr_op rfl rfl (ow_assert2 Tryz.underlying26 rfl rfl ?_)
      refine sr_op rfl rfl (ow_extract (v := .bool true) rfl rfl ?_)
      refine sr_op rfl rfl (ow_extract (v := .agg #[.int .i64 x.kind, .int .i64 x.n, .int .i64 x.no, .string x.name, .slice dxA4 x.l.length dxc4]) rfl rfl ?_)
      refine sr_nil ?_
      refine st_yes rfl ?_
      refine st_seq ?_
      refine st_region ?_
      refine sr_op rfl rfl (ow_alloc ty26 H [.int .i64 0, .int .i64 0, .int .i64 0, .string ⟨#[]⟩, .slice none 0 0] rfl (fun g22 _ H => ?_))
      refine sr_op rfl rfl (ow_store ty26 H rfl (v := .agg #[.int .i64 x.kind, .int .i64 x.n, .int .i64 x.no, .string x.name, .slice dxA4 x.l.length dxc4]) rfl [.int .i64 x.kind, .int .i64 x.n, .int .i64 x.no, .string x.name, .slice dxA4 x.l.length dxc4] rfl rfl rfl 0 rfl rfl (fun _ H => ?_))
      obtain ⟨I23, hI23, H, hat23⟩ := freeze_at (L' := wrB gW (.slice Aa_ na_ ca_) :: (rowL (.slice Aa_ na_ ca_) cs_ 71 ++ L)) 0 rfl H rfl
      refine sr_nil ?_
      refine st_region ?_
      refine sr_op rfl rfl (ow_move (v := .pointer (some ⟨gW, 0, none⟩)) rfl ?_)
      refine sr_op rfl rfl (ow_loadI (v := .agg #[.int .i64 x.kind, .int .i64 x.n, .int .i64 x.no, .string x.name, .slice dxA4 x.l.length dxc4]) ty26 H rfl hat23 rfl rfl rfl ?_)
      have ha_ := (ha_.mono hI23)
      have dx := (dx.mono hI23)
      refine sr_op rfl rfl (ow_call en211 rfl (ih hwp H ha_ dx (by simp only [List.length_append] at *; simp only [putP] at hbp; omega)) ?_)
      rintro _ _ ⟨I24, A24, n24, c24, cs24, hI24, H, ha_⟩
      refine sr_nil ?_
      refine st_inBlock ?_
      refine st_inBlock ?_
      refine st_region ?_
      refine sr_op rfl rfl (ow_add (r := ((i + 1 : Nat) : Int)) rfl rfl (inc_i64 (by omega)) ?_)
      refine sr_op rfl rfl (ow_move (v := .int .i64 ((i + 1 : Nat) : Int)) rfl ?_)
      refine sr_nil ?_
      exact st_inLoop (st_live [0, 11, 12, 13] (ih3 _ _ _ (by omega) ⟨i + 1, I24, _, _, _, _, _, rfl, rfl, H, (((hJ1.trans hI23).trans hI24)), (by rw [puts_step hep, ← List.append_assoc]; exact ha_), by omega⟩))
  · have hc4 := of_decide_eq_false hc4
    refine st_exit rfl ?_
    refine st_end hb (hR _ _ (.tuple #[]) (res_run (vs := []) Tryz.results127 rfl) ?_)
    rw [List.take_of_length_le (by omega)] at ha_
    exact ⟨_, rfl, J1, _, _, _, _, hJ1, H, ha_⟩
theorem write_c {B : World} : ∀ (d : Nat), WriteOk B d := by
  intro d
  induction d with
  | zero =>
    intro I L w gW A n c cs_ toks x us h0
    have := x.pc_eq
    omega
  | succ d ih =>
  intro I L w gW A n c cs_ toks x us hd H ha hx hB
  have hpc := x.pc_eq
  have hxl := Ex.pcs_len x.l
  have hcd : x.l.length ≤ d := by omega
  have d0 := hx
  obtain ⟨d0v4, rfl, d0_0, d0_1, d0_2, d0_3, d0_4⟩ := ex_iff.1 hx
  obtain ⟨d0A4, d0c4, rfl, d0m4, d0M4, d0_4⟩ := RepS.open_ d0_4
  have ha_ := ha
  refine calls_st (n := 95) Tryz.func211 rfl rfl rfl ?_
  intro G bF cs hb hfn hR hP
  simp only [ini]
  refine st_seq ?_
  refine st_region ?_
  refine sr_op rfl rfl (ow_box H (v := .agg #[.int .i64 x.kind, .int .i64 x.n, .int .i64 x.no, .string x.name, .slice d0A4 x.l.length d0c4]) rfl [.int .i64 x.kind, .int .i64 x.n, .int .i64 x.no, .string x.name, .slice d0A4 x.l.length d0c4] rfl (fun g1 _ H => ?_))
  obtain ⟨I2, hI2, H, hat2⟩ := freeze_at (L' := wrB gW (.slice A n c) :: (rowL (.slice A n c) cs_ 71 ++ L)) 0 rfl H rfl
  refine sr_nil ?_
  refine st_seq ?_
  refine st_region ?_
  refine sr_op rfl rfl (ow_fieldAddr fd26_0 ty3 rfl rfl (r := 0 + 0) rfl ?_)
  refine sr_op rfl rfl (ow_loadI (v := .int .i64 x.kind) ty3 H rfl (At.sub (vs := [.int .i64 x.kind]) hat2 0 rfl) rfl rfl rfl ?_)
  refine sr_nil ?_
  refine st_block ?_
  refine st_seq ?_
  refine st_region ?_
  refine sr_op rfl rfl (ow_eql rfl rfl ?_)
  refine sr_op rfl rfl (ow_assign (v := .bool (decide (x.kind = 1))) rfl ?_)
  refine sr_nil ?_
  skip
  refine st_cond (decide (x.kind = 1)) rfl (fun hc3 => ?_) (fun hc3 => ?_)
  · have hc3 := of_decide_eq_true hc3
    have hE : exprP x = [wrd wSome, wrd x.name] := by rw [exprP_eq, if_pos hc3]
    refine st_region ?_
    refine sr_op rfl rfl (ow_move (v := .pointer (some ⟨gW, 0, none⟩)) rfl ?_)
    refine sr_op rfl rfl (ow_iface (v := .string ⟨#[115, 111, 109, 101]⟩) Tryz.underlying9 rfl rfl ?_)
    refine sr_op rfl rfl (ow_fieldAddr fd26_3 ty9 rfl rfl (r := 0 + 3) rfl ?_)
    refine sr_op rfl rfl (ow_loadI (v := .string x.name) ty9 H rfl (At.sub (vs := [.string x.name]) hat2 3 rfl) rfl rfl rfl ?_)
    refine sr_op rfl rfl (ow_iface (v := .string x.name) Tryz.underlying175 rfl rfl ?_)
    refine sr_op rfl rfl (ow_buildSlice H (e := 20) (ps := [(0, .iface 9 (.string ⟨#[115, 111, 109, 101]⟩)), (1, .iface 175 (.string x.name))]) rfl [.iface 9 (.string ⟨#[115, 111, 109, 101]⟩), .iface 175 (.string x.name)] (fun _ => by kernel_rfl) (fun g4 _ H => ?_))
    obtain ⟨I5, hI5, H, hat5⟩ := freeze_at (L' := wrB gW (.slice A n c) :: (rowL (.slice A n c) cs_ 71 ++ L)) 0 rfl H rfl
    have ha_ := ((ha_.mono hI2).mono hI5)
    have hp6 : putsP [.str wSome, .nam x.name] = [wrd wSome, wrd x.name] := by simp [putsP, putP, r_wSome]
    refine sr_op rfl rfl (ow_call en127 rfl (put_c (items := [.str wSome, .nam x.name]) ih H ha_ hat5 ⟨⟨rfl, by unfold S63; decide +kernel⟩, ⟨rfl, d0_3⟩, trivial⟩ (by rw [hp6]; have hB_ := hB; rw [hE] at hB_; simp only [List.length_append, List.length_cons, List.length_nil] at hB_ ⊢; omega) (by intro p_ hp_; simp only [List.mem_cons, List.not_mem_nil, or_false] at hp_; rcases hp_ with rfl | rfl <;> first | exact Nat.zero_le _ | exact Nat.zero_le _) (by simp)) ?_)
    rintro _ _ ⟨I6, A6, n6, c6, cs6, hI6, H, ha_⟩
    rw [hp6] at ha_
    refine sr_nil ?_
    refine st_inBlock ?_
    refine st_end hb (hR _ _ (.tuple #[]) (res_run (vs := []) Tryz.results211 rfl) ?_)
    exact ⟨_, rfl, I6, _, _, _, _, ((hI2.trans hI5).trans hI6), H, by rw [hE]; simpa only [List.append_assoc] using ha_⟩
  · have hn1_ := of_decide_eq_false hc3
    refine st_seq ?_
    refine st_region ?_
    refine sr_op rfl rfl (ow_eql rfl rfl ?_)
    refine sr_op rfl rfl (ow_assign (v := .bool (decide (x.kind = 2))) rfl ?_)
    refine sr_nil ?_
    skip
    refine st_cond (decide (x.kind = 2)) rfl (fun hc7 => ?_) (fun hc7 => ?_)
    · have hc7 := of_decide_eq_true hc7
      have hE : exprP x = [wrd wWeight, num x.n, wrd wOf, wrd x.name] := by rw [exprP_eq, if_neg hn1_, if_pos hc7]
      refine st_region ?_
      refine sr_op rfl rfl (ow_move (v := .pointer (some ⟨gW, 0, none⟩)) rfl ?_)
      refine sr_op rfl rfl (ow_iface (v := .string ⟨#[119, 101, 105, 103, 104, 116]⟩) Tryz.underlying9 rfl rfl ?_)
      refine sr_op rfl rfl (ow_fieldAddr fd26_1 ty3 rfl rfl (r := 0 + 1) rfl ?_)
      refine sr_op rfl rfl (ow_loadI (v := .int .i64 x.n) ty3 H rfl (At.sub (vs := [.int .i64 x.n]) hat2 1 rfl) rfl rfl rfl ?_)
      refine sr_op rfl rfl (ow_iface (v := .int .i64 x.n) Tryz.underlying3 rfl rfl ?_)
      refine sr_op rfl rfl (ow_iface (v := .string ⟨#[111, 102]⟩) Tryz.underlying9 rfl rfl ?_)
      refine sr_op rfl rfl (ow_fieldAddr fd26_3 ty9 rfl rfl (r := 0 + 3) rfl ?_)
      refine sr_op rfl rfl (ow_loadI (v := .string x.name) ty9 H rfl (At.sub (vs := [.string x.name]) hat2 3 rfl) rfl rfl rfl ?_)
      refine sr_op rfl rfl (ow_iface (v := .string x.name) Tryz.underlying175 rfl rfl ?_)
      refine sr_op rfl rfl (ow_buildSlice H (e := 20) (ps := [(0, .iface 9 (.string ⟨#[119, 101, 105, 103, 104, 116]⟩)), (1, .iface 3 (.int .i64 x.n)), (2, .iface 9 (.string ⟨#[111, 102]⟩)), (3, .iface 175 (.string x.name))]) rfl [.iface 9 (.string ⟨#[119, 101, 105, 103, 104, 116]⟩), .iface 3 (.int .i64 x.n), .iface 9 (.string ⟨#[111, 102]⟩), .iface 175 (.string x.name)] (fun _ => by kernel_rfl) (fun g8 _ H => ?_))
      obtain ⟨I9, hI9, H, hat9⟩ := freeze_at (L' := wrB gW (.slice A n c) :: (rowL (.slice A n c) cs_ 71 ++ L)) 0 rfl H rfl
      have ha_ := ((ha_.mono hI2).mono hI9)
      have hp10 : putsP [.str wWeight, .int x.n, .str wOf, .nam x.name] = [wrd wWeight, num x.n, wrd wOf, wrd x.name] := by simp [putsP, putP, r_wWeight, r_wOf]
      refine sr_op rfl rfl (ow_call en127 rfl (put_c (items := [.str wWeight, .int x.n, .str wOf, .nam x.name]) ih H ha_ hat9 ⟨⟨rfl, by unfold S63; decide +kernel⟩, ⟨rfl, d0_1⟩, ⟨rfl, by unfold S63; decide +kernel⟩, ⟨rfl, d0_3⟩, trivial⟩ (by rw [hp10]; have hB_ := hB; rw [hE] at hB_; simp only [List.length_append, List.length_cons, List.length_nil] at hB_ ⊢; omega) (by intro p_ hp_; simp only [List.mem_cons, List.not_mem_nil, or_false] at hp_; rcases hp_ with rfl | rfl | rfl | rfl <;> first | exact Nat.zero_le _ | exact Nat.zero_le _) (by simp)) ?_)
      rintro _ _ ⟨I10, A10, n10, c10, cs10, hI10, H, ha_⟩
      rw [hp10] at ha_
      refine sr_nil ?_
      refine st_inBlock ?_
      refine st_end hb (hR _ _ (.tuple #[]) (res_run (vs := []) Tryz.results211 rfl) ?_)
      exact ⟨_, rfl, I10, _, _, _, _, ((hI2.trans hI9).trans hI10), H, by rw [hE]; simpa only [List.append_assoc] using ha_⟩
    · have hn2_ := of_decide_eq_false hc7
      refine st_seq ?_
      refine st_region ?_
      refine sr_op rfl rfl (ow_eql rfl rfl ?_)
      refine sr_op rfl rfl (ow_assign (v := .bool (decide (x.kind = 4))) rfl ?_)
      refine sr_nil ?_
      skip
      refine st_cond (decide (x.kind = 4)) rfl (fun hc11 => ?_) (fun hc11 => ?_)
      · have hc11 := of_decide_eq_true hc11
        have hE : exprP x = [wrd wUpto, num x.n] ++ uptoP true x.l := by rw [exprP_eq, if_neg hn1_, if_neg hn2_, if_pos hc11]
        refine st_seq ?_
        refine st_region ?_
        refine sr_op rfl rfl (ow_move (v := .pointer (some ⟨gW, 0, none⟩)) rfl ?_)
        refine sr_op rfl rfl (ow_iface (v := .string ⟨#[117, 112, 116, 111]⟩) Tryz.underlying9 rfl rfl ?_)
        refine sr_op rfl rfl (ow_fieldAddr fd26_1 ty3 rfl rfl (r := 0 + 1) rfl ?_)
        refine sr_op rfl rfl (ow_loadI (v := .int .i64 x.n) ty3 H rfl (At.sub (vs := [.int .i64 x.n]) hat2 1 rfl) rfl rfl rfl ?_)
        refine sr_op rfl rfl (ow_iface (v := .int .i64 x.n) Tryz.underlying3 rfl rfl ?_)
        refine sr_op rfl rfl (ow_buildSlice H (e := 20) (ps := [(0, .iface 9 (.string ⟨#[117, 112, 116, 111]⟩)), (1, .iface 3 (.int .i64 x.n))]) rfl [.iface 9 (.string ⟨#[117, 112, 116, 111]⟩), .iface 3 (.int .i64 x.n)] (fun _ => by kernel_rfl) (fun g12 _ H => ?_))
        obtain ⟨I13, hI13, H, hat13⟩ := freeze_at (L' := wrB gW (.slice A n c) :: (rowL (.slice A n c) cs_ 71 ++ L)) 0 rfl H rfl
        have ha_ := ((ha_.mono hI2).mono hI13)
        have hp14 : putsP [.str wUpto, .int x.n] = [wrd wUpto, num x.n] := by simp [putsP, putP, r_wUpto]
        refine sr_op rfl rfl (ow_call en127 rfl (put_c (items := [.str wUpto, .int x.n]) ih H ha_ hat13 ⟨⟨rfl, by unfold S63; decide +kernel⟩, ⟨rfl, d0_1⟩, trivial⟩ (by rw [hp14]; have hB_ := hB; rw [hE] at hB_; simp only [List.length_append, List.length_cons, List.length_nil] at hB_ ⊢; omega) (by intro p_ hp_; simp only [List.mem_cons, List.not_mem_nil, or_false] at hp_; rcases hp_ with rfl | rfl <;> first | exact Nat.zero_le _ | exact Nat.zero_le _) (by simp)) ?_)
        rintro _ _ ⟨I14, A14, n14, c14, cs14, hI14, H, ha_⟩
        rw [hp14] at ha_
        refine sr_nil ?_
        refine st_seq ?_
        refine st_region ?_
        refine sr_op rfl rfl (ow_fieldAddr fd26_4 ty24 rfl rfl (r := 0 + 4) rfl ?_)
        have hat2 := ((hat2.mono hI13).mono hI14)
        refine sr_op rfl rfl (ow_loadI (v := .slice d0A4 x.l.length d0c4) ty24 H rfl (At.sub (vs := [.slice d0A4 x.l.length d0c4]) hat2 4 rfl) rfl rfl rfl ?_)
        refine sr_op rfl rfl (ow_lenS sl24 rfl rfl ?_)
        refine sr_op rfl rfl (ow_move (v := .int .i64 0) rfl ?_)
        refine sr_nil ?_
        refine st_block ?_
        refine st_loop ?_
        refine st_live [0, 74, 75, 76] ?_
        refine st_ind (fun d_ m_ w_ => ∃ (i : Nat) (J15 : Im) (Aa_ : Option Addr) (na_ ca_ : Nat) (cs_ : List Value) (r_ : Sl), d_ = x.l.length - i ∧ m_ = (0, .pointer (some ⟨gW, 0, none⟩)) :: (74, .slice d0A4 x.l.length d0c4) :: (75, .int .i64 (x.l.length : Int)) :: (76, .int .i64 (i : Int)) :: r_ ∧ Hp B J15 w_ (wrB gW (.slice Aa_ na_ ca_) :: (rowL (.slice Aa_ na_ ca_) cs_ 71 ++ L)) ∧ Le I14 J15 ∧ Acc J15 4 (.slice Aa_ na_ ca_) cs_ ((toks ++ [wrd wUpto, num x.n] ++ uptoP true (x.l.take i)).map encTk) ∧ i ≤ x.l.length) _ ⟨0, I14, A14, n14, c14, cs14, _, rfl, rfl, H, Le.refl _, (by simpa [uptoP] using ha_), Nat.zero_le _⟩ ?_
        rintro _ _ _ ⟨i, J15, Aa_, na_, ca_, cs_, r16, rfl, rfl, H, hJ15, ha_, hi⟩ ih17
        have hbl := uptoP_le x.l i
        refine st_seq ?_
        refine st_region ?_
        refine sr_op rfl rfl (ow_lss rfl rfl ?_)
        refine sr_nil ?_
        refine st_seq ?_
        refine st_cond (decide ((i : Int) < (x.l.length : Int))) rfl (fun hc18 => ?_) (fun hc18 => ?_)
        · have hc18 := of_decide_eq_true hc18
          refine st_skip ?_
          refine st_seq ?_
          refine st_block ?_
          refine st_seq ?_
          refine st_region ?_
          refine sr_op rfl rfl (ow_move (v := .int .i64 (i : Int)) rfl ?_)
          have d0_4 := ((((d0_4.mono hI2).mono hI13).mono hI14).mono hJ15)
          obtain ⟨e19, he19⟩ : ∃ q_, x.l[i]? = some q_ := ⟨_, List.getElem?_eq_getElem (by omega)⟩
          obtain ⟨b19, o19, us19, hA19, hat19, hul19, hr19⟩ := RepS.get d0_4 he19
          have d19 := hr19
          obtain ⟨d19v4, rfl, d19_0, d19_1, d19_2, d19_3, d19_4⟩ := ex_iff.1 hr19
          obtain ⟨d19A4, d19c4, rfl, d19m4, d19M4, d19_4⟩ := RepS.open_ d19_4
          refine sr_op rfl rfl (ow_indexAddrA sl24 ty26 hA19 rfl rfl (by omega) (by omega) (r := o19 + i * 5) rfl ?_)
          refine sr_op rfl rfl (ow_loadI (v := .agg #[.int .i64 e19.kind, .int .i64 e19.n, .int .i64 e19.no, .string e19.name, .slice d19A4 e19.l.length d19c4]) ty26 H rfl hat19 rfl rfl rfl ?_)
          refine sr_op rfl rfl (ow_alloc ty26 H [.int .i64 0, .int .i64 0, .int .i64 0, .string ⟨#[]⟩, .slice none 0 0] rfl (fun g20 _ H => ?_))
          refine sr_op rfl rfl (ow_assign (v := .int .i64 (i : Int)) rfl ?_)
          refine sr_op rfl rfl (ow_store ty26 H rfl (v := .agg #[.int .i64 e19.kind, .int .i64 e19.n, .int .i64 e19.no, .string e19.name, .slice d19A4 e19.l.length d19c4]) rfl [.int .i64 e19.kind, .int .i64 e19.n, .int .i64 e19.no, .string e19.name, .slice d19A4 e19.l.length d19c4] rfl rfl rfl 0 rfl rfl (fun _ H => ?_))
          obtain ⟨I21, hI21, H, hat21⟩ := freeze_at (L' := wrB gW (.slice Aa_ na_ ca_) :: (rowL (.slice Aa_ na_ ca_) cs_ 71 ++ L)) 0 rfl H rfl
          refine sr_nil ?_
          refine st_seq ?_
          refine st_seq ?_
          refine st_region ?_
          refine sr_op rfl rfl (ow_move (v := .int .i64 (i : Int)) rfl ?_)
          refine sr_op rfl rfl (ow_gtr rfl rfl ?_)
          refine sr_nil ?_
          refine st_cond (decide (0 < (i : Int))) rfl (fun hc22 => ?_) (fun hc22 => ?_)
          · have hi0 : ¬ i = 0 := by have h_ := of_decide_eq_true hc22; omega
            have hst : uptoP true (x.l.take (i + 1)) = uptoP true (x.l.take i) ++ ([wrd wElse] ++ ([sgn sLp] ++ exprP e19 ++ [sgn sRp])) := by rw [uptoP_take he19, uptoI, if_neg hi0]
            have hbl := uptoP_le x.l (i + 1)
            rw [hst] at hbl
            simp only [List.length_append, List.length_cons, List.length_nil] at hbl
            have hwy : e19.pc ≤ d := by have h_ := Ex.pc_mem (List.mem_of_getElem? he19); omega
            refine st_region ?_
            refine sr_op rfl rfl (ow_move (v := .pointer (some ⟨gW, 0, none⟩)) rfl ?_)
            refine sr_op rfl rfl (ow_iface (v := .string ⟨#[101, 108, 115, 101]⟩) Tryz.underlying9 rfl rfl ?_)
            refine sr_op rfl rfl (ow_buildSlice H (e := 20) (ps := [(0, .iface 9 (.string ⟨#[101, 108, 115, 101]⟩))]) rfl [.iface 9 (.string ⟨#[101, 108, 115, 101]⟩)] (fun _ => by kernel_rfl) (fun g23 _ H => ?_))
            obtain ⟨I24, hI24, H, hat24⟩ := freeze_at (L' := wrB gW (.slice Aa_ na_ ca_) :: (rowL (.slice Aa_ na_ ca_) cs_ 71 ++ L)) 0 rfl H rfl
            have ha_ := ((ha_.mono hI21).mono hI24)
            have hp25 : putsP [.str wElse] = [wrd wElse] := by simp [putsP, putP, r_wElse]
            refine sr_op rfl rfl (ow_call en127 rfl (put_c (items := [.str wElse]) ih H ha_ hat24 ⟨⟨rfl, by unfold S63; decide +kernel⟩, trivial⟩ (by rw [hp25]; have hB_ := hB; rw [hE] at hB_; simp only [List.length_append, List.length_cons, List.length_nil] at hB_ ⊢; omega) (by intro p_ hp_; simp only [List.mem_cons, List.not_mem_nil, or_false] at hp_; rcases hp_ with rfl <;> first | exact Nat.zero_le _ | exact hwy) (by simp)) ?_)
            rintro _ _ ⟨I25, A25, n25, c25, cs25, hI25, H, ha_⟩
            rw [hp25] at ha_
            refine sr_nil ?_
            refine st_region ?_
            refine sr_op rfl rfl (ow_move (v := .pointer (some ⟨gW, 0, none⟩)) rfl ?_)
            refine sr_op rfl rfl (ow_iface (v := .string ⟨#[40]⟩) Tryz.underlying9 rfl rfl ?_)
            have hat21 := ((hat21.mono hI24).mono hI25)
            refine sr_op rfl rfl (ow_loadI (v := .agg #[.int .i64 e19.kind, .int .i64 e19.n, .int .i64 e19.no, .string e19.name, .slice d19A4 e19.l.length d19c4]) ty26 H rfl hat21 rfl rfl rfl ?_)
            refine sr_op rfl rfl (ow_iface (v := .agg #[.int .i64 e19.kind, .int .i64 e19.n, .int .i64 e19.no, .string e19.name, .slice d19A4 e19.l.length d19c4]) Tryz.underlying26 rfl rfl ?_)
            refine sr_op rfl rfl (ow_iface (v := .string ⟨#[41]⟩) Tryz.underlying9 rfl rfl ?_)
            refine sr_op rfl rfl (ow_buildSlice H (e := 20) (ps := [(0, .iface 9 (.string ⟨#[40]⟩)), (1, .iface 26 (.agg #[.int .i64 e19.kind, .int .i64 e19.n, .int .i64 e19.no, .string e19.name, .slice d19A4 e19.l.length d19c4])), (2, .iface 9 (.string ⟨#[41]⟩))]) rfl [.iface 9 (.string ⟨#[40]⟩), .iface 26 (.agg #[.int .i64 e19.kind, .int .i64 e19.n, .int .i64 e19.no, .string e19.name, .slice d19A4 e19.l.length d19c4]), .iface 9 (.string ⟨#[41]⟩)] (fun _ => by kernel_rfl) (fun g26 _ H => ?_))
            obtain ⟨I27, hI27, H, hat27⟩ := freeze_at (L' := wrB gW (.slice A25 n25 c25) :: (rowL (.slice A25 n25 c25) cs25 71 ++ L)) 0 rfl H rfl
            have d19 := ((((d19.mono hI21).mono hI24).mono hI25).mono hI27)
            have ha_ := (ha_.mono hI27)
            have hp28 : putsP [.str sLp, .ex e19, .str sRp] = [sgn sLp] ++ exprP e19 ++ [sgn sRp] := by simp [putsP, putP, r_sLp, r_sRp]
            refine sr_op rfl rfl (ow_call en127 rfl (put_c (items := [.str sLp, .ex e19, .str sRp]) ih H ha_ hat27 ⟨⟨rfl, by unfold S63; decide +kernel⟩, ⟨_, rfl, d19⟩, ⟨rfl, by unfold S63; decide +kernel⟩, trivial⟩ (by rw [hp28]; have hB_ := hB; rw [hE] at hB_; simp only [List.length_append, List.length_cons, List.length_nil] at hB_ ⊢; omega) (by intro p_ hp_; simp only [List.mem_cons, List.not_mem_nil, or_false] at hp_; rcases hp_ with rfl | rfl | rfl <;> first | exact Nat.zero_le _ | exact hwy) (by simp)) ?_)
            rintro _ _ ⟨I28, A28, n28, c28, cs28, hI28, H, ha_⟩
            rw [hp28] at ha_
            refine sr_nil ?_
            refine st_inBlock ?_
            refine st_region ?_
            refine sr_op rfl rfl (ow_add (r := ((i + 1 : Nat) : Int)) rfl rfl (inc_i64 (by omega)) ?_)
            refine sr_op rfl rfl (ow_move (v := .int .i64 ((i + 1 : Nat) : Int)) rfl ?_)
            refine sr_nil ?_
            exact st_inLoop (st_live [0, 74, 75, 76] (ih17 _ _ _ (by omega) ⟨i + 1, I28, _, _, _, _, _, rfl, rfl, H, ((((((hJ15.trans hI21).trans hI24).trans hI25).trans hI27).trans hI28)), (by rw [hst]; simpa only [List.append_assoc] using ha_), by omega⟩))
          · have hi0 : i = 0 := by have h_ := of_decide_eq_false hc22; omega
            have hst : uptoP true (x.l.take (i + 1)) = uptoP true (x.l.take i) ++ ([sgn sLp] ++ exprP e19 ++ [sgn sRp]) := by rw [uptoP_take he19, uptoI, if_pos hi0, List.nil_append]
            have hbl := uptoP_le x.l (i + 1)
            rw [hst] at hbl
            simp only [List.length_append, List.length_cons, List.length_nil] at hbl
            have hwy : e19.pc ≤ d := by have h_ := Ex.pc_mem (List.mem_of_getElem? he19); omega
            refine st_skip ?_
            refine st_region ?_
            refine sr_op rfl rfl (ow_move (v := .pointer (some ⟨gW, 0, none⟩)) rfl ?_)
            refine sr_op rfl rfl (ow_iface (v := .string ⟨#[40]⟩) Tryz.underlying9 rfl rfl ?_)
            refine sr_op rfl rfl (ow_loadI (v := .agg #[.int .i64 e19.kind, .int .i64 e19.n, .int .i64 e19.no, .string e19.name, .slice d19A4 e19.l.length d19c4]) ty26 H rfl hat21 rfl rfl rfl ?_)
            refine sr_op rfl rfl (ow_iface (v := .agg #[.int .i64 e19.kind, .int .i64 e19.n, .int .i64 e19.no, .string e19.name, .slice d19A4 e19.l.length d19c4]) Tryz.underlying26 rfl rfl ?_)
            refine sr_op rfl rfl (ow_iface (v := .string ⟨#[41]⟩) Tryz.underlying9 rfl rfl ?_)
            refine sr_op rfl rfl (ow_buildSlice H (e := 20) (ps := [(0, .iface 9 (.string ⟨#[40]⟩)), (1, .iface 26 (.agg #[.int .i64 e19.kind, .int .i64 e19.n, .int .i64 e19.no, .string e19.name, .slice d19A4 e19.l.length d19c4])), (2, .iface 9 (.string ⟨#[41]⟩))]) rfl [.iface 9 (.string ⟨#[40]⟩), .iface 26 (.agg #[.int .i64 e19.kind, .int .i64 e19.n, .int .i64 e19.no, .string e19.name, .slice d19A4 e19.l.length d19c4]), .iface 9 (.string ⟨#[41]⟩)] (fun _ => by kernel_rfl) (fun g29 _ H => ?_))
            obtain ⟨I30, hI30, H, hat30⟩ := freeze_at (L' := wrB gW (.slice Aa_ na_ ca_) :: (rowL (.slice Aa_ na_ ca_) cs_ 71 ++ L)) 0 rfl H rfl
            have d19 := ((d19.mono hI21).mono hI30)
            have ha_ := ((ha_.mono hI21).mono hI30)
            have hp31 : putsP [.str sLp, .ex e19, .str sRp] = [sgn sLp] ++ exprP e19 ++ [sgn sRp] := by simp [putsP, putP, r_sLp, r_sRp]
            refine sr_op rfl rfl (ow_call en127 rfl (put_c (items := [.str sLp, .ex e19, .str sRp]) ih H ha_ hat30 ⟨⟨rfl, by unfold S63; decide +kernel⟩, ⟨_, rfl, d19⟩, ⟨rfl, by unfold S63; decide +kernel⟩, trivial⟩ (by rw [hp31]; have hB_ := hB; rw [hE] at hB_; simp only [List.length_append, List.length_cons, List.length_nil] at hB_ ⊢; omega) (by intro p_ hp_; simp only [List.mem_cons, List.not_mem_nil, or_false] at hp_; rcases hp_ with rfl | rfl | rfl <;> first | exact Nat.zero_le _ | exact hwy) (by simp)) ?_)
            rintro _ _ ⟨I31, A31, n31, c31, cs31, hI31, H, ha_⟩
            rw [hp31] at ha_
            refine sr_nil ?_
            refine st_inBlock ?_
            refine st_region ?_
            refine sr_op rfl rfl (ow_add (r := ((i + 1 : Nat) : Int)) rfl rfl (inc_i64 (by omega)) ?_)
            refine sr_op rfl rfl (ow_move (v := .int .i64 ((i + 1 : Nat) : Int)) rfl ?_)
            refine sr_nil ?_
            exact st_inLoop (st_live [0, 74, 75, 76] (ih17 _ _ _ (by omega) ⟨i + 1, I31, _, _, _, _, _, rfl, rfl, H, ((((hJ15.trans hI21).trans hI30).trans hI31)), (by rw [hst]; simpa only [List.append_assoc] using ha_), by omega⟩))
        · have hc18 := of_decide_eq_false hc18
          refine st_exit rfl ?_
          refine st_inBlock ?_
          refine st_end hb (hR _ _ (.tuple #[]) (res_run (vs := []) Tryz.results211 rfl) ?_)
          rw [List.take_of_length_le (by omega)] at ha_
          exact ⟨_, rfl, J15, _, _, _, _, (((hI2.trans hI13).trans hI14).trans hJ15), H, by rw [hE]; simpa only [List.append_assoc] using ha_⟩
      · have hn4_ := of_decide_eq_false hc11
        have hE : exprP x = [num x.n, wrd wOf, sgn sLp] ++ ofP true x.l ++ [sgn sRp] := by rw [exprP_eq, if_neg hn1_, if_neg hn2_, if_neg hn4_]
        refine st_seq ?_
        refine st_region ?_
        refine sr_op rfl rfl (ow_move (v := .pointer (some ⟨gW, 0, none⟩)) rfl ?_)
        refine sr_op rfl rfl (ow_fieldAddr fd26_1 ty3 rfl rfl (r := 0 + 1) rfl ?_)
        refine sr_op rfl rfl (ow_loadI (v := .int .i64 x.n) ty3 H rfl (At.sub (vs := [.int .i64 x.n]) hat2 1 rfl) rfl rfl rfl ?_)
        refine sr_op rfl rfl (ow_iface (v := .int .i64 x.n) Tryz.underlying3 rfl rfl ?_)
        refine sr_op rfl rfl (ow_iface (v := .string ⟨#[111, 102]⟩) Tryz.underlying9 rfl rfl ?_)
        refine sr_op rfl rfl (ow_iface (v := .string ⟨#[40]⟩) Tryz.underlying9 rfl rfl ?_)
        refine sr_op rfl rfl (ow_buildSlice H (e := 20) (ps := [(0, .iface 3 (.int .i64 x.n)), (1, .iface 9 (.string ⟨#[111, 102]⟩)), (2, .iface 9 (.string ⟨#[40]⟩))]) rfl [.iface 3 (.int .i64 x.n), .iface 9 (.string ⟨#[111, 102]⟩), .iface 9 (.string ⟨#[40]⟩)] (fun _ => by kernel_rfl) (fun g32 _ H => ?_))
        obtain ⟨I33, hI33, H, hat33⟩ := freeze_at (L' := wrB gW (.slice A n c) :: (rowL (.slice A n c) cs_ 71 ++ L)) 0 rfl H rfl
        have ha_ := ((ha_.mono hI2).mono hI33)
        have hp34 : putsP [.int x.n, .str wOf, .str sLp] = [num x.n, wrd wOf, sgn sLp] := by simp [putsP, putP, r_wOf, r_sLp]
        refine sr_op rfl rfl (ow_call en127 rfl (put_c (items := [.int x.n, .str wOf, .str sLp]) ih H ha_ hat33 ⟨⟨rfl, d0_1⟩, ⟨rfl, by unfold S63; decide +kernel⟩, ⟨rfl, by unfold S63; decide +kernel⟩, trivial⟩ (by rw [hp34]; have hB_ := hB; rw [hE] at hB_; simp only [List.length_append, List.length_cons, List.length_nil] at hB_ ⊢; omega) (by intro p_ hp_; simp only [List.mem_cons, List.not_mem_nil, or_false] at hp_; rcases hp_ with rfl | rfl | rfl <;> first | exact Nat.zero_le _ | exact Nat.zero_le _) (by simp)) ?_)
        rintro _ _ ⟨I34, A34, n34, c34, cs34, hI34, H, ha_⟩
        rw [hp34] at ha_
        refine sr_nil ?_
        refine st_seq ?_
        refine st_seq ?_
        refine st_region ?_
        refine sr_op rfl rfl (ow_fieldAddr fd26_4 ty24 rfl rfl (r := 0 + 4) rfl ?_)
        have hat2 := ((hat2.mono hI33).mono hI34)
        refine sr_op rfl rfl (ow_loadI (v := .slice d0A4 x.l.length d0c4) ty24 H rfl (At.sub (vs := [.slice d0A4 x.l.length d0c4]) hat2 4 rfl) rfl rfl rfl ?_)
        refine sr_op rfl rfl (ow_lenS sl24 rfl rfl ?_)
        refine sr_op rfl rfl (ow_move (v := .int .i64 0) rfl ?_)
        refine sr_nil ?_
        refine st_block ?_
        refine st_loop ?_
        refine st_live [0, 19, 20, 21] ?_
        refine st_ind (fun d_ m_ w_ => ∃ (i : Nat) (J35 : Im) (Aa_ : Option Addr) (na_ ca_ : Nat) (cs_ : List Value) (r_ : Sl), d_ = x.l.length - i ∧ m_ = (0, .pointer (some ⟨gW, 0, none⟩)) :: (19, .slice d0A4 x.l.length d0c4) :: (20, .int .i64 (x.l.length : Int)) :: (21, .int .i64 (i : Int)) :: r_ ∧ Hp B J35 w_ (wrB gW (.slice Aa_ na_ ca_) :: (rowL (.slice Aa_ na_ ca_) cs_ 71 ++ L)) ∧ Le I34 J35 ∧ Acc J35 4 (.slice Aa_ na_ ca_) cs_ ((toks ++ [num x.n, wrd wOf, sgn sLp] ++ ofP true (x.l.take i)).map encTk) ∧ i ≤ x.l.length) _ ⟨0, I34, A34, n34, c34, cs34, _, rfl, rfl, H, Le.refl _, (by simpa [ofP] using ha_), Nat.zero_le _⟩ ?_
        rintro _ _ _ ⟨i, J35, Aa_, na_, ca_, cs_, r36, rfl, rfl, H, hJ35, ha_, hi⟩ ih37
        have hbl := ofP_le x.l i
        refine st_seq ?_
        refine st_region ?_
        refine sr_op rfl rfl (ow_lss rfl rfl ?_)
        refine sr_nil ?_
        refine st_seq ?_
        refine st_cond (decide ((i : Int) < (x.l.length : Int))) rfl (fun hc38 => ?_) (fun hc38 => ?_)
        · have hc38 := of_decide_eq_true hc38
          refine st_skip ?_
          refine st_seq ?_
          refine st_block ?_
          refine st_seq ?_
          refine st_region ?_
          refine sr_op rfl rfl (ow_move (v := .int .i64 (i : Int)) rfl ?_)
          have d0_4 := ((((d0_4.mono hI2).mono hI33).mono hI34).mono hJ35)
          obtain ⟨e39, he39⟩ : ∃ q_, x.l[i]? = some q_ := ⟨_, List.getElem?_eq_getElem (by omega)⟩
          obtain ⟨b39, o39, us39, hA39, hat39, hul39, hr39⟩ := RepS.get d0_4 he39
          have d39 := hr39
          obtain ⟨d39v4, rfl, d39_0, d39_1, d39_2, d39_3, d39_4⟩ := ex_iff.1 hr39
          obtain ⟨d39A4, d39c4, rfl, d39m4, d39M4, d39_4⟩ := RepS.open_ d39_4
          refine sr_op rfl rfl (ow_indexAddrA sl24 ty26 hA39 rfl rfl (by omega) (by omega) (r := o39 + i * 5) rfl ?_)
          refine sr_op rfl rfl (ow_loadI (v := .agg #[.int .i64 e39.kind, .int .i64 e39.n, .int .i64 e39.no, .string e39.name, .slice d39A4 e39.l.length d39c4]) ty26 H rfl hat39 rfl rfl rfl ?_)
          refine sr_op rfl rfl (ow_alloc ty26 H [.int .i64 0, .int .i64 0, .int .i64 0, .string ⟨#[]⟩, .slice none 0 0] rfl (fun g40 _ H => ?_))
          refine sr_op rfl rfl (ow_assign (v := .int .i64 (i : Int)) rfl ?_)
          refine sr_op rfl rfl (ow_store ty26 H rfl (v := .agg #[.int .i64 e39.kind, .int .i64 e39.n, .int .i64 e39.no, .string e39.name, .slice d39A4 e39.l.length d39c4]) rfl [.int .i64 e39.kind, .int .i64 e39.n, .int .i64 e39.no, .string e39.name, .slice d39A4 e39.l.length d39c4] rfl rfl rfl 0 rfl rfl (fun _ H => ?_))
          obtain ⟨I41, hI41, H, hat41⟩ := freeze_at (L' := wrB gW (.slice Aa_ na_ ca_) :: (rowL (.slice Aa_ na_ ca_) cs_ 71 ++ L)) 0 rfl H rfl
          refine sr_nil ?_
          refine st_seq ?_
          refine st_seq ?_
          refine st_region ?_
          refine sr_op rfl rfl (ow_move (v := .int .i64 (i : Int)) rfl ?_)
          refine sr_op rfl rfl (ow_gtr rfl rfl ?_)
          refine sr_nil ?_
          refine st_cond (decide (0 < (i : Int))) rfl (fun hc42 => ?_) (fun hc42 => ?_)
          · have hi0 : ¬ i = 0 := by have h_ := of_decide_eq_true hc42; omega
            have hst : ofP true (x.l.take (i + 1)) = ofP true (x.l.take i) ++ ([sgn sComma] ++ exprP e39) := by rw [ofP_take he39, ofI, if_neg hi0]
            have hbl := ofP_le x.l (i + 1)
            rw [hst] at hbl
            simp only [List.length_append, List.length_cons, List.length_nil] at hbl
            have hwy : e39.pc ≤ d := by have h_ := Ex.pc_mem (List.mem_of_getElem? he39); omega
            refine st_region ?_
            refine sr_op rfl rfl (ow_move (v := .pointer (some ⟨gW, 0, none⟩)) rfl ?_)
            refine sr_op rfl rfl (ow_iface (v := .string ⟨#[44]⟩) Tryz.underlying9 rfl rfl ?_)
            refine sr_op rfl rfl (ow_buildSlice H (e := 20) (ps := [(0, .iface 9 (.string ⟨#[44]⟩))]) rfl [.iface 9 (.string ⟨#[44]⟩)] (fun _ => by kernel_rfl) (fun g43 _ H => ?_))
            obtain ⟨I44, hI44, H, hat44⟩ := freeze_at (L' := wrB gW (.slice Aa_ na_ ca_) :: (rowL (.slice Aa_ na_ ca_) cs_ 71 ++ L)) 0 rfl H rfl
            have ha_ := ((ha_.mono hI41).mono hI44)
            have hp45 : putsP [.str sComma] = [sgn sComma] := by simp [putsP, putP, r_sComma]
            refine sr_op rfl rfl (ow_call en127 rfl (put_c (items := [.str sComma]) ih H ha_ hat44 ⟨⟨rfl, by unfold S63; decide +kernel⟩, trivial⟩ (by rw [hp45]; have hB_ := hB; rw [hE] at hB_; simp only [List.length_append, List.length_cons, List.length_nil] at hB_ ⊢; omega) (by intro p_ hp_; simp only [List.mem_cons, List.not_mem_nil, or_false] at hp_; rcases hp_ with rfl <;> first | exact Nat.zero_le _ | exact hwy) (by simp)) ?_)
            rintro _ _ ⟨I45, A45, n45, c45, cs45, hI45, H, ha_⟩
            rw [hp45] at ha_
            refine sr_nil ?_
            refine st_region ?_
            refine sr_op rfl rfl (ow_move (v := .pointer (some ⟨gW, 0, none⟩)) rfl ?_)
            have hat41 := ((hat41.mono hI44).mono hI45)
            refine sr_op rfl rfl (ow_loadI (v := .agg #[.int .i64 e39.kind, .int .i64 e39.n, .int .i64 e39.no, .string e39.name, .slice d39A4 e39.l.length d39c4]) ty26 H rfl hat41 rfl rfl rfl ?_)
            refine sr_op rfl rfl (ow_iface (v := .agg #[.int .i64 e39.kind, .int .i64 e39.n, .int .i64 e39.no, .string e39.name, .slice d39A4 e39.l.length d39c4]) Tryz.underlying26 rfl rfl ?_)
            refine sr_op rfl rfl (ow_buildSlice H (e := 20) (ps := [(0, .iface 26 (.agg #[.int .i64 e39.kind, .int .i64 e39.n, .int .i64 e39.no, .string e39.name, .slice d39A4 e39.l.length d39c4]))]) rfl [.iface 26 (.agg #[.int .i64 e39.kind, .int .i64 e39.n, .int .i64 e39.no, .string e39.name, .slice d39A4 e39.l.length d39c4])] (fun _ => by kernel_rfl) (fun g46 _ H => ?_))
            obtain ⟨I47, hI47, H, hat47⟩ := freeze_at (L' := wrB gW (.slice A45 n45 c45) :: (rowL (.slice A45 n45 c45) cs45 71 ++ L)) 0 rfl H rfl
            have d39 := ((((d39.mono hI41).mono hI44).mono hI45).mono hI47)
            have ha_ := (ha_.mono hI47)
            have hp48 : putsP [.ex e39] = exprP e39 := by simp [putsP, putP]
            refine sr_op rfl rfl (ow_call en127 rfl (put_c (items := [.ex e39]) ih H ha_ hat47 ⟨⟨_, rfl, d39⟩, trivial⟩ (by rw [hp48]; have hB_ := hB; rw [hE] at hB_; simp only [List.length_append, List.length_cons, List.length_nil] at hB_ ⊢; omega) (by intro p_ hp_; simp only [List.mem_cons, List.not_mem_nil, or_false] at hp_; rcases hp_ with rfl <;> first | exact Nat.zero_le _ | exact hwy) (by simp)) ?_)
            rintro _ _ ⟨I48, A48, n48, c48, cs48, hI48, H, ha_⟩
            rw [hp48] at ha_
            refine sr_nil ?_
            refine st_inBlock ?_
            refine st_region ?_
            refine sr_op rfl rfl (ow_add (r := ((i + 1 : Nat) : Int)) rfl rfl (inc_i64 (by omega)) ?_)
            refine sr_op rfl rfl (ow_move (v := .int .i64 ((i + 1 : Nat) : Int)) rfl ?_)
            refine sr_nil ?_
            exact st_inLoop (st_live [0, 19, 20, 21] (ih37 _ _ _ (by omega) ⟨i + 1, I48, _, _, _, _, _, rfl, rfl, H, ((((((hJ35.trans hI41).trans hI44).trans hI45).trans hI47).trans hI48)), (by rw [hst]; simpa only [List.append_assoc] using ha_), by omega⟩))
          · have hi0 : i = 0 := by have h_ := of_decide_eq_false hc42; omega
            have hst : ofP true (x.l.take (i + 1)) = ofP true (x.l.take i) ++ exprP e39 := by rw [ofP_take he39, ofI, if_pos hi0, List.nil_append]
            have hbl := ofP_le x.l (i + 1)
            rw [hst] at hbl
            simp only [List.length_append, List.length_cons, List.length_nil] at hbl
            have hwy : e39.pc ≤ d := by have h_ := Ex.pc_mem (List.mem_of_getElem? he39); omega
            refine st_skip ?_
            refine st_region ?_
            refine sr_op rfl rfl (ow_move (v := .pointer (some ⟨gW, 0, none⟩)) rfl ?_)
            refine sr_op rfl rfl (ow_loadI (v := .agg #[.int .i64 e39.kind, .int .i64 e39.n, .int .i64 e39.no, .string e39.name, .slice d39A4 e39.l.length d39c4]) ty26 H rfl hat41 rfl rfl rfl ?_)
            refine sr_op rfl rfl (ow_iface (v := .agg #[.int .i64 e39.kind, .int .i64 e39.n, .int .i64 e39.no, .string e39.name, .slice d39A4 e39.l.length d39c4]) Tryz.underlying26 rfl rfl ?_)
            refine sr_op rfl rfl (ow_buildSlice H (e := 20) (ps := [(0, .iface 26 (.agg #[.int .i64 e39.kind, .int .i64 e39.n, .int .i64 e39.no, .string e39.name, .slice d39A4 e39.l.length d39c4]))]) rfl [.iface 26 (.agg #[.int .i64 e39.kind, .int .i64 e39.n, .int .i64 e39.no, .string e39.name, .slice d39A4 e39.l.length d39c4])] (fun _ => by kernel_rfl) (fun g49 _ H => ?_))
            obtain ⟨I50, hI50, H, hat50⟩ := freeze_at (L' := wrB gW (.slice Aa_ na_ ca_) :: (rowL (.slice Aa_ na_ ca_) cs_ 71 ++ L)) 0 rfl H rfl
            have d39 := ((d39.mono hI41).mono hI50)
            have ha_ := ((ha_.mono hI41).mono hI50)
            have hp51 : putsP [.ex e39] = exprP e39 := by simp [putsP, putP]
            refine sr_op rfl rfl (ow_call en127 rfl (put_c (items := [.ex e39]) ih H ha_ hat50 ⟨⟨_, rfl, d39⟩, trivial⟩ (by rw [hp51]; have hB_ := hB; rw [hE] at hB_; simp only [List.length_append, List.length_cons, List.length_nil] at hB_ ⊢; omega) (by intro p_ hp_; simp only [List.mem_cons, List.not_mem_nil, or_false] at hp_; rcases hp_ with rfl <;> first | exact Nat.zero_le _ | exact hwy) (by simp)) ?_)
            rintro _ _ ⟨I51, A51, n51, c51, cs51, hI51, H, ha_⟩
            rw [hp51] at ha_
            refine sr_nil ?_
            refine st_inBlock ?_
            refine st_region ?_
            refine sr_op rfl rfl (ow_add (r := ((i + 1 : Nat) : Int)) rfl rfl (inc_i64 (by omega)) ?_)
            refine sr_op rfl rfl (ow_move (v := .int .i64 ((i + 1 : Nat) : Int)) rfl ?_)
            refine sr_nil ?_
            exact st_inLoop (st_live [0, 19, 20, 21] (ih37 _ _ _ (by omega) ⟨i + 1, I51, _, _, _, _, _, rfl, rfl, H, ((((hJ35.trans hI41).trans hI50).trans hI51)), (by rw [hst]; simpa only [List.append_assoc] using ha_), by omega⟩))
        · have hc38 := of_decide_eq_false hc38
          refine st_exit rfl ?_
          refine st_region ?_
          refine sr_op rfl rfl (ow_move (v := .pointer (some ⟨gW, 0, none⟩)) rfl ?_)
          refine sr_op rfl rfl (ow_iface (v := .string ⟨#[41]⟩) Tryz.underlying9 rfl rfl ?_)
          refine sr_op rfl rfl (ow_buildSlice H (e := 20) (ps := [(0, .iface 9 (.string ⟨#[41]⟩))]) rfl [.iface 9 (.string ⟨#[41]⟩)] (fun _ => by kernel_rfl) (fun g52 _ H => ?_))
          obtain ⟨I53, hI53, H, hat53⟩ := freeze_at (L' := wrB gW (.slice Aa_ na_ ca_) :: (rowL (.slice Aa_ na_ ca_) cs_ 71 ++ L)) 0 rfl H rfl
          have ha_ := (ha_.mono hI53)
          have hp54 : putsP [.str sRp] = [sgn sRp] := by simp [putsP, putP, r_sRp]
          refine sr_op rfl rfl (ow_call en127 rfl (put_c (items := [.str sRp]) ih H ha_ hat53 ⟨⟨rfl, by unfold S63; decide +kernel⟩, trivial⟩ (by rw [hp54]; have hB_ := hB; rw [hE] at hB_; simp only [List.length_append, List.length_cons, List.length_nil] at hB_ ⊢; omega) (by intro p_ hp_; simp only [List.mem_cons, List.not_mem_nil, or_false] at hp_; rcases hp_ with rfl <;> first | exact Nat.zero_le _ | exact Nat.zero_le _) (by simp)) ?_)
          rintro _ _ ⟨I54, A54, n54, c54, cs54, hI54, H, ha_⟩
          rw [hp54] at ha_
          refine sr_nil ?_
          refine st_inBlock ?_
          refine st_end hb (hR _ _ (.tuple #[]) (res_run (vs := []) Tryz.results211 rfl) ?_)
          rw [List.take_of_length_le (by omega)] at ha_
          exact ⟨_, rfl, I54, _, _, _, _, (((((hI2.trans hI33).trans hI34).trans hJ35).trans hI53).trans hI54), H, by rw [hE]; simpa only [List.append_assoc] using ha_⟩
end Go.Proofs.YtghmjnbpkobooaaGreatDoor
