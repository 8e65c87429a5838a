/-
  Gaps: white space and comments are passed. Tokens written with gaps between them. Plain Lean.
-/
import Derived.Test.YtghmjnbpkobooaaGreatDoorL7
set_option linter.unusedVariables false
set_option linter.unusedSimpArgs false
namespace Go.Proofs.YtghmjnbpkobooaaGreatDoor
open Go Go.RowKit

def GapOk (g : List UInt8) : Prop := ∀ (src : ByteArray) (c : Nat) (Y : List UInt8) (toks : List Tk), src.data.toList.drop c = g ++ Y → lexFrom src c toks = lexFrom src (c + g.length) toks
theorem at_drop {src : ByteArray} {c : Nat} {u : UInt8} {Y : List UInt8} (h : src.data.toList.drop c = u :: Y) : src.data.toList[c]? = some u ∧ c < src.size := by
  have h1 : (src.data.toList.drop c)[0]? = some u := by rw [h]; rfl
  rw [List.getElem?_drop, Nat.add_zero] at h1
  exact ⟨h1, by rw [size_data]; exact (List.getElem?_eq_some_iff.1 h1).1⟩
theorem gap_nil : GapOk [] := fun src c Y toks _ => rfl
theorem gap_app {g k : List UInt8} (h1 : GapOk g) (h2 : GapOk k) : GapOk (g ++ k) := by
  intro src c Y toks h
  rw [List.append_assoc] at h
  rw [h1 src c _ toks h, h2 src (c + g.length) Y toks (by rw [← List.drop_drop, h, List.drop_left]), List.length_append, Nat.add_assoc]
theorem gap_white {u : UInt8} (h : classI (u.toNat : Int) = 1) : GapOk [u] := by
  intro src c Y toks hd
  obtain ⟨h1, h2⟩ := at_drop (Y := Y) hd
  exact lex_space (by rw [byteC_at h1, h]) toks
theorem span_not {w : List UInt8} (hw : ∀ u ∈ w, u ≠ 10) (Y : List UInt8) : spanL not10 (w ++ 10 :: Y) = w.length := by
  rw [span_stop (by rfl), span_all (List.all_eq_true.2 fun u hu => by have := hw u hu; simp [not10, this])]
theorem gap_com {w : List UInt8} (hw : ∀ u ∈ w, u ≠ 10) : GapOk (47 :: 47 :: w ++ [10]) := by
  intro src c Y toks hd
  have hd0 : src.data.toList.drop c = 47 :: (47 :: (w ++ 10 :: Y)) := by rw [hd]; simp
  obtain ⟨h1, h2⟩ := at_drop hd0
  have h47 : classI ((47 : UInt8).toNat : Int) = 4 := by decide +kernel
  have hsp : spanL not10 (47 :: (47 :: (w ++ 10 :: Y))) = w.length + 2 := by
    have := span_not (w := 47 :: 47 :: w) (fun u hu => by
      rcases List.mem_cons.1 hu with rfl | hu
      · decide
      · rcases List.mem_cons.1 hu with rfl | hu
        · decide
        · exact hw u hu) Y
    simpa using this
  have hs : stepO src c = some ([], c + (w.length + 2)) := by
    rw [step_T h2, hd0]
    simp only [stepT]
    rw [if_neg (by omega), if_neg (by omega), if_neg (by omega), if_pos h47, if_pos (by rfl), hsp]
    rfl
  rw [lex_step h2 hs, List.append_nil]
  show lexFrom src (c + (w.length + 2)) toks = _
  have hd2 : src.data.toList.drop (c + (w.length + 2)) = [10] ++ Y := by
    rw [← List.drop_drop, hd0]
    have : (47 :: (47 :: (w ++ 10 :: Y))) = (47 :: 47 :: w) ++ ([10] ++ Y) := by simp
    rw [this, show w.length + 2 = (47 :: 47 :: w : List UInt8).length by simp, List.drop_left]
  rw [gap_white white_10 src _ Y toks hd2]
  congr 1
  simp
  omega
/-- The gaps that the statement on spaces may write. -/
def gapsS (w : ByteArray) : List ByteArray := [⟨#[32]⟩, ⟨#[9]⟩, ⟨#[10]⟩, ⟨#[13, 10]⟩, ⟨#[32, 32]⟩, ((⟨#[47, 47]⟩ : ByteArray) ++ w) ++ ⟨#[10]⟩, ⟨#[32, 47, 47, 32, 10]⟩, ⟨#[10, 47, 47, 10]⟩]
theorem gaps_ok {w : ByteArray} (hw : ∀ u ∈ w.data.toList, u ≠ 10) (hz : w.size ≤ 100) {k : Nat} {g : ByteArray} (h : (gapsS w)[k]? = some g) : GapOk g.data.toList ∧ g.size ≤ 103 := by
  have w32 := gap_white white_32
  have w10 := gap_white white_10
  have w9 : GapOk [9] := gap_white (by decide +kernel)
  have w13 : GapOk [13] := gap_white (by decide +kernel)
  have hm := List.mem_of_getElem? h
  simp only [gapsS, List.mem_cons, List.not_mem_nil, or_false] at hm
  rcases hm with rfl | rfl | rfl | rfl | rfl | rfl | rfl | rfl
  · exact ⟨w32, by decide⟩
  · exact ⟨w9, by decide⟩
  · exact ⟨w10, by decide⟩
  · exact ⟨gap_app w13 w10, by decide⟩
  · exact ⟨gap_app w32 w32, by decide⟩
  · refine ⟨?_, ?_⟩
    · have := gap_com hw
      rw [app_list, app_list]
      exact this
    · rw [app_size, app_size]
      show 2 + w.size + 1 ≤ 103
      omega
  · exact ⟨gap_app w32 (gap_com (w := [32]) (by decide)), by decide⟩
  · exact ⟨gap_app w10 (gap_com (w := []) (by decide)), by decide⟩
/-- What is written so far is read as these tokens, whatever follows. -/
def ReadS (s : ByteArray) (l : List Tk) : Prop := ∃ m, sameTs l m = true ∧ ∀ x : ByteArray, lexFrom (s ++ x) 0 [] = lexFrom (s ++ x) s.size m
theorem read_start : ReadS ⟨#[10]⟩ [] := by
  refine ⟨[], rfl, fun x => ?_⟩
  exact gap_white white_10 ((⟨#[10]⟩ : ByteArray) ++ x) 0 x.data.toList [] (by rw [List.drop_zero, app_list])
theorem same_snoc : ∀ {l m : List Tk} {t x : Tk}, sameTs l m = true → sameTk t x = true → sameTs (l ++ [t]) (m ++ [x]) = true
  | [], [], t, x, _, h => by
    show (sameTk t x && true) = true
    rw [h]
    rfl
  | [], y :: m, _, _, h, _ => by cases h
  | y :: l, [], _, _, h, _ => by cases h
  | y :: l, z :: m, t, x, h, h2 => by
    simp only [sameTs, pairB, Bool.and_eq_true] at h
    simp only [sameTs, List.cons_append, pairB, Bool.and_eq_true]
    exact ⟨h.1, same_snoc h.2 h2⟩
theorem read_next {s : ByteArray} {l : List Tk} {t : Tk} {g : ByteArray} (h : ReadS s l) (hv : validB t = true) (hg : GapOk g.data.toList) : ReadS (s ++ ((spellS t ++ ⟨#[32]⟩) ++ g)) (l ++ [t]) := by
  obtain ⟨m, h1, h2⟩ := h
  obtain ⟨u, A, hw, hs, hc1, hcm, _⟩ := word_valid hv
  refine ⟨m ++ [mkTk t.kind t.text t.n (0 + (s.size : Int))], same_snoc h1 (same_norm _ _), fun x => ?_⟩
  have e : (s ++ ((spellS t ++ ⟨#[32]⟩) ++ g)) ++ x = s ++ (((spellS t ++ ⟨#[32]⟩) ++ g) ++ x) := by
    apply bytes_ext
    simp only [app_list, List.append_assoc]
  have hd : (s ++ (((spellS t ++ ⟨#[32]⟩) ++ g) ++ x)).data.toList.drop s.size = (u :: A) ++ 32 :: (g.data.toList ++ x.data.toList) := by
    rw [app_list, size_data, List.drop_left, app_list, app_list, app_list, hw]
    simp
  have hwz : (spellS t).size = (u :: A).length := by rw [size_data, hw]
  rw [e, h2]
  generalize s ++ (((spellS t ++ ⟨#[32]⟩) ++ g) ++ x) = src at hd ⊢
  obtain ⟨_, hlt⟩ := at_drop hd
  have hst : stepO src s.size = some (shiftR s.size ([mkTk t.kind t.text t.n 0], (u :: A).length)) := by
    rw [step_T hlt, hd, stepT_white _ white_32 hc1 (fun e => by rw [hcm] at e; cases e), hs]
    rfl
  have hd2 : src.data.toList.drop (s.size + (u :: A).length) = [32] ++ (g.data.toList ++ x.data.toList) := by rw [← List.drop_drop, hd, List.drop_left]; rfl
  have hd3 : src.data.toList.drop (s.size + (u :: A).length + 1) = g.data.toList ++ x.data.toList := by rw [← List.drop_drop, hd2]; rfl
  rw [lex_step hlt hst]
  show lexFrom src (s.size + (u :: A).length) (m ++ [mkTk t.kind t.text t.n (0 + (s.size : Int))]) = _
  rw [gap_white white_32 src _ _ _ hd2]
  show lexFrom src (s.size + (u :: A).length + 1) _ = _
  rw [hg src _ _ _ hd3, app_size, app_size, app_size, hwz, ← size_data]
  congr 1
  show _ = s.size + ((u :: A).length + 1 + g.size)
  omega
theorem read_lex {s : ByteArray} {l : List Tk} (h : ReadS s l) (hz : s.size ≤ 65536) : ∃ m, lexE s = (m, 0, 0) ∧ sameTs l m = true := by
  obtain ⟨m, h1, h2⟩ := h
  have e : s ++ (⟨#[]⟩ : ByteArray) = s := by
    apply bytes_ext
    rw [app_list]
    simp
  have h3 := h2 ⟨#[]⟩
  rw [e, lex_end _ (Nat.le_refl _)] at h3
  exact ⟨m, by rw [lexE_small hz, h3], h1⟩
theorem spell_one (t : Tk) : joinS ([t].map spellS) ⟨#[32]⟩ = spellS t := by
  apply bytes_ext
  simp [joinS, Lib.join]
end Go.Proofs.YtghmjnbpkobooaaGreatDoor
