/-
  Walks: sane.
-/
import Derived.Test.YtghmjnbpkobooaaGreatDoorYE
import Derived.Test.YtghmjnbpkobooaaGreatDoorYF
import Derived.Test.YtghmjnbpkobooaaGreatDoorBE
set_option linter.unusedVariables false
set_option linter.unusedSimpArgs false
set_option maxRecDepth 10000
set_option maxHeartbeats 4000000
namespace Go.Proofs.YtghmjnbpkobooaaGreatDoor
open Go Go.RowKit

def sX (s : ByteArray) : Ex := ⟨1, 0, 0, s, []⟩
def clerkS : ByteArray := ⟨#[99, 108, 101, 114, 107]⟩
def chiefS : ByteArray := ⟨#[99, 104, 105, 101, 102]⟩
def loanS : ByteArray := ⟨#[108, 111, 97, 110]⟩
def bankS : ByteArray := ⟨#[98, 97, 110, 107]⟩
def pS : ByteArray := ⟨#[112]⟩
def oneX : Ex := ⟨3, 1, 0, nilS, [sX chiefS]⟩
def uptoE : Ex := ⟨4, 100, 0, nilS, [sX clerkS, oneX]⟩
def weightE : Ex := ⟨2, 3, 0, clerkS, []⟩
def twoX : Ex := ⟨3, 2, 0, nilS, [sX chiefS, weightE, uptoE]⟩
def wholeP : Po := ⟨bankS, [loanS], [clerkS, chiefS], [⟨loanS, 0, 60, twoX⟩], sX chiefS, 3⟩
def shortP : Po := ⟨pS, [], [], [], sX clerkS, 2⟩
def wholeS : ByteArray := ⟨#[112, 111, 108, 105, 99, 121, 32, 98, 97, 110, 107, 32, 59, 32, 109, 111, 100, 101, 32, 98, 111, 116, 104, 32, 59, 32, 111, 102, 102, 105, 99, 101, 32, 99, 108, 101, 114, 107, 32, 59, 32, 111, 102, 102, 105, 99, 101, 32, 99, 104, 105, 101, 102, 32, 59, 32, 107, 105, 110, 100, 32, 108, 111, 97, 110, 32, 59, 32, 114, 117, 108, 101, 32, 108, 111, 97, 110, 32, 116, 104, 105, 110, 107, 32, 54, 48, 32, 61, 32, 50, 32, 111, 102, 32, 40, 32, 115, 111, 109, 101, 32, 99, 104, 105, 101, 102, 32, 44, 32, 119, 101, 105, 103, 104, 116, 32, 51, 32, 111, 102, 32, 99, 108, 101, 114, 107, 32, 44, 32, 117, 112, 116, 111, 32, 49, 48, 48, 32, 40, 32, 115, 111, 109, 101, 32, 99, 108, 101, 114, 107, 32, 41, 32, 101, 108, 115, 101, 32, 40, 32, 49, 32, 111, 102, 32, 40, 32, 115, 111, 109, 101, 32, 99, 104, 105, 101, 102, 32, 41, 32, 41, 32, 41, 32, 59, 32, 99, 104, 97, 110, 103, 101, 32, 61, 32, 115, 111, 109, 101, 32, 99, 104, 105, 101, 102, 32, 59]⟩
def shortS : ByteArray := ⟨#[112, 111, 108, 105, 99, 121, 32, 112, 59, 109, 111, 100, 101, 32, 110, 101, 119, 59, 99, 104, 97, 110, 103, 101, 61, 115, 111, 109, 101, 32, 99, 108, 101, 114, 107, 59]⟩
def shortT : ByteArray := ⟨#[112, 111, 108, 105, 99, 121, 32, 112, 32, 59, 32, 109, 111, 100, 101, 32, 110, 101, 119, 32, 59, 32, 99, 104, 97, 110, 103, 101, 32, 61, 32, 115, 111, 109, 101, 32, 99, 108, 101, 114, 107, 32, 59]⟩
theorem wrong0 : parseE ⟨#[]⟩ = (zeroP, 0, 190) := by kernel_rfl
theorem wrong1 : parseE ⟨#[112, 111, 108, 105, 99, 121, 32, 111, 108, 100, 59]⟩ = (zeroP, 7, 190) := by kernel_rfl
theorem wrong2 : parseE ⟨#[112, 111, 108, 105, 99, 121, 32, 112, 59, 109, 111, 100, 101, 32, 115, 111, 109, 101, 59]⟩ = (zeroP, 14, 190) := by kernel_rfl
theorem wrong3 : parseE ⟨#[112, 111, 108, 105, 99, 121, 32, 112, 59, 109, 111, 100, 101, 32, 111, 108, 100, 59, 99, 104, 97, 110, 103, 101]⟩ = (zeroP, 24, 190) := by kernel_rfl
theorem wrong4 : parseE ⟨#[112, 111, 108, 105, 99, 121, 32, 112, 59, 32, 109, 111, 100, 101, 32, 111, 108, 100, 59, 32, 99, 104, 97, 110, 103, 101, 32, 61, 32, 50, 32, 111, 102, 32, 40, 41, 59]⟩ = (zeroP, 35, 190) := by kernel_rfl
theorem short_parse : parseE shortS = (shortP, 0, 0) := by kernel_rfl
theorem whole_parse : parseE wholeS = (wholeP, 0, 0) := by kernel_rfl
theorem whole_print : printE wholeP = (wholeS, 0) := by kernel_rfl
theorem short_print : printE shortP = (shortT, 0) := by kernel_rfl
theorem zero_print : printE zeroP = (nilS, 190) := by kernel_rfl
theorem Parse_as {B I L w} (H : Hp B I w L) {src : ByteArray} (hS : S63 src) (hlib : LibAt I) {x : Po} {a k : Int} (h : parseE src = (x, a, k)) : Calls Tryz.prog 18 #[.string src] w (Rt fun r w' => ∃ I' us, Le I I' ∧ Hp B I' w' L ∧ r = .tuple #[.agg us.toArray, .int .i64 a, .int .i64 k] ∧ RepL I' (encPo x) us) := by
  refine Calls.mono (Parse_c H src hS hlib) fun e w' he => ?_
  obtain ⟨_, rfl, I', us, x', a', k', hI, H', rfl, hk, hx⟩ := he
  rw [h] at hk
  injection hk with h1 h2
  injection h2 with h2 h3
  subst h1
  subst h2
  subst h3
  exact ⟨_, rfl, I', us, hI, H', rfl, hx⟩
theorem Print_as {B I L w} (H : Hp B I w L) {p : Po} {us : List Value} (hp : RepL I (encPo p) us) (hT : (policyP p).length ≤ 100000) (hlib : LibAt I) {s : ByteArray} {k : Int} (h : printE p = (s, k)) : Calls Tryz.prog 16 #[.agg us.toArray] w (Rt fun r w' => r = .tuple #[.string s, .int .i64 k] ∧ Hp B I w' L) := by
  have h1 := Print_c H hp hT hlib
  rw [h] at h1
  exact h1
theorem rSame_as {B I L w} {p q : Po} {us ws : List Value} (H : Hp B I w L) (hp : RepL I (encPo p) us) (hq : RepL I (encPo q) ws) {b : Bool} (h : sameP p q = b) : Calls Tryz.prog 34 #[.agg us.toArray, .agg ws.toArray] w (Rt fun r w' => r = .bool b ∧ Hp B I w' L) := by
  have h1 := rSame_c H hp hq
  rw [h] at h1
  exact h1
theorem some_rep {I : Im} {s : ByteArray} (h : S63 s) : RepL I (encEx (sX s)) [.int .i64 1, .int .i64 0, .int .i64 0, .string s, .slice none 0 0] := (ex_iff (x := sX s)).2 ⟨_, rfl, i64_1, i64_0, i64_0, h, RepS.nil _ _ _⟩
theorem some_c {B I L w} (H : Hp B I w L) (s : ByteArray) : Calls Tryz.prog 39 #[.string s] w (Rt fun r w' => r = .agg #[.int .i64 1, .int .i64 0, .int .i64 0, .string s, .slice none 0 0] ∧ Hp B I w' L) := by
  refine calls_st (n := 5) Tryz.func39 rfl rfl rfl ?_
  intro G bF cs hb hfn hR hP
  simp only [ini]
  refine st_seq ?_
  refine st_region ?_
  refine sr_op rfl rfl (ow_alloc ty26 H [.int .i64 0, .int .i64 0, .int .i64 0, .string ⟨#[]⟩, .slice none 0 0] rfl (fun g1 _ H => ?_))
  refine sr_nil ?_
  refine st_seq ?_
  refine st_region ?_
  refine sr_op rfl rfl (ow_move (v := .string s) rfl ?_)
  refine sr_op rfl rfl (ow_build (ps := [(0, .int .i64 1), (3, .string s)]) (v := .agg #[.int .i64 1, .int .i64 0, .int .i64 0, .string s, .slice none 0 0]) rfl (fun _ => by kernel_rfl) ?_)
  refine sr_op rfl rfl (ow_store ty26 H rfl (v := .agg #[.int .i64 1, .int .i64 0, .int .i64 0, .string s, .slice none 0 0]) rfl [.int .i64 1, .int .i64 0, .int .i64 0, .string s, .slice none 0 0] rfl rfl rfl 0 rfl rfl (fun _ H => ?_))
  refine sr_nil ?_
  refine st_ret hb (hR _ _ (.agg #[.int .i64 1, .int .i64 0, .int .i64 0, .string s, .slice none 0 0]) (res_run (vs := [.agg #[.int .i64 1, .int .i64 0, .int .i64 0, .string s, .slice none 0 0]]) Tryz.results39 ⟨_, _, rfl, resV_own (v := .agg #[.int .i64 1, .int .i64 0, .int .i64 0, .string s, .slice none 0 0]) ty26 H rfl 0 rfl rfl rfl rfl, rfl⟩) ?_)
  exact ⟨_, rfl, rfl, (H.drop 1)⟩
theorem declared19_c {B I L w} (H : Hp B I w L) : Calls Tryz.prog 86 #[] w (Rt fun r w' => ∃ I' us, Le I I' ∧ Hp B I' w' L ∧ r = .agg us.toArray ∧ RepL I' (encPo wholeP) us) := by
  refine calls_st (n := 25) Tryz.func86 rfl rfl rfl ?_
  intro G bF cs hb hfn hR hP
  simp only [ini]
  refine st_seq ?_
  refine st_region ?_
  refine sr_op rfl rfl (ow_alloc ty28 H [.string ⟨#[]⟩, .slice none 0 0, .slice none 0 0, .slice none 0 0, .int .i64 0, .int .i64 0, .int .i64 0, .string ⟨#[]⟩, .slice none 0 0, .int .i64 0] rfl (fun g1 _ H => ?_))
  refine sr_nil ?_
  refine st_seq ?_
  refine st_region ?_
  refine sr_op rfl rfl (ow_call en39 rfl (some_c H chiefS) ?_)
  rintro _ _ ⟨rfl, H⟩
  refine sr_op rfl rfl (ow_buildSlice H (e := 26) (ps := [(0, .agg #[.int .i64 1, .int .i64 0, .int .i64 0, .string chiefS, .slice none 0 0])]) rfl [.int .i64 1, .int .i64 0, .int .i64 0, .string chiefS, .slice none 0 0] (fun _ => by kernel_rfl) (fun g2 _ H => ?_))
  obtain ⟨I3, hI3, H, hl3⟩ := lit_done (enc := encEx) (sz := 5) (n := 1) [(sX chiefS)] rfl (by omega) H ⟨(some_rep (s := chiefS) (by unfold S63; decide +kernel)), rfl, rfl⟩
  refine sr_op rfl rfl (ow_build (ps := [(0, .int .i64 3), (1, .int .i64 1), (4, .slice (some ⟨g2, 0, none⟩) 1 1)]) (v := .agg #[.int .i64 3, .int .i64 1, .int .i64 0, .string ⟨#[]⟩, .slice (some ⟨g2, 0, none⟩) 1 1]) rfl (fun _ => by kernel_rfl) ?_)
  refine sr_op rfl rfl (ow_alloc ty26 H [.int .i64 0, .int .i64 0, .int .i64 0, .string ⟨#[]⟩, .slice none 0 0] rfl (fun g4 _ H => ?_))
  refine sr_op rfl rfl (ow_store ty26 H rfl (v := .agg #[.int .i64 3, .int .i64 1, .int .i64 0, .string ⟨#[]⟩, .slice (some ⟨g2, 0, none⟩) 1 1]) rfl [.int .i64 3, .int .i64 1, .int .i64 0, .string ⟨#[]⟩, .slice (some ⟨g2, 0, none⟩) 1 1] rfl rfl rfl 0 rfl rfl (fun _ H => ?_))
  refine sr_nil ?_
  refine st_seq ?_
  refine st_drawU 5 (kn [kDat (encEx (sX clerkS)), kVal (.agg #[.int .i64 3, .int .i64 1, .int .i64 0, .string ⟨#[]⟩, .slice (some ⟨g2, 0, none⟩) 1 1]), kSl 5 (List.map encEx [sX clerkS, oneX]) 2, kDat (encEx uptoE), kPtr]) (on [oNo, oNo, oNo, oNo, oPtr [.int .i64 0, .int .i64 0, .int .i64 0, .string ⟨#[]⟩, .slice none 0 0] 26]) (by kernel_rfl) (kn_mono ⟨kDat_mono _, kVal_mono _, kSl_mono _ _ _, kDat_mono _, kPtr_mono, trivial⟩) H [0, 1, 2, 3, 4] rfl ⟨?_, ?_, ?_, ?_, ?_, trivial⟩ ?_
  · refine ⟨_, _, rfl, rfl, fun Iu5 Lx5 M5 w_ hI5 H hk hm => ?_⟩
    refine ⟨[], trivial, ?_⟩
    refine  (ow_call en39 rfl (some_c H clerkS) ?_)
    rintro _ _ ⟨rfl, H⟩
    exact ⟨_, Iu5, rfl, (Le.refl _), H, ⟨_, rfl, (some_rep (s := clerkS) (by unfold S63; decide +kernel))⟩⟩
  · refine ⟨_, _, rfl, rfl, fun Iu5 Lx5 M5 w_ hI5 H hk hm => ?_⟩
    refine ⟨[(1, .pointer (some ⟨g4, 0, none⟩))], ⟨(hm 1 rfl), trivial⟩, ?_⟩
    have Hs := H.sub (List.sublist_append_right _ _)
    refine  (ow_load (v := .agg #[.int .i64 3, .int .i64 1, .int .i64 0, .string ⟨#[]⟩, .slice (some ⟨g2, 0, none⟩) 1 1]) ty26 Hs rfl 0 rfl rfl rfl rfl ?_)
    exact ⟨_, Iu5, rfl, (Le.refl _), H, rfl⟩
  · refine ⟨_, _, rfl, rfl, fun Iu5 Lx5 M5 w_ hI5 H hk hm => ?_⟩
    obtain ⟨us5_0, hv5_0, hd5_0⟩ := hk 0 8 rfl (by kernel_rfl) rfl
    have dd5_0 := hd5_0
    obtain ⟨dd5_0v4, rfl, dd5_0_0, dd5_0_1, dd5_0_2, dd5_0_3, dd5_0_4⟩ := ex_iff.1 hd5_0
    obtain ⟨dd5_0A4, dd5_0c4, rfl, dd5_0m4, dd5_0M4, dd5_0_4⟩ := RepS.open_ dd5_0_4
    have hv5_1 : lk M5 9 = .agg #[.int .i64 3, .int .i64 1, .int .i64 0, .string ⟨#[]⟩, .slice (some ⟨g2, 0, none⟩) 1 1] := hk 1 9 rfl (by kernel_rfl) rfl
    refine ⟨[(8, .agg #[.int .i64 ((sX clerkS).kind), .int .i64 ((sX clerkS).n), .int .i64 ((sX clerkS).no), .string ((sX clerkS).name), .slice dd5_0A4 ((sX clerkS).l.length) dd5_0c4]), (9, .agg #[.int .i64 3, .int .i64 1, .int .i64 0, .string ⟨#[]⟩, .slice (some ⟨g2, 0, none⟩) 1 1])], ⟨hv5_0, hv5_1, trivial⟩, ?_⟩
    refine  (ow_buildSlice H (e := 26) (ps := [(0, .agg #[.int .i64 ((sX clerkS).kind), .int .i64 ((sX clerkS).n), .int .i64 ((sX clerkS).no), .string ((sX clerkS).name), .slice dd5_0A4 ((sX clerkS).l.length) dd5_0c4]), (1, .agg #[.int .i64 3, .int .i64 1, .int .i64 0, .string ⟨#[]⟩, .slice (some ⟨g2, 0, none⟩) 1 1])]) rfl [.int .i64 ((sX clerkS).kind), .int .i64 ((sX clerkS).n), .int .i64 ((sX clerkS).no), .string ((sX clerkS).name), .slice dd5_0A4 ((sX clerkS).l.length) dd5_0c4, .int .i64 3, .int .i64 1, .int .i64 0, .string ⟨#[]⟩, .slice (some ⟨g2, 0, none⟩) 1 1] (fun _ => by kernel_rfl) (fun g6 _ H => ?_))
    have hl3 := (hl3.mono hI5)
    obtain ⟨I7, hI7, H, hl7⟩ := lit_done (enc := encEx) (sz := 5) (n := 2) [(sX clerkS), oneX] rfl (by omega) H ⟨dd5_0, rfl, ⟨((ex_iff (x := oneX)).2 ⟨_, rfl, (show I64 3 from by constructor <;> decide), (show I64 1 from by constructor <;> decide), i64_0, (by unfold S63; decide +kernel), hl3⟩), rfl, rfl⟩⟩
    exact ⟨_, I7, rfl, hI7, H, ⟨_, rfl, hl7⟩⟩
  · refine ⟨_, _, rfl, rfl, fun Iu5 Lx5 M5 w_ hI5 H hk hm => ?_⟩
    obtain ⟨A5_2, hv5_2, hs05_2⟩ := hk 2 10 rfl (by kernel_rfl) rfl
    have hs5_2 : RepS encEx Iu5 5 [sX clerkS, oneX] (.slice A5_2 2 2) := hs05_2
    refine ⟨[(10, .slice A5_2 2 2)], ⟨hv5_2, trivial⟩, ?_⟩
    refine  (ow_build (ps := [(0, .int .i64 4), (1, .int .i64 100), (4, .slice A5_2 2 2)]) (v := .agg #[.int .i64 4, .int .i64 100, .int .i64 0, .string ⟨#[]⟩, .slice A5_2 2 2]) rfl (fun _ => by kernel_rfl) ?_)
    exact ⟨_, Iu5, rfl, (Le.refl _), H, ⟨_, rfl, ((ex_iff (x := uptoE)).2 ⟨_, rfl, (show I64 4 from by constructor <;> decide), (show I64 100 from by constructor <;> decide), i64_0, (by unfold S63; decide +kernel), hs5_2⟩)⟩⟩
  · refine ⟨_, _, rfl, rfl, fun Iu5 Lx5 M5 w_ hI5 H hk hm => ?_⟩
    refine ⟨[], trivial, ?_⟩
    refine  (ow_alloc ty26 H [.int .i64 0, .int .i64 0, .int .i64 0, .string ⟨#[]⟩, .slice none 0 0] rfl (fun g8 _ H => ?_))
    exact ⟨_, Iu5, rfl, (Le.refl _), H, ⟨_, rfl⟩⟩
  intro Iu5 Lx5 M5 w_ hI5 H hp hk hm
  obtain ⟨us5_3, hv5_3, hd5_3⟩ := hk 3 11 rfl rfl
  have dd5_3 := hd5_3
  obtain ⟨dd5_3v4, rfl, dd5_3_0, dd5_3_1, dd5_3_2, dd5_3_3, dd5_3_4⟩ := ex_iff.1 hd5_3
  obtain ⟨dd5_3A4, dd5_3c4, rfl, dd5_3m4, dd5_3M4, dd5_3_4⟩ := RepS.open_ dd5_3_4
  obtain ⟨g5_4, hv5_4⟩ := hk 4 2 rfl rfl
  have hp2 : Lx5.Perm (oPtr [.int .i64 0, .int .i64 0, .int .i64 0, .string ⟨#[]⟩, .slice none 0 0] 26 (lk M5 2) ++ []) := hp
  rw [hv5_4] at hp2
  obtain rfl : Lx5 = [(g5_4, Ob [.int .i64 0, .int .i64 0, .int .i64 0, .string ⟨#[]⟩, .slice none 0 0] 26)] := List.perm_singleton.1 hp2
  refine sr_known [(11, .agg #[.int .i64 uptoE.kind, .int .i64 uptoE.n, .int .i64 uptoE.no, .string uptoE.name, .slice dd5_3A4 uptoE.l.length dd5_3c4]), (2, .pointer (some ⟨g5_4, 0, none⟩)), (0, .pointer (some ⟨g1, 0, none⟩))] ⟨hv5_3, hv5_4, (hm 0 rfl), trivial⟩ ?_
  have H : Hp B Iu5 _ ((g5_4, Ob [.int .i64 0, .int .i64 0, .int .i64 0, .string ⟨#[]⟩, .slice none 0 0] 26) :: (g4, Ob [.int .i64 3, .int .i64 1, .int .i64 0, .string ⟨#[]⟩, .slice (some ⟨g2, 0, none⟩) 1 1] 26) :: (g1, Ob [.string ⟨#[]⟩, .slice none 0 0, .slice none 0 0, .slice none 0 0, .int .i64 0, .int .i64 0, .int .i64 0, .string ⟨#[]⟩, .slice none 0 0, .int .i64 0] 28) :: L) := H
  refine sr_op rfl rfl (ow_store ty26 H rfl (v := .agg #[.int .i64 uptoE.kind, .int .i64 uptoE.n, .int .i64 uptoE.no, .string uptoE.name, .slice dd5_3A4 uptoE.l.length dd5_3c4]) rfl [.int .i64 uptoE.kind, .int .i64 uptoE.n, .int .i64 uptoE.no, .string uptoE.name, .slice dd5_3A4 uptoE.l.length dd5_3c4] rfl rfl rfl 0 rfl rfl (fun _ H => ?_))
  refine sr_nil ?_
  refine st_seq ?_
  refine st_region ?_
  refine sr_op rfl rfl (ow_build (ps := [(0, .int .i64 2), (1, .int .i64 3), (3, .string ⟨#[99, 108, 101, 114, 107]⟩)]) (v := .agg #[.int .i64 2, .int .i64 3, .int .i64 0, .string ⟨#[99, 108, 101, 114, 107]⟩, .slice none 0 0]) rfl (fun _ => by kernel_rfl) ?_)
  refine sr_op rfl rfl (ow_alloc ty26 H [.int .i64 0, .int .i64 0, .int .i64 0, .string ⟨#[]⟩, .slice none 0 0] rfl (fun g9 _ H => ?_))
  refine sr_op rfl rfl (ow_store ty26 H rfl (v := .agg #[.int .i64 2, .int .i64 3, .int .i64 0, .string ⟨#[99, 108, 101, 114, 107]⟩, .slice none 0 0]) rfl [.int .i64 2, .int .i64 3, .int .i64 0, .string ⟨#[99, 108, 101, 114, 107]⟩, .slice none 0 0] rfl rfl rfl 0 rfl rfl (fun _ H => ?_))
  refine sr_nil ?_
  refine st_seq ?_
  refine st_drawU 6 (kn [kDat (encEx (sX chiefS)), kVal (.agg #[.int .i64 2, .int .i64 3, .int .i64 0, .string ⟨#[99, 108, 101, 114, 107]⟩, .slice none 0 0]), kVal (.agg #[.int .i64 uptoE.kind, .int .i64 uptoE.n, .int .i64 uptoE.no, .string uptoE.name, .slice dd5_3A4 uptoE.l.length dd5_3c4]), kSl 5 (List.map encEx [sX chiefS, weightE, uptoE]) 3, kDat (encEx twoX), kPtr]) (on [oNo, oNo, oNo, oNo, oNo, oPtr [.int .i64 0, .int .i64 0, .int .i64 0, .string ⟨#[]⟩, .slice none 0 0] 26]) (by kernel_rfl) (kn_mono ⟨kDat_mono _, kVal_mono _, kVal_mono _, kSl_mono _ _ _, kDat_mono _, kPtr_mono, trivial⟩) H [0, 1, 2, 3, 4, 5] rfl ⟨?_, ?_, ?_, ?_, ?_, ?_, trivial⟩ ?_
  · refine ⟨_, _, rfl, rfl, fun Iu10 Lx10 M10 w_ hI10 H hk hm => ?_⟩
    refine ⟨[], trivial, ?_⟩
    refine  (ow_call en39 rfl (some_c H chiefS) ?_)
    rintro _ _ ⟨rfl, H⟩
    exact ⟨_, Iu10, rfl, (Le.refl _), H, ⟨_, rfl, (some_rep (s := chiefS) (by unfold S63; decide +kernel))⟩⟩
  · refine ⟨_, _, rfl, rfl, fun Iu10 Lx10 M10 w_ hI10 H hk hm => ?_⟩
    refine ⟨[(3, .pointer (some ⟨g9, 0, none⟩))], ⟨(hm 3 rfl), trivial⟩, ?_⟩
    have Hs := H.sub (List.sublist_append_right _ _)
    refine  (ow_load (v := .agg #[.int .i64 2, .int .i64 3, .int .i64 0, .string ⟨#[99, 108, 101, 114, 107]⟩, .slice none 0 0]) ty26 Hs rfl 0 rfl rfl rfl rfl ?_)
    exact ⟨_, Iu10, rfl, (Le.refl _), H, rfl⟩
  · refine ⟨_, _, rfl, rfl, fun Iu10 Lx10 M10 w_ hI10 H hk hm => ?_⟩
    refine ⟨[(2, .pointer (some ⟨g5_4, 0, none⟩))], ⟨(hm 2 rfl), trivial⟩, ?_⟩
    have Hs := H.sub (List.sublist_append_right _ _)
    refine  (ow_load (v := .agg #[.int .i64 uptoE.kind, .int .i64 uptoE.n, .int .i64 uptoE.no, .string uptoE.name, .slice dd5_3A4 uptoE.l.length dd5_3c4]) ty26 Hs rfl 1 rfl rfl rfl rfl ?_)
    exact ⟨_, Iu10, rfl, (Le.refl _), H, rfl⟩
  · refine ⟨_, _, rfl, rfl, fun Iu10 Lx10 M10 w_ hI10 H hk hm => ?_⟩
    obtain ⟨us10_0, hv10_0, hd10_0⟩ := hk 0 13 rfl (by kernel_rfl) rfl
    have dd10_0 := hd10_0
    obtain ⟨dd10_0v4, rfl, dd10_0_0, dd10_0_1, dd10_0_2, dd10_0_3, dd10_0_4⟩ := ex_iff.1 hd10_0
    obtain ⟨dd10_0A4, dd10_0c4, rfl, dd10_0m4, dd10_0M4, dd10_0_4⟩ := RepS.open_ dd10_0_4
    have hv10_1 : lk M10 14 = .agg #[.int .i64 2, .int .i64 3, .int .i64 0, .string ⟨#[99, 108, 101, 114, 107]⟩, .slice none 0 0] := hk 1 14 rfl (by kernel_rfl) rfl
    have hv10_2 : lk M10 15 = .agg #[.int .i64 uptoE.kind, .int .i64 uptoE.n, .int .i64 uptoE.no, .string uptoE.name, .slice dd5_3A4 uptoE.l.length dd5_3c4] := hk 2 15 rfl (by kernel_rfl) rfl
    refine ⟨[(13, .agg #[.int .i64 ((sX chiefS).kind), .int .i64 ((sX chiefS).n), .int .i64 ((sX chiefS).no), .string ((sX chiefS).name), .slice dd10_0A4 ((sX chiefS).l.length) dd10_0c4]), (14, .agg #[.int .i64 2, .int .i64 3, .int .i64 0, .string ⟨#[99, 108, 101, 114, 107]⟩, .slice none 0 0]), (15, .agg #[.int .i64 uptoE.kind, .int .i64 uptoE.n, .int .i64 uptoE.no, .string uptoE.name, .slice dd5_3A4 uptoE.l.length dd5_3c4])], ⟨hv10_0, hv10_1, hv10_2, trivial⟩, ?_⟩
    refine  (ow_buildSlice H (e := 26) (ps := [(0, .agg #[.int .i64 ((sX chiefS).kind), .int .i64 ((sX chiefS).n), .int .i64 ((sX chiefS).no), .string ((sX chiefS).name), .slice dd10_0A4 ((sX chiefS).l.length) dd10_0c4]), (1, .agg #[.int .i64 2, .int .i64 3, .int .i64 0, .string ⟨#[99, 108, 101, 114, 107]⟩, .slice none 0 0]), (2, .agg #[.int .i64 uptoE.kind, .int .i64 uptoE.n, .int .i64 uptoE.no, .string uptoE.name, .slice dd5_3A4 uptoE.l.length dd5_3c4])]) rfl [.int .i64 ((sX chiefS).kind), .int .i64 ((sX chiefS).n), .int .i64 ((sX chiefS).no), .string ((sX chiefS).name), .slice dd10_0A4 ((sX chiefS).l.length) dd10_0c4, .int .i64 2, .int .i64 3, .int .i64 0, .string ⟨#[99, 108, 101, 114, 107]⟩, .slice none 0 0, .int .i64 uptoE.kind, .int .i64 uptoE.n, .int .i64 uptoE.no, .string uptoE.name, .slice dd5_3A4 uptoE.l.length dd5_3c4] (fun _ => by kernel_rfl) (fun g11 _ H => ?_))
    have dd5_3 := (dd5_3.mono hI10)
    obtain ⟨I12, hI12, H, hl12⟩ := lit_done (enc := encEx) (sz := 5) (n := 3) [(sX chiefS), weightE, uptoE] rfl (by omega) H ⟨dd10_0, rfl, ⟨((ex_iff (x := weightE)).2 ⟨_, rfl, (show I64 2 from by constructor <;> decide), (show I64 3 from by constructor <;> decide), i64_0, (by unfold S63; decide +kernel), RepS.nil _ _ _⟩), rfl, ⟨dd5_3, rfl, rfl⟩⟩⟩
    exact ⟨_, I12, rfl, hI12, H, ⟨_, rfl, hl12⟩⟩
  · refine ⟨_, _, rfl, rfl, fun Iu10 Lx10 M10 w_ hI10 H hk hm => ?_⟩
    obtain ⟨A10_3, hv10_3, hs010_3⟩ := hk 3 16 rfl (by kernel_rfl) rfl
    have hs10_3 : RepS encEx Iu10 5 [sX chiefS, weightE, uptoE] (.slice A10_3 3 3) := hs010_3
    refine ⟨[(16, .slice A10_3 3 3)], ⟨hv10_3, trivial⟩, ?_⟩
    refine  (ow_build (ps := [(0, .int .i64 3), (1, .int .i64 2), (4, .slice A10_3 3 3)]) (v := .agg #[.int .i64 3, .int .i64 2, .int .i64 0, .string ⟨#[]⟩, .slice A10_3 3 3]) rfl (fun _ => by kernel_rfl) ?_)
    exact ⟨_, Iu10, rfl, (Le.refl _), H, ⟨_, rfl, ((ex_iff (x := twoX)).2 ⟨_, rfl, (show I64 3 from by constructor <;> decide), (show I64 2 from by constructor <;> decide), i64_0, (by unfold S63; decide +kernel), hs10_3⟩)⟩⟩
  · refine ⟨_, _, rfl, rfl, fun Iu10 Lx10 M10 w_ hI10 H hk hm => ?_⟩
    refine ⟨[], trivial, ?_⟩
    refine  (ow_alloc ty26 H [.int .i64 0, .int .i64 0, .int .i64 0, .string ⟨#[]⟩, .slice none 0 0] rfl (fun g13 _ H => ?_))
    exact ⟨_, Iu10, rfl, (Le.refl _), H, ⟨_, rfl⟩⟩
  intro Iu10 Lx10 M10 w_ hI10 H hp hk hm
  obtain ⟨us10_4, hv10_4, hd10_4⟩ := hk 4 17 rfl rfl
  have dd10_4 := hd10_4
  obtain ⟨dd10_4v4, rfl, dd10_4_0, dd10_4_1, dd10_4_2, dd10_4_3, dd10_4_4⟩ := ex_iff.1 hd10_4
  obtain ⟨dd10_4A4, dd10_4c4, rfl, dd10_4m4, dd10_4M4, dd10_4_4⟩ := RepS.open_ dd10_4_4
  obtain ⟨g10_5, hv10_5⟩ := hk 5 4 rfl rfl
  have hp2 : Lx10.Perm (oPtr [.int .i64 0, .int .i64 0, .int .i64 0, .string ⟨#[]⟩, .slice none 0 0] 26 (lk M10 4) ++ []) := hp
  rw [hv10_5] at hp2
  obtain rfl : Lx10 = [(g10_5, Ob [.int .i64 0, .int .i64 0, .int .i64 0, .string ⟨#[]⟩, .slice none 0 0] 26)] := List.perm_singleton.1 hp2
  refine sr_known [(17, .agg #[.int .i64 twoX.kind, .int .i64 twoX.n, .int .i64 twoX.no, .string twoX.name, .slice dd10_4A4 twoX.l.length dd10_4c4]), (4, .pointer (some ⟨g10_5, 0, none⟩)), (0, .pointer (some ⟨g1, 0, none⟩))] ⟨hv10_4, hv10_5, (hm 0 rfl), trivial⟩ ?_
  have H : Hp B Iu10 _ ((g10_5, Ob [.int .i64 0, .int .i64 0, .int .i64 0, .string ⟨#[]⟩, .slice none 0 0] 26) :: (g9, Ob [.int .i64 2, .int .i64 3, .int .i64 0, .string ⟨#[99, 108, 101, 114, 107]⟩, .slice none 0 0] 26) :: (g5_4, Ob [.int .i64 uptoE.kind, .int .i64 uptoE.n, .int .i64 uptoE.no, .string uptoE.name, .slice dd5_3A4 uptoE.l.length dd5_3c4] 26) :: (g4, Ob [.int .i64 3, .int .i64 1, .int .i64 0, .string ⟨#[]⟩, .slice (some ⟨g2, 0, none⟩) 1 1] 26) :: (g1, Ob [.string ⟨#[]⟩, .slice none 0 0, .slice none 0 0, .slice none 0 0, .int .i64 0, .int .i64 0, .int .i64 0, .string ⟨#[]⟩, .slice none 0 0, .int .i64 0] 28) :: L) := H
  refine sr_op rfl rfl (ow_store ty26 H rfl (v := .agg #[.int .i64 twoX.kind, .int .i64 twoX.n, .int .i64 twoX.no, .string twoX.name, .slice dd10_4A4 twoX.l.length dd10_4c4]) rfl [.int .i64 twoX.kind, .int .i64 twoX.n, .int .i64 twoX.no, .string twoX.name, .slice dd10_4A4 twoX.l.length dd10_4c4] rfl rfl rfl 0 rfl rfl (fun _ H => ?_))
  refine sr_nil ?_
  refine st_seq ?_
  refine st_drawU 7 (kn [kSl 1 (List.map encS [clerkS, chiefS]) 2, kSl 1 (List.map encS [loanS]) 1, kVal (.agg #[.int .i64 twoX.kind, .int .i64 twoX.n, .int .i64 twoX.no, .string twoX.name, .slice dd10_4A4 twoX.l.length dd10_4c4]), kDat (encRu (Ru.mk loanS 0 60 twoX)), kSl 8 (List.map encRu [Ru.mk loanS 0 60 twoX]) 1, kDat (encEx (sX chiefS)), kDat (encPo wholeP)]) (on [oNo, oNo, oNo, oNo, oNo, oNo, oNo]) (by kernel_rfl) (kn_mono ⟨kSl_mono _ _ _, kSl_mono _ _ _, kVal_mono _, kDat_mono _, kSl_mono _ _ _, kDat_mono _, kDat_mono _, trivial⟩) H [0, 1, 2, 3, 4, 5, 6] rfl ⟨?_, ?_, ?_, ?_, ?_, ?_, ?_, trivial⟩ ?_
  · refine ⟨_, _, rfl, rfl, fun Iu14 Lx14 M14 w_ hI14 H hk hm => ?_⟩
    refine ⟨[], trivial, ?_⟩
    refine  (ow_buildSlice H (e := 9) (ps := [(0, .string ⟨#[99, 108, 101, 114, 107]⟩), (1, .string ⟨#[99, 104, 105, 101, 102]⟩)]) rfl [.string ⟨#[99, 108, 101, 114, 107]⟩, .string ⟨#[99, 104, 105, 101, 102]⟩] (fun _ => by kernel_rfl) (fun g15 _ H => ?_))
    obtain ⟨I16, hI16, H, hl16⟩ := lit_done (enc := encS) (sz := 1) (n := 2) [clerkS, chiefS] rfl (by omega) H ⟨((s_iff (s := clerkS)).2 ⟨rfl, by unfold S63; decide +kernel⟩), rfl, ⟨((s_iff (s := chiefS)).2 ⟨rfl, by unfold S63; decide +kernel⟩), rfl, rfl⟩⟩
    exact ⟨_, I16, rfl, hI16, H, ⟨_, rfl, hl16⟩⟩
  · refine ⟨_, _, rfl, rfl, fun Iu14 Lx14 M14 w_ hI14 H hk hm => ?_⟩
    refine ⟨[], trivial, ?_⟩
    refine  (ow_buildSlice H (e := 9) (ps := [(0, .string ⟨#[108, 111, 97, 110]⟩)]) rfl [.string ⟨#[108, 111, 97, 110]⟩] (fun _ => by kernel_rfl) (fun g17 _ H => ?_))
    obtain ⟨I18, hI18, H, hl18⟩ := lit_done (enc := encS) (sz := 1) (n := 1) [loanS] rfl (by omega) H ⟨((s_iff (s := loanS)).2 ⟨rfl, by unfold S63; decide +kernel⟩), rfl, rfl⟩
    exact ⟨_, I18, rfl, hI18, H, ⟨_, rfl, hl18⟩⟩
  · refine ⟨_, _, rfl, rfl, fun Iu14 Lx14 M14 w_ hI14 H hk hm => ?_⟩
    refine ⟨[(4, .pointer (some ⟨g10_5, 0, none⟩))], ⟨(hm 4 rfl), trivial⟩, ?_⟩
    have Hs := H.sub (List.sublist_append_right _ _)
    refine  (ow_load (v := .agg #[.int .i64 twoX.kind, .int .i64 twoX.n, .int .i64 twoX.no, .string twoX.name, .slice dd10_4A4 twoX.l.length dd10_4c4]) ty26 Hs rfl 0 rfl rfl rfl rfl ?_)
    exact ⟨_, Iu14, rfl, (Le.refl _), H, rfl⟩
  · refine ⟨_, _, rfl, rfl, fun Iu14 Lx14 M14 w_ hI14 H hk hm => ?_⟩
    have hv14_2 : lk M14 20 = .agg #[.int .i64 twoX.kind, .int .i64 twoX.n, .int .i64 twoX.no, .string twoX.name, .slice dd10_4A4 twoX.l.length dd10_4c4] := hk 2 20 rfl (by kernel_rfl) rfl
    refine ⟨[(20, .agg #[.int .i64 twoX.kind, .int .i64 twoX.n, .int .i64 twoX.no, .string twoX.name, .slice dd10_4A4 twoX.l.length dd10_4c4])], ⟨hv14_2, trivial⟩, ?_⟩
    refine  (ow_build (ps := [(0, .string ⟨#[108, 111, 97, 110]⟩), (2, .int .i64 60), (3, .agg #[.int .i64 twoX.kind, .int .i64 twoX.n, .int .i64 twoX.no, .string twoX.name, .slice dd10_4A4 twoX.l.length dd10_4c4])]) (v := .agg #[.string ⟨#[108, 111, 97, 110]⟩, .int .i64 0, .int .i64 60, .int .i64 twoX.kind, .int .i64 twoX.n, .int .i64 twoX.no, .string twoX.name, .slice dd10_4A4 twoX.l.length dd10_4c4]) rfl (fun _ => by kernel_rfl) ?_)
    have dd10_4 := (dd10_4.mono hI14)
    exact ⟨_, Iu14, rfl, (Le.refl _), H, ⟨_, rfl, (ru_of (x := twoX) (k := loanS) (by unfold S63; decide +kernel) i64_0 (show I64 60 from by constructor <;> decide) dd10_4)⟩⟩
  · refine ⟨_, _, rfl, rfl, fun Iu14 Lx14 M14 w_ hI14 H hk hm => ?_⟩
    obtain ⟨us14_3, hv14_3, hd14_3⟩ := hk 3 21 rfl (by kernel_rfl) rfl
    have dd14_3 := hd14_3
    obtain ⟨dd14_3v7, rfl, dd14_3_0, dd14_3_1, dd14_3_2, dd14_3_3, dd14_3_4, dd14_3_5, dd14_3_6, dd14_3_7⟩ := ru_iff.1 hd14_3
    obtain ⟨dd14_3A7, dd14_3c7, rfl, dd14_3m7, dd14_3M7, dd14_3_7⟩ := RepS.open_ dd14_3_7
    refine ⟨[(21, .agg #[.string ((Ru.mk loanS 0 60 twoX).kind), .int .i64 ((Ru.mk loanS 0 60 twoX).kindNo), .int .i64 ((Ru.mk loanS 0 60 twoX).think), .int .i64 ((Ru.mk loanS 0 60 twoX).expr.kind), .int .i64 ((Ru.mk loanS 0 60 twoX).expr.n), .int .i64 ((Ru.mk loanS 0 60 twoX).expr.no), .string ((Ru.mk loanS 0 60 twoX).expr.name), .slice dd14_3A7 ((Ru.mk loanS 0 60 twoX).expr.l.length) dd14_3c7])], ⟨hv14_3, trivial⟩, ?_⟩
    refine  (ow_buildSlice H (e := 84) (ps := [(0, .agg #[.string ((Ru.mk loanS 0 60 twoX).kind), .int .i64 ((Ru.mk loanS 0 60 twoX).kindNo), .int .i64 ((Ru.mk loanS 0 60 twoX).think), .int .i64 ((Ru.mk loanS 0 60 twoX).expr.kind), .int .i64 ((Ru.mk loanS 0 60 twoX).expr.n), .int .i64 ((Ru.mk loanS 0 60 twoX).expr.no), .string ((Ru.mk loanS 0 60 twoX).expr.name), .slice dd14_3A7 ((Ru.mk loanS 0 60 twoX).expr.l.length) dd14_3c7])]) rfl [.string ((Ru.mk loanS 0 60 twoX).kind), .int .i64 ((Ru.mk loanS 0 60 twoX).kindNo), .int .i64 ((Ru.mk loanS 0 60 twoX).think), .int .i64 ((Ru.mk loanS 0 60 twoX).expr.kind), .int .i64 ((Ru.mk loanS 0 60 twoX).expr.n), .int .i64 ((Ru.mk loanS 0 60 twoX).expr.no), .string ((Ru.mk loanS 0 60 twoX).expr.name), .slice dd14_3A7 ((Ru.mk loanS 0 60 twoX).expr.l.length) dd14_3c7] (fun _ => by kernel_rfl) (fun g19 _ H => ?_))
    obtain ⟨I20, hI20, H, hl20⟩ := lit_done (enc := encRu) (sz := 8) (n := 1) [(Ru.mk loanS 0 60 twoX)] rfl (by omega) H ⟨dd14_3, rfl, rfl⟩
    exact ⟨_, I20, rfl, hI20, H, ⟨_, rfl, hl20⟩⟩
  · refine ⟨_, _, rfl, rfl, fun Iu14 Lx14 M14 w_ hI14 H hk hm => ?_⟩
    refine ⟨[], trivial, ?_⟩
    refine  (ow_call en39 rfl (some_c H chiefS) ?_)
    rintro _ _ ⟨rfl, H⟩
    exact ⟨_, Iu14, rfl, (Le.refl _), H, ⟨_, rfl, (some_rep (s := chiefS) (by unfold S63; decide +kernel))⟩⟩
  · refine ⟨_, _, rfl, rfl, fun Iu14 Lx14 M14 w_ hI14 H hk hm => ?_⟩
    obtain ⟨A14_0, hv14_0, hs014_0⟩ := hk 0 18 rfl (by kernel_rfl) rfl
    have hs14_0 : RepS encS Iu14 1 [clerkS, chiefS] (.slice A14_0 2 2) := hs014_0
    obtain ⟨A14_1, hv14_1, hs014_1⟩ := hk 1 19 rfl (by kernel_rfl) rfl
    have hs14_1 : RepS encS Iu14 1 [loanS] (.slice A14_1 1 1) := hs014_1
    obtain ⟨A14_4, hv14_4, hs014_4⟩ := hk 4 22 rfl (by kernel_rfl) rfl
    have hs14_4 : RepS encRu Iu14 8 [Ru.mk loanS 0 60 twoX] (.slice A14_4 1 1) := hs014_4
    obtain ⟨us14_5, hv14_5, hd14_5⟩ := hk 5 23 rfl (by kernel_rfl) rfl
    have dd14_5 := hd14_5
    obtain ⟨dd14_5v4, rfl, dd14_5_0, dd14_5_1, dd14_5_2, dd14_5_3, dd14_5_4⟩ := ex_iff.1 hd14_5
    obtain ⟨dd14_5A4, dd14_5c4, rfl, dd14_5m4, dd14_5M4, dd14_5_4⟩ := RepS.open_ dd14_5_4
    refine ⟨[(18, .slice A14_0 2 2), (19, .slice A14_1 1 1), (22, .slice A14_4 1 1), (23, .agg #[.int .i64 ((sX chiefS).kind), .int .i64 ((sX chiefS).n), .int .i64 ((sX chiefS).no), .string ((sX chiefS).name), .slice dd14_5A4 ((sX chiefS).l.length) dd14_5c4])], ⟨hv14_0, hv14_1, hv14_4, hv14_5, trivial⟩, ?_⟩
    refine  (ow_build (ps := [(0, .string ⟨#[98, 97, 110, 107]⟩), (5, .int .i64 3), (2, .slice A14_0 2 2), (1, .slice A14_1 1 1), (3, .slice A14_4 1 1), (4, .agg #[.int .i64 ((sX chiefS).kind), .int .i64 ((sX chiefS).n), .int .i64 ((sX chiefS).no), .string ((sX chiefS).name), .slice dd14_5A4 ((sX chiefS).l.length) dd14_5c4])]) (v := .agg #[.string ⟨#[98, 97, 110, 107]⟩, .slice A14_1 1 1, .slice A14_0 2 2, .slice A14_4 1 1, .int .i64 ((sX chiefS).kind), .int .i64 ((sX chiefS).n), .int .i64 ((sX chiefS).no), .string ((sX chiefS).name), .slice dd14_5A4 ((sX chiefS).l.length) dd14_5c4, .int .i64 3]) rfl (fun _ => by kernel_rfl) ?_)
    exact ⟨_, Iu14, rfl, (Le.refl _), H, ⟨_, rfl, (po_of (c := (sX chiefS)) (nm := bankS) (by unfold S63; decide +kernel) hs14_1 hs14_0 hs14_4 dd14_5 (show I64 3 from by constructor <;> decide) : RepL Iu14 (encPo wholeP) _)⟩⟩
  intro Iu14 Lx14 M14 w_ hI14 H hp hk hm
  obtain ⟨us14_6, hv14_6, hd14_6⟩ := hk 6 24 rfl rfl
  have dd14_6 := hd14_6
  obtain ⟨dd14_6v1, dd14_6v2, dd14_6v3, dd14_6v8, rfl, dd14_6_0, dd14_6_1, dd14_6_2, dd14_6_3, dd14_6_4, dd14_6_5, dd14_6_6, dd14_6_7, dd14_6_8, dd14_6_9⟩ := po_iff.1 hd14_6
  obtain ⟨dd14_6A1, dd14_6c1, rfl, dd14_6m1, dd14_6M1, dd14_6_1⟩ := RepS.open_ dd14_6_1
  obtain ⟨dd14_6A2, dd14_6c2, rfl, dd14_6m2, dd14_6M2, dd14_6_2⟩ := RepS.open_ dd14_6_2
  obtain ⟨dd14_6A3, dd14_6c3, rfl, dd14_6m3, dd14_6M3, dd14_6_3⟩ := RepS.open_ dd14_6_3
  obtain ⟨dd14_6A8, dd14_6c8, rfl, dd14_6m8, dd14_6M8, dd14_6_8⟩ := RepS.open_ dd14_6_8
  have hp2 : Lx14.Perm [] := hp
  obtain rfl : Lx14 = [] := List.perm_nil.1 hp2
  refine sr_known [(24, .agg #[.string wholeP.name, .slice dd14_6A1 wholeP.kinds.length dd14_6c1, .slice dd14_6A2 wholeP.offices.length dd14_6c2, .slice dd14_6A3 wholeP.rules.length dd14_6c3, .int .i64 wholeP.change.kind, .int .i64 wholeP.change.n, .int .i64 wholeP.change.no, .string wholeP.change.name, .slice dd14_6A8 wholeP.change.l.length dd14_6c8, .int .i64 wholeP.mode]), (0, .pointer (some ⟨g1, 0, none⟩))] ⟨hv14_6, (hm 0 rfl), trivial⟩ ?_
  have H : Hp B Iu14 _ ((g10_5, Ob [.int .i64 twoX.kind, .int .i64 twoX.n, .int .i64 twoX.no, .string twoX.name, .slice dd10_4A4 twoX.l.length dd10_4c4] 26) :: (g9, Ob [.int .i64 2, .int .i64 3, .int .i64 0, .string ⟨#[99, 108, 101, 114, 107]⟩, .slice none 0 0] 26) :: (g5_4, Ob [.int .i64 uptoE.kind, .int .i64 uptoE.n, .int .i64 uptoE.no, .string uptoE.name, .slice dd5_3A4 uptoE.l.length dd5_3c4] 26) :: (g4, Ob [.int .i64 3, .int .i64 1, .int .i64 0, .string ⟨#[]⟩, .slice (some ⟨g2, 0, none⟩) 1 1] 26) :: (g1, Ob [.string ⟨#[]⟩, .slice none 0 0, .slice none 0 0, .slice none 0 0, .int .i64 0, .int .i64 0, .int .i64 0, .string ⟨#[]⟩, .slice none 0 0, .int .i64 0] 28) :: L) := H
  refine sr_op rfl rfl (ow_store ty28 H rfl (v := .agg #[.string wholeP.name, .slice dd14_6A1 wholeP.kinds.length dd14_6c1, .slice dd14_6A2 wholeP.offices.length dd14_6c2, .slice dd14_6A3 wholeP.rules.length dd14_6c3, .int .i64 wholeP.change.kind, .int .i64 wholeP.change.n, .int .i64 wholeP.change.no, .string wholeP.change.name, .slice dd14_6A8 wholeP.change.l.length dd14_6c8, .int .i64 wholeP.mode]) rfl [.string wholeP.name, .slice dd14_6A1 wholeP.kinds.length dd14_6c1, .slice dd14_6A2 wholeP.offices.length dd14_6c2, .slice dd14_6A3 wholeP.rules.length dd14_6c3, .int .i64 wholeP.change.kind, .int .i64 wholeP.change.n, .int .i64 wholeP.change.no, .string wholeP.change.name, .slice dd14_6A8 wholeP.change.l.length dd14_6c8, .int .i64 wholeP.mode] rfl rfl rfl 4 rfl rfl (fun _ H => ?_))
  refine sr_nil ?_
  refine st_ret hb (hR _ _ (.agg #[.string wholeP.name, .slice dd14_6A1 wholeP.kinds.length dd14_6c1, .slice dd14_6A2 wholeP.offices.length dd14_6c2, .slice dd14_6A3 wholeP.rules.length dd14_6c3, .int .i64 wholeP.change.kind, .int .i64 wholeP.change.n, .int .i64 wholeP.change.no, .string wholeP.change.name, .slice dd14_6A8 wholeP.change.l.length dd14_6c8, .int .i64 wholeP.mode]) (res_run (vs := [.agg #[.string wholeP.name, .slice dd14_6A1 wholeP.kinds.length dd14_6c1, .slice dd14_6A2 wholeP.offices.length dd14_6c2, .slice dd14_6A3 wholeP.rules.length dd14_6c3, .int .i64 wholeP.change.kind, .int .i64 wholeP.change.n, .int .i64 wholeP.change.no, .string wholeP.change.name, .slice dd14_6A8 wholeP.change.l.length dd14_6c8, .int .i64 wholeP.mode]]) Tryz.results86 ⟨_, _, rfl, resV_own (v := .agg #[.string wholeP.name, .slice dd14_6A1 wholeP.kinds.length dd14_6c1, .slice dd14_6A2 wholeP.offices.length dd14_6c2, .slice dd14_6A3 wholeP.rules.length dd14_6c3, .int .i64 wholeP.change.kind, .int .i64 wholeP.change.n, .int .i64 wholeP.change.no, .string wholeP.change.name, .slice dd14_6A8 wholeP.change.l.length dd14_6c8, .int .i64 wholeP.mode]) ty28 H rfl 4 rfl rfl rfl rfl, rfl⟩) ?_)
  exact ⟨_, rfl, Iu14, _, (((hI3.trans hI5).trans hI10).trans hI14), (H.drop 5), rfl, dd14_6⟩
end Go.Proofs.YtghmjnbpkobooaaGreatDoor

set_option linter.unusedVariables false
set_option linter.unusedSimpArgs false
set_option maxRecDepth 10000
set_option maxHeartbeats 4000000
namespace Go.Proofs.YtghmjnbpkobooaaGreatDoor
open Go Go.RowKit

theorem sane19_c {B I L w} (H : Hp B I w L) (hlib : LibAt I) : Calls Tryz.prog 31 #[] w (Rt fun r w' => r = .bool true ∧ Hp B I w' L) := by
  refine calls_st (n := 109) Tryz.func31 rfl rfl rfl ?_
  intro G bF cs hb hfn hR hP
  simp only [ini]
  refine st_seq ?_
  refine st_region ?_
  refine sr_op rfl rfl (ow_assign (v := .bool false) rfl ?_)
  refine sr_nil ?_
  refine st_seq ?_
  refine st_seq ?_
  refine st_region ?_
  refine sr_op rfl rfl (ow_build (ps := [(0, .string ⟨#[]⟩), (1, .int .i64 0)]) (v := .agg #[.string ⟨#[]⟩, .int .i64 0]) rfl (fun _ => by kernel_rfl) ?_)
  refine sr_op rfl rfl (ow_build (ps := [(0, .string ⟨#[112, 111, 108, 105, 99, 121, 32, 111, 108, 100, 59]⟩), (1, .int .i64 7)]) (v := .agg #[.string ⟨#[112, 111, 108, 105, 99, 121, 32, 111, 108, 100, 59]⟩, .int .i64 7]) rfl (fun _ => by kernel_rfl) ?_)
  refine sr_op rfl rfl (ow_build (ps := [(0, .string ⟨#[112, 111, 108, 105, 99, 121, 32, 112, 59, 109, 111, 100, 101, 32, 115, 111, 109, 101, 59]⟩), (1, .int .i64 14)]) (v := .agg #[.string ⟨#[112, 111, 108, 105, 99, 121, 32, 112, 59, 109, 111, 100, 101, 32, 115, 111, 109, 101, 59]⟩, .int .i64 14]) rfl (fun _ => by kernel_rfl) ?_)
  refine sr_op rfl rfl (ow_build (ps := [(0, .string ⟨#[112, 111, 108, 105, 99, 121, 32, 112, 59, 109, 111, 100, 101, 32, 111, 108, 100, 59, 99, 104, 97, 110, 103, 101]⟩), (1, .int .i64 24)]) (v := .agg #[.string ⟨#[112, 111, 108, 105, 99, 121, 32, 112, 59, 109, 111, 100, 101, 32, 111, 108, 100, 59, 99, 104, 97, 110, 103, 101]⟩, .int .i64 24]) rfl (fun _ => by kernel_rfl) ?_)
  refine sr_op rfl rfl (ow_build (ps := [(0, .string ⟨#[112, 111, 108, 105, 99, 121, 32, 112, 59, 32, 109, 111, 100, 101, 32, 111, 108, 100, 59, 32, 99, 104, 97, 110, 103, 101, 32, 61, 32, 50, 32, 111, 102, 32, 40, 41, 59]⟩), (1, .int .i64 35)]) (v := .agg #[.string ⟨#[112, 111, 108, 105, 99, 121, 32, 112, 59, 32, 109, 111, 100, 101, 32, 111, 108, 100, 59, 32, 99, 104, 97, 110, 103, 101, 32, 61, 32, 50, 32, 111, 102, 32, 40, 41, 59]⟩, .int .i64 35]) rfl (fun _ => by kernel_rfl) ?_)
  refine sr_op rfl rfl (ow_buildSlice H (e := 137) (ps := [(0, .agg #[.string ⟨#[]⟩, .int .i64 0]), (1, .agg #[.string ⟨#[112, 111, 108, 105, 99, 121, 32, 111, 108, 100, 59]⟩, .int .i64 7]), (2, .agg #[.string ⟨#[112, 111, 108, 105, 99, 121, 32, 112, 59, 109, 111, 100, 101, 32, 115, 111, 109, 101, 59]⟩, .int .i64 14]), (3, .agg #[.string ⟨#[112, 111, 108, 105, 99, 121, 32, 112, 59, 109, 111, 100, 101, 32, 111, 108, 100, 59, 99, 104, 97, 110, 103, 101]⟩, .int .i64 24]), (4, .agg #[.string ⟨#[112, 111, 108, 105, 99, 121, 32, 112, 59, 32, 109, 111, 100, 101, 32, 111, 108, 100, 59, 32, 99, 104, 97, 110, 103, 101, 32, 61, 32, 50, 32, 111, 102, 32, 40, 41, 59]⟩, .int .i64 35])]) rfl [.string ⟨#[]⟩, .int .i64 0, .string ⟨#[112, 111, 108, 105, 99, 121, 32, 111, 108, 100, 59]⟩, .int .i64 7, .string ⟨#[112, 111, 108, 105, 99, 121, 32, 112, 59, 109, 111, 100, 101, 32, 115, 111, 109, 101, 59]⟩, .int .i64 14, .string ⟨#[112, 111, 108, 105, 99, 121, 32, 112, 59, 109, 111, 100, 101, 32, 111, 108, 100, 59, 99, 104, 97, 110, 103, 101]⟩, .int .i64 24, .string ⟨#[112, 111, 108, 105, 99, 121, 32, 112, 59, 32, 109, 111, 100, 101, 32, 111, 108, 100, 59, 32, 99, 104, 97, 110, 103, 101, 32, 61, 32, 50, 32, 111, 102, 32, 40, 41, 59]⟩, .int .i64 35] (fun _ => by kernel_rfl) (fun g1 _ H => ?_))
  refine sr_op rfl rfl (ow_lenS sl138 rfl rfl ?_)
  refine sr_op rfl rfl (ow_move (v := .int .i64 0) rfl ?_)
  refine sr_nil ?_
  refine st_block ?_
  refine st_loop ?_
  refine st_seq ?_
  refine st_region ?_
  refine sr_op rfl rfl (ow_lss rfl rfl ?_)
  refine sr_nil ?_
  refine st_seq ?_
  refine st_yes rfl ?_
  refine st_skip ?_
  refine st_seq ?_
  refine st_block ?_
  refine st_seq ?_
  refine st_region ?_
  refine sr_op rfl rfl (ow_indexAddr sl138 ty137 rfl rfl (by decide) (by decide) (r := 0) rfl ?_)
  refine sr_op rfl rfl (ow_load (v := .agg #[.string ⟨#[]⟩, .int .i64 0]) ty137 H rfl 0 rfl rfl rfl rfl ?_)
  refine sr_op rfl rfl (ow_alloc ty137 H [.string ⟨#[]⟩, .int .i64 0] rfl (fun g2 _ H => ?_))
  refine sr_op rfl rfl (ow_store ty137 H rfl (v := .agg #[.string ⟨#[]⟩, .int .i64 0]) rfl [.string ⟨#[]⟩, .int .i64 0] rfl rfl rfl 0 rfl rfl (fun _ H => ?_))
  refine sr_nil ?_
  refine st_seq ?_
  refine st_region ?_
  refine sr_op rfl rfl (ow_fieldAddr fd137_0 ty9 rfl rfl (r := 0) rfl ?_)
  refine sr_op rfl rfl (ow_load (v := .string ⟨#[]⟩) ty9 H rfl 0 rfl rfl rfl rfl ?_)
  refine sr_op rfl rfl (ow_call en18 rfl (Parse_as H (src := ⟨#[]⟩) (by unfold S63; decide +kernel) hlib wrong0) ?_)
  rintro _ _ ⟨I3, us3, hI3, H, rfl, hx3⟩
  have d3 := hx3
  obtain ⟨d3v1, d3v2, d3v3, d3v8, rfl, d3_0, d3_1, d3_2, d3_3, d3_4, d3_5, d3_6, d3_7, d3_8, d3_9⟩ := po_iff.1 hx3
  obtain ⟨d3A1, d3c1, rfl, d3m1, d3M1, d3_1⟩ := RepS.open_ d3_1
  obtain ⟨d3A2, d3c2, rfl, d3m2, d3M2, d3_2⟩ := RepS.open_ d3_2
  obtain ⟨d3A3, d3c3, rfl, d3m3, d3M3, d3_3⟩ := RepS.open_ d3_3
  obtain ⟨d3A8, d3c8, rfl, d3m8, d3M8, d3_8⟩ := RepS.open_ d3_8
  refine sr_op rfl rfl (ow_move (v := .tuple #[.agg #[.string zeroP.name, .slice d3A1 zeroP.kinds.length d3c1, .slice d3A2 zeroP.offices.length d3c2, .slice d3A3 zeroP.rules.length d3c3, .int .i64 zeroP.change.kind, .int .i64 zeroP.change.n, .int .i64 zeroP.change.no, .string zeroP.change.name, .slice d3A8 zeroP.change.l.length d3c8, .int .i64 zeroP.mode], .int .i64 0, .int .i64 190]) rfl ?_)
  refine sr_op rfl rfl (ow_extract (v := .agg #[.string zeroP.name, .slice d3A1 zeroP.kinds.length d3c1, .slice d3A2 zeroP.offices.length d3c2, .slice d3A3 zeroP.rules.length d3c3, .int .i64 zeroP.change.kind, .int .i64 zeroP.change.n, .int .i64 zeroP.change.no, .string zeroP.change.name, .slice d3A8 zeroP.change.l.length d3c8, .int .i64 zeroP.mode]) rfl rfl ?_)
  refine sr_op rfl rfl (ow_extract (v := .int .i64 0) rfl rfl ?_)
  refine sr_op rfl rfl (ow_extract (v := .int .i64 190) rfl rfl ?_)
  refine sr_op rfl rfl (ow_alloc ty28 H [.string ⟨#[]⟩, .slice none 0 0, .slice none 0 0, .slice none 0 0, .int .i64 0, .int .i64 0, .int .i64 0, .string ⟨#[]⟩, .slice none 0 0, .int .i64 0] rfl (fun g4 _ H => ?_))
  refine sr_op rfl rfl (ow_store ty28 H rfl (v := .agg #[.string zeroP.name, .slice d3A1 zeroP.kinds.length d3c1, .slice d3A2 zeroP.offices.length d3c2, .slice d3A3 zeroP.rules.length d3c3, .int .i64 zeroP.change.kind, .int .i64 zeroP.change.n, .int .i64 zeroP.change.no, .string zeroP.change.name, .slice d3A8 zeroP.change.l.length d3c8, .int .i64 zeroP.mode]) rfl [.string zeroP.name, .slice d3A1 zeroP.kinds.length d3c1, .slice d3A2 zeroP.offices.length d3c2, .slice d3A3 zeroP.rules.length d3c3, .int .i64 zeroP.change.kind, .int .i64 zeroP.change.n, .int .i64 zeroP.change.no, .string zeroP.change.name, .slice d3A8 zeroP.change.l.length d3c8, .int .i64 zeroP.mode] rfl rfl rfl 0 rfl rfl (fun _ H => ?_))
  refine sr_op rfl rfl (ow_assign (v := .int .i64 0) rfl ?_)
  refine sr_op rfl rfl (ow_assign (v := .int .i64 190) rfl ?_)
  refine sr_nil ?_
  refine st_seq ?_
  refine st_region ?_
  refine sr_op rfl rfl (ow_move (v := .int .i64 190) rfl ?_)
  refine sr_op rfl rfl (ow_neq rfl rfl ?_)
  refine sr_op rfl rfl (ow_move (v := .bool false) rfl ?_)
  refine sr_want rfl (j := 2) (d := 38) rfl rfl rfl (v := false) rfl rfl (ow_move (v := .int .i64 0) rfl ?_)
  refine sr_want rfl (j := 2) (d := 38) rfl rfl rfl (v := false) rfl rfl (ow_fieldAddr fd137_1 ty3 rfl rfl (r := 1) rfl ?_)
  refine sr_want rfl (j := 2) (d := 38) rfl rfl rfl (v := false) rfl rfl (ow_load (v := .int .i64 0) ty3 H rfl 1 rfl rfl rfl rfl ?_)
  refine sr_want rfl (j := 2) (d := 38) rfl rfl rfl (v := false) rfl rfl (ow_neq rfl rfl ?_)
  refine sr_op rfl rfl (ow_pick (v := .bool false) rfl rfl ?_)
  refine sr_nil ?_
  refine st_no rfl ?_
  refine st_skip ?_
  refine st_inBlock ?_
  refine st_region ?_
  refine sr_op rfl rfl (ow_add (r := 1) rfl rfl (by decide) ?_)
  refine sr_op rfl rfl (ow_move (v := .int .i64 1) rfl ?_)
  refine sr_nil ?_
  have H := H.drop 2
  have H : Hp B I3 _ ((g1, Ob [.string ⟨#[]⟩, .int .i64 0, .string ⟨#[112, 111, 108, 105, 99, 121, 32, 111, 108, 100, 59]⟩, .int .i64 7, .string ⟨#[112, 111, 108, 105, 99, 121, 32, 112, 59, 109, 111, 100, 101, 32, 115, 111, 109, 101, 59]⟩, .int .i64 14, .string ⟨#[112, 111, 108, 105, 99, 121, 32, 112, 59, 109, 111, 100, 101, 32, 111, 108, 100, 59, 99, 104, 97, 110, 103, 101]⟩, .int .i64 24, .string ⟨#[112, 111, 108, 105, 99, 121, 32, 112, 59, 32, 109, 111, 100, 101, 32, 111, 108, 100, 59, 32, 99, 104, 97, 110, 103, 101, 32, 61, 32, 50, 32, 111, 102, 32, 40, 41, 59]⟩, .int .i64 35] 137) :: L) := H
  refine st_inLoop ?_
  refine st_seq ?_
  refine st_region ?_
  refine sr_op rfl rfl (ow_lss rfl rfl ?_)
  refine sr_nil ?_
  refine st_seq ?_
  refine st_yes rfl ?_
  refine st_skip ?_
  refine st_seq ?_
  refine st_block ?_
  refine st_seq ?_
  refine st_region ?_
  refine sr_op rfl rfl (ow_indexAddr sl138 ty137 rfl rfl (by decide) (by decide) (r := 2) rfl ?_)
  refine sr_op rfl rfl (ow_load (v := .agg #[.string ⟨#[112, 111, 108, 105, 99, 121, 32, 111, 108, 100, 59]⟩, .int .i64 7]) ty137 H rfl 0 rfl rfl rfl rfl ?_)
  refine sr_op rfl rfl (ow_alloc ty137 H [.string ⟨#[]⟩, .int .i64 0] rfl (fun g5 _ H => ?_))
  refine sr_op rfl rfl (ow_store ty137 H rfl (v := .agg #[.string ⟨#[112, 111, 108, 105, 99, 121, 32, 111, 108, 100, 59]⟩, .int .i64 7]) rfl [.string ⟨#[112, 111, 108, 105, 99, 121, 32, 111, 108, 100, 59]⟩, .int .i64 7] rfl rfl rfl 0 rfl rfl (fun _ H => ?_))
  refine sr_nil ?_
  refine st_seq ?_
  refine st_region ?_
  refine sr_op rfl rfl (ow_fieldAddr fd137_0 ty9 rfl rfl (r := 0) rfl ?_)
  refine sr_op rfl rfl (ow_load (v := .string ⟨#[112, 111, 108, 105, 99, 121, 32, 111, 108, 100, 59]⟩) ty9 H rfl 0 rfl rfl rfl rfl ?_)
  have hlib := (hlib.mono hI3)
  refine sr_op rfl rfl (ow_call en18 rfl (Parse_as H (src := ⟨#[112, 111, 108, 105, 99, 121, 32, 111, 108, 100, 59]⟩) (by unfold S63; decide +kernel) hlib wrong1) ?_)
  rintro _ _ ⟨I6, us6, hI6, H, rfl, hx6⟩
  have d6 := hx6
  obtain ⟨d6v1, d6v2, d6v3, d6v8, rfl, d6_0, d6_1, d6_2, d6_3, d6_4, d6_5, d6_6, d6_7, d6_8, d6_9⟩ := po_iff.1 hx6
  obtain ⟨d6A1, d6c1, rfl, d6m1, d6M1, d6_1⟩ := RepS.open_ d6_1
  obtain ⟨d6A2, d6c2, rfl, d6m2, d6M2, d6_2⟩ := RepS.open_ d6_2
  obtain ⟨d6A3, d6c3, rfl, d6m3, d6M3, d6_3⟩ := RepS.open_ d6_3
  obtain ⟨d6A8, d6c8, rfl, d6m8, d6M8, d6_8⟩ := RepS.open_ d6_8
  refine sr_op rfl rfl (ow_move (v := .tuple #[.agg #[.string zeroP.name, .slice d6A1 zeroP.kinds.length d6c1, .slice d6A2 zeroP.offices.length d6c2, .slice d6A3 zeroP.rules.length d6c3, .int .i64 zeroP.change.kind, .int .i64 zeroP.change.n, .int .i64 zeroP.change.no, .string zeroP.change.name, .slice d6A8 zeroP.change.l.length d6c8, .int .i64 zeroP.mode], .int .i64 7, .int .i64 190]) rfl ?_)
  refine sr_op rfl rfl (ow_extract (v := .agg #[.string zeroP.name, .slice d6A1 zeroP.kinds.length d6c1, .slice d6A2 zeroP.offices.length d6c2, .slice d6A3 zeroP.rules.length d6c3, .int .i64 zeroP.change.kind, .int .i64 zeroP.change.n, .int .i64 zeroP.change.no, .string zeroP.change.name, .slice d6A8 zeroP.change.l.length d6c8, .int .i64 zeroP.mode]) rfl rfl ?_)
  refine sr_op rfl rfl (ow_extract (v := .int .i64 7) rfl rfl ?_)
  refine sr_op rfl rfl (ow_extract (v := .int .i64 190) rfl rfl ?_)
  refine sr_op rfl rfl (ow_alloc ty28 H [.string ⟨#[]⟩, .slice none 0 0, .slice none 0 0, .slice none 0 0, .int .i64 0, .int .i64 0, .int .i64 0, .string ⟨#[]⟩, .slice none 0 0, .int .i64 0] rfl (fun g7 _ H => ?_))
  refine sr_op rfl rfl (ow_store ty28 H rfl (v := .agg #[.string zeroP.name, .slice d6A1 zeroP.kinds.length d6c1, .slice d6A2 zeroP.offices.length d6c2, .slice d6A3 zeroP.rules.length d6c3, .int .i64 zeroP.change.kind, .int .i64 zeroP.change.n, .int .i64 zeroP.change.no, .string zeroP.change.name, .slice d6A8 zeroP.change.l.length d6c8, .int .i64 zeroP.mode]) rfl [.string zeroP.name, .slice d6A1 zeroP.kinds.length d6c1, .slice d6A2 zeroP.offices.length d6c2, .slice d6A3 zeroP.rules.length d6c3, .int .i64 zeroP.change.kind, .int .i64 zeroP.change.n, .int .i64 zeroP.change.no, .string zeroP.change.name, .slice d6A8 zeroP.change.l.length d6c8, .int .i64 zeroP.mode] rfl rfl rfl 0 rfl rfl (fun _ H => ?_))
  refine sr_op rfl rfl (ow_assign (v := .int .i64 7) rfl ?_)
  refine sr_op rfl rfl (ow_assign (v := .int .i64 190) rfl ?_)
  refine sr_nil ?_
  refine st_seq ?_
  refine st_region ?_
  refine sr_op rfl rfl (ow_move (v := .int .i64 190) rfl ?_)
  refine sr_op rfl rfl (ow_neq rfl rfl ?_)
  refine sr_op rfl rfl (ow_move (v := .bool false) rfl ?_)
  refine sr_want rfl (j := 2) (d := 38) rfl rfl rfl (v := false) rfl rfl (ow_move (v := .int .i64 7) rfl ?_)
  refine sr_want rfl (j := 2) (d := 38) rfl rfl rfl (v := false) rfl rfl (ow_fieldAddr fd137_1 ty3 rfl rfl (r := 1) rfl ?_)
  refine sr_want rfl (j := 2) (d := 38) rfl rfl rfl (v := false) rfl rfl (ow_load (v := .int .i64 7) ty3 H rfl 1 rfl rfl rfl rfl ?_)
  refine sr_want rfl (j := 2) (d := 38) rfl rfl rfl (v := false) rfl rfl (ow_neq rfl rfl ?_)
  refine sr_op rfl rfl (ow_pick (v := .bool false) rfl rfl ?_)
  refine sr_nil ?_
  refine st_no rfl ?_
  refine st_skip ?_
  refine st_inBlock ?_
  refine st_region ?_
  refine sr_op rfl rfl (ow_add (r := 2) rfl rfl (by decide) ?_)
  refine sr_op rfl rfl (ow_move (v := .int .i64 2) rfl ?_)
  refine sr_nil ?_
  have H := H.drop 2
  have H : Hp B I6 _ ((g1, Ob [.string ⟨#[]⟩, .int .i64 0, .string ⟨#[112, 111, 108, 105, 99, 121, 32, 111, 108, 100, 59]⟩, .int .i64 7, .string ⟨#[112, 111, 108, 105, 99, 121, 32, 112, 59, 109, 111, 100, 101, 32, 115, 111, 109, 101, 59]⟩, .int .i64 14, .string ⟨#[112, 111, 108, 105, 99, 121, 32, 112, 59, 109, 111, 100, 101, 32, 111, 108, 100, 59, 99, 104, 97, 110, 103, 101]⟩, .int .i64 24, .string ⟨#[112, 111, 108, 105, 99, 121, 32, 112, 59, 32, 109, 111, 100, 101, 32, 111, 108, 100, 59, 32, 99, 104, 97, 110, 103, 101, 32, 61, 32, 50, 32, 111, 102, 32, 40, 41, 59]⟩, .int .i64 35] 137) :: L) := H
  refine st_inLoop ?_
  refine st_seq ?_
  refine st_region ?_
  refine sr_op rfl rfl (ow_lss rfl rfl ?_)
  refine sr_nil ?_
  refine st_seq ?_
  refine st_yes rfl ?_
  refine st_skip ?_
  refine st_seq ?_
  refine st_block ?_
  refine st_seq ?_
  refine st_region ?_
  refine sr_op rfl rfl (ow_indexAddr sl138 ty137 rfl rfl (by decide) (by decide) (r := 4) rfl ?_)
  refine sr_op rfl rfl (ow_load (v := .agg #[.string ⟨#[112, 111, 108, 105, 99, 121, 32, 112, 59, 109, 111, 100, 101, 32, 115, 111, 109, 101, 59]⟩, .int .i64 14]) ty137 H rfl 0 rfl rfl rfl rfl ?_)
  refine sr_op rfl rfl (ow_alloc ty137 H [.string ⟨#[]⟩, .int .i64 0] rfl (fun g8 _ H => ?_))
  refine sr_op rfl rfl (ow_store ty137 H rfl (v := .agg #[.string ⟨#[112, 111, 108, 105, 99, 121, 32, 112, 59, 109, 111, 100, 101, 32, 115, 111, 109, 101, 59]⟩, .int .i64 14]) rfl [.string ⟨#[112, 111, 108, 105, 99, 121, 32, 112, 59, 109, 111, 100, 101, 32, 115, 111, 109, 101, 59]⟩, .int .i64 14] rfl rfl rfl 0 rfl rfl (fun _ H => ?_))
  refine sr_nil ?_
  refine st_seq ?_
  refine st_region ?_
  refine sr_op rfl rfl (ow_fieldAddr fd137_0 ty9 rfl rfl (r := 0) rfl ?_)
  refine sr_op rfl rfl (ow_load (v := .string ⟨#[112, 111, 108, 105, 99, 121, 32, 112, 59, 109, 111, 100, 101, 32, 115, 111, 109, 101, 59]⟩) ty9 H rfl 0 rfl rfl rfl rfl ?_)
  have hlib := (hlib.mono hI6)
  refine sr_op rfl rfl (ow_call en18 rfl (Parse_as H (src := ⟨#[112, 111, 108, 105, 99, 121, 32, 112, 59, 109, 111, 100, 101, 32, 115, 111, 109, 101, 59]⟩) (by unfold S63; decide +kernel) hlib wrong2) ?_)
  rintro _ _ ⟨I9, us9, hI9, H, rfl, hx9⟩
  have d9 := hx9
  obtain ⟨d9v1, d9v2, d9v3, d9v8, rfl, d9_0, d9_1, d9_2, d9_3, d9_4, d9_5, d9_6, d9_7, d9_8, d9_9⟩ := po_iff.1 hx9
  obtain ⟨d9A1, d9c1, rfl, d9m1, d9M1, d9_1⟩ := RepS.open_ d9_1
  obtain ⟨d9A2, d9c2, rfl, d9m2, d9M2, d9_2⟩ := RepS.open_ d9_2
  obtain ⟨d9A3, d9c3, rfl, d9m3, d9M3, d9_3⟩ := RepS.open_ d9_3
  obtain ⟨d9A8, d9c8, rfl, d9m8, d9M8, d9_8⟩ := RepS.open_ d9_8
  refine sr_op rfl rfl (ow_move (v := .tuple #[.agg #[.string zeroP.name, .slice d9A1 zeroP.kinds.length d9c1, .slice d9A2 zeroP.offices.length d9c2, .slice d9A3 zeroP.rules.length d9c3, .int .i64 zeroP.change.kind, .int .i64 zeroP.change.n, .int .i64 zeroP.change.no, .string zeroP.change.name, .slice d9A8 zeroP.change.l.length d9c8, .int .i64 zeroP.mode], .int .i64 14, .int .i64 190]) rfl ?_)
  refine sr_op rfl rfl (ow_extract (v := .agg #[.string zeroP.name, .slice d9A1 zeroP.kinds.length d9c1, .slice d9A2 zeroP.offices.length d9c2, .slice d9A3 zeroP.rules.length d9c3, .int .i64 zeroP.change.kind, .int .i64 zeroP.change.n, .int .i64 zeroP.change.no, .string zeroP.change.name, .slice d9A8 zeroP.change.l.length d9c8, .int .i64 zeroP.mode]) rfl rfl ?_)
  refine sr_op rfl rfl (ow_extract (v := .int .i64 14) rfl rfl ?_)
  refine sr_op rfl rfl (ow_extract (v := .int .i64 190) rfl rfl ?_)
  refine sr_op rfl rfl (ow_alloc ty28 H [.string ⟨#[]⟩, .slice none 0 0, .slice none 0 0, .slice none 0 0, .int .i64 0, .int .i64 0, .int .i64 0, .string ⟨#[]⟩, .slice none 0 0, .int .i64 0] rfl (fun g10 _ H => ?_))
  refine sr_op rfl rfl (ow_store ty28 H rfl (v := .agg #[.string zeroP.name, .slice d9A1 zeroP.kinds.length d9c1, .slice d9A2 zeroP.offices.length d9c2, .slice d9A3 zeroP.rules.length d9c3, .int .i64 zeroP.change.kind, .int .i64 zeroP.change.n, .int .i64 zeroP.change.no, .string zeroP.change.name, .slice d9A8 zeroP.change.l.length d9c8, .int .i64 zeroP.mode]) rfl [.string zeroP.name, .slice d9A1 zeroP.kinds.length d9c1, .slice d9A2 zeroP.offices.length d9c2, .slice d9A3 zeroP.rules.length d9c3, .int .i64 zeroP.change.kind, .int .i64 zeroP.change.n, .int .i64 zeroP.change.no, .string zeroP.change.name, .slice d9A8 zeroP.change.l.length d9c8, .int .i64 zeroP.mode] rfl rfl rfl 0 rfl rfl (fun _ H => ?_))
  refine sr_op rfl rfl (ow_assign (v := .int .i64 14) rfl ?_)
  refine sr_op rfl rfl (ow_assign (v := .int .i64 190) rfl ?_)
  refine sr_nil ?_
  refine st_seq ?_
  refine st_region ?_
  refine sr_op rfl rfl (ow_move (v := .int .i64 190) rfl ?_)
  refine sr_op rfl rfl (ow_neq rfl rfl ?_)
  refine sr_op rfl rfl (ow_move (v := .bool false) rfl ?_)
  refine sr_want rfl (j := 2) (d := 38) rfl rfl rfl (v := false) rfl rfl (ow_move (v := .int .i64 14) rfl ?_)
  refine sr_want rfl (j := 2) (d := 38) rfl rfl rfl (v := false) rfl rfl (ow_fieldAddr fd137_1 ty3 rfl rfl (r := 1) rfl ?_)
  refine sr_want rfl (j := 2) (d := 38) rfl rfl rfl (v := false) rfl rfl (ow_load (v := .int .i64 14) ty3 H rfl 1 rfl rfl rfl rfl ?_)
  refine sr_want rfl (j := 2) (d := 38) rfl rfl rfl (v := false) rfl rfl (ow_neq rfl rfl ?_)
  refine sr_op rfl rfl (ow_pick (v := .bool false) rfl rfl ?_)
  refine sr_nil ?_
  refine st_no rfl ?_
  refine st_skip ?_
  refine st_inBlock ?_
  refine st_region ?_
  refine sr_op rfl rfl (ow_add (r := 3) rfl rfl (by decide) ?_)
  refine sr_op rfl rfl (ow_move (v := .int .i64 3) rfl ?_)
  refine sr_nil ?_
  have H := H.drop 2
  have H : Hp B I9 _ ((g1, Ob [.string ⟨#[]⟩, .int .i64 0, .string ⟨#[112, 111, 108, 105, 99, 121, 32, 111, 108, 100, 59]⟩, .int .i64 7, .string ⟨#[112, 111, 108, 105, 99, 121, 32, 112, 59, 109, 111, 100, 101, 32, 115, 111, 109, 101, 59]⟩, .int .i64 14, .string ⟨#[112, 111, 108, 105, 99, 121, 32, 112, 59, 109, 111, 100, 101, 32, 111, 108, 100, 59, 99, 104, 97, 110, 103, 101]⟩, .int .i64 24, .string ⟨#[112, 111, 108, 105, 99, 121, 32, 112, 59, 32, 109, 111, 100, 101, 32, 111, 108, 100, 59, 32, 99, 104, 97, 110, 103, 101, 32, 61, 32, 50, 32, 111, 102, 32, 40, 41, 59]⟩, .int .i64 35] 137) :: L) := H
  refine st_inLoop ?_
  refine st_seq ?_
  refine st_region ?_
  refine sr_op rfl rfl (ow_lss rfl rfl ?_)
  refine sr_nil ?_
  refine st_seq ?_
  refine st_yes rfl ?_
  refine st_skip ?_
  refine st_seq ?_
  refine st_block ?_
  refine st_seq ?_
  refine st_region ?_
  refine sr_op rfl rfl (ow_indexAddr sl138 ty137 rfl rfl (by decide) (by decide) (r := 6) rfl ?_)
  refine sr_op rfl rfl (ow_load (v := .agg #[.string ⟨#[112, 111, 108, 105, 99, 121, 32, 112, 59, 109, 111, 100, 101, 32, 111, 108, 100, 59, 99, 104, 97, 110, 103, 101]⟩, .int .i64 24]) ty137 H rfl 0 rfl rfl rfl rfl ?_)
  refine sr_op rfl rfl (ow_alloc ty137 H [.string ⟨#[]⟩, .int .i64 0] rfl (fun g11 _ H => ?_))
  refine sr_op rfl rfl (ow_store ty137 H rfl (v := .agg #[.string ⟨#[112, 111, 108, 105, 99, 121, 32, 112, 59, 109, 111, 100, 101, 32, 111, 108, 100, 59, 99, 104, 97, 110, 103, 101]⟩, .int .i64 24]) rfl [.string ⟨#[112, 111, 108, 105, 99, 121, 32, 112, 59, 109, 111, 100, 101, 32, 111, 108, 100, 59, 99, 104, 97, 110, 103, 101]⟩, .int .i64 24] rfl rfl rfl 0 rfl rfl (fun _ H => ?_))
  refine sr_nil ?_
  refine st_seq ?_
  refine st_region ?_
  refine sr_op rfl rfl (ow_fieldAddr fd137_0 ty9 rfl rfl (r := 0) rfl ?_)
  refine sr_op rfl rfl (ow_load (v := .string ⟨#[112, 111, 108, 105, 99, 121, 32, 112, 59, 109, 111, 100, 101, 32, 111, 108, 100, 59, 99, 104, 97, 110, 103, 101]⟩) ty9 H rfl 0 rfl rfl rfl rfl ?_)
  have hlib := (hlib.mono hI9)
  refine sr_op rfl rfl (ow_call en18 rfl (Parse_as H (src := ⟨#[112, 111, 108, 105, 99, 121, 32, 112, 59, 109, 111, 100, 101, 32, 111, 108, 100, 59, 99, 104, 97, 110, 103, 101]⟩) (by unfold S63; decide +kernel) hlib wrong3) ?_)
  rintro _ _ ⟨I12, us12, hI12, H, rfl, hx12⟩
  have d12 := hx12
  obtain ⟨d12v1, d12v2, d12v3, d12v8, rfl, d12_0, d12_1, d12_2, d12_3, d12_4, d12_5, d12_6, d12_7, d12_8, d12_9⟩ := po_iff.1 hx12
  obtain ⟨d12A1, d12c1, rfl, d12m1, d12M1, d12_1⟩ := RepS.open_ d12_1
  obtain ⟨d12A2, d12c2, rfl, d12m2, d12M2, d12_2⟩ := RepS.open_ d12_2
  obtain ⟨d12A3, d12c3, rfl, d12m3, d12M3, d12_3⟩ := RepS.open_ d12_3
  obtain ⟨d12A8, d12c8, rfl, d12m8, d12M8, d12_8⟩ := RepS.open_ d12_8
  refine sr_op rfl rfl (ow_move (v := .tuple #[.agg #[.string zeroP.name, .slice d12A1 zeroP.kinds.length d12c1, .slice d12A2 zeroP.offices.length d12c2, .slice d12A3 zeroP.rules.length d12c3, .int .i64 zeroP.change.kind, .int .i64 zeroP.change.n, .int .i64 zeroP.change.no, .string zeroP.change.name, .slice d12A8 zeroP.change.l.length d12c8, .int .i64 zeroP.mode], .int .i64 24, .int .i64 190]) rfl ?_)
  refine sr_op rfl rfl (ow_extract (v := .agg #[.string zeroP.name, .slice d12A1 zeroP.kinds.length d12c1, .slice d12A2 zeroP.offices.length d12c2, .slice d12A3 zeroP.rules.length d12c3, .int .i64 zeroP.change.kind, .int .i64 zeroP.change.n, .int .i64 zeroP.change.no, .string zeroP.change.name, .slice d12A8 zeroP.change.l.length d12c8, .int .i64 zeroP.mode]) rfl rfl ?_)
  refine sr_op rfl rfl (ow_extract (v := .int .i64 24) rfl rfl ?_)
  refine sr_op rfl rfl (ow_extract (v := .int .i64 190) rfl rfl ?_)
  refine sr_op rfl rfl (ow_alloc ty28 H [.string ⟨#[]⟩, .slice none 0 0, .slice none 0 0, .slice none 0 0, .int .i64 0, .int .i64 0, .int .i64 0, .string ⟨#[]⟩, .slice none 0 0, .int .i64 0] rfl (fun g13 _ H => ?_))
  refine sr_op rfl rfl (ow_store ty28 H rfl (v := .agg #[.string zeroP.name, .slice d12A1 zeroP.kinds.length d12c1, .slice d12A2 zeroP.offices.length d12c2, .slice d12A3 zeroP.rules.length d12c3, .int .i64 zeroP.change.kind, .int .i64 zeroP.change.n, .int .i64 zeroP.change.no, .string zeroP.change.name, .slice d12A8 zeroP.change.l.length d12c8, .int .i64 zeroP.mode]) rfl [.string zeroP.name, .slice d12A1 zeroP.kinds.length d12c1, .slice d12A2 zeroP.offices.length d12c2, .slice d12A3 zeroP.rules.length d12c3, .int .i64 zeroP.change.kind, .int .i64 zeroP.change.n, .int .i64 zeroP.change.no, .string zeroP.change.name, .slice d12A8 zeroP.change.l.length d12c8, .int .i64 zeroP.mode] rfl rfl rfl 0 rfl rfl (fun _ H => ?_))
  refine sr_op rfl rfl (ow_assign (v := .int .i64 24) rfl ?_)
  refine sr_op rfl rfl (ow_assign (v := .int .i64 190) rfl ?_)
  refine sr_nil ?_
  refine st_seq ?_
  refine st_region ?_
  refine sr_op rfl rfl (ow_move (v := .int .i64 190) rfl ?_)
  refine sr_op rfl rfl (ow_neq rfl rfl ?_)
  refine sr_op rfl rfl (ow_move (v := .bool false) rfl ?_)
  refine sr_want rfl (j := 2) (d := 38) rfl rfl rfl (v := false) rfl rfl (ow_move (v := .int .i64 24) rfl ?_)
  refine sr_want rfl (j := 2) (d := 38) rfl rfl rfl (v := false) rfl rfl (ow_fieldAddr fd137_1 ty3 rfl rfl (r := 1) rfl ?_)
  refine sr_want rfl (j := 2) (d := 38) rfl rfl rfl (v := false) rfl rfl (ow_load (v := .int .i64 24) ty3 H rfl 1 rfl rfl rfl rfl ?_)
  refine sr_want rfl (j := 2) (d := 38) rfl rfl rfl (v := false) rfl rfl (ow_neq rfl rfl ?_)
  refine sr_op rfl rfl (ow_pick (v := .bool false) rfl rfl ?_)
  refine sr_nil ?_
  refine st_no rfl ?_
  refine st_skip ?_
  refine st_inBlock ?_
  refine st_region ?_
  refine sr_op rfl rfl (ow_add (r := 4) rfl rfl (by decide) ?_)
  refine sr_op rfl rfl (ow_move (v := .int .i64 4) rfl ?_)
  refine sr_nil ?_
  have H := H.drop 2
  have H : Hp B I12 _ ((g1, Ob [.string ⟨#[]⟩, .int .i64 0, .string ⟨#[112, 111, 108, 105, 99, 121, 32, 111, 108, 100, 59]⟩, .int .i64 7, .string ⟨#[112, 111, 108, 105, 99, 121, 32, 112, 59, 109, 111, 100, 101, 32, 115, 111, 109, 101, 59]⟩, .int .i64 14, .string ⟨#[112, 111, 108, 105, 99, 121, 32, 112, 59, 109, 111, 100, 101, 32, 111, 108, 100, 59, 99, 104, 97, 110, 103, 101]⟩, .int .i64 24, .string ⟨#[112, 111, 108, 105, 99, 121, 32, 112, 59, 32, 109, 111, 100, 101, 32, 111, 108, 100, 59, 32, 99, 104, 97, 110, 103, 101, 32, 61, 32, 50, 32, 111, 102, 32, 40, 41, 59]⟩, .int .i64 35] 137) :: L) := H
  refine st_inLoop ?_
  refine st_seq ?_
  refine st_region ?_
  refine sr_op rfl rfl (ow_lss rfl rfl ?_)
  refine sr_nil ?_
  refine st_seq ?_
  refine st_yes rfl ?_
  refine st_skip ?_
  refine st_seq ?_
  refine st_block ?_
  refine st_seq ?_
  refine st_region ?_
  refine sr_op rfl rfl (ow_indexAddr sl138 ty137 rfl rfl (by decide) (by decide) (r := 8) rfl ?_)
  refine sr_op rfl rfl (ow_load (v := .agg #[.string ⟨#[112, 111, 108, 105, 99, 121, 32, 112, 59, 32, 109, 111, 100, 101, 32, 111, 108, 100, 59, 32, 99, 104, 97, 110, 103, 101, 32, 61, 32, 50, 32, 111, 102, 32, 40, 41, 59]⟩, .int .i64 35]) ty137 H rfl 0 rfl rfl rfl rfl ?_)
  refine sr_op rfl rfl (ow_alloc ty137 H [.string ⟨#[]⟩, .int .i64 0] rfl (fun g14 _ H => ?_))
  refine sr_op rfl rfl (ow_store ty137 H rfl (v := .agg #[.string ⟨#[112, 111, 108, 105, 99, 121, 32, 112, 59, 32, 109, 111, 100, 101, 32, 111, 108, 100, 59, 32, 99, 104, 97, 110, 103, 101, 32, 61, 32, 50, 32, 111, 102, 32, 40, 41, 59]⟩, .int .i64 35]) rfl [.string ⟨#[112, 111, 108, 105, 99, 121, 32, 112, 59, 32, 109, 111, 100, 101, 32, 111, 108, 100, 59, 32, 99, 104, 97, 110, 103, 101, 32, 61, 32, 50, 32, 111, 102, 32, 40, 41, 59]⟩, .int .i64 35] rfl rfl rfl 0 rfl rfl (fun _ H => ?_))
  refine sr_nil ?_
  refine st_seq ?_
  refine st_region ?_
  refine sr_op rfl rfl (ow_fieldAddr fd137_0 ty9 rfl rfl (r := 0) rfl ?_)
  refine sr_op rfl rfl (ow_load (v := .string ⟨#[112, 111, 108, 105, 99, 121, 32, 112, 59, 32, 109, 111, 100, 101, 32, 111, 108, 100, 59, 32, 99, 104, 97, 110, 103, 101, 32, 61, 32, 50, 32, 111, 102, 32, 40, 41, 59]⟩) ty9 H rfl 0 rfl rfl rfl rfl ?_)
  have hlib := (hlib.mono hI12)
  refine sr_op rfl rfl (ow_call en18 rfl (Parse_as H (src := ⟨#[112, 111, 108, 105, 99, 121, 32, 112, 59, 32, 109, 111, 100, 101, 32, 111, 108, 100, 59, 32, 99, 104, 97, 110, 103, 101, 32, 61, 32, 50, 32, 111, 102, 32, 40, 41, 59]⟩) (by unfold S63; decide +kernel) hlib wrong4) ?_)
  rintro _ _ ⟨I15, us15, hI15, H, rfl, hx15⟩
  have d15 := hx15
  obtain ⟨d15v1, d15v2, d15v3, d15v8, rfl, d15_0, d15_1, d15_2, d15_3, d15_4, d15_5, d15_6, d15_7, d15_8, d15_9⟩ := po_iff.1 hx15
  obtain ⟨d15A1, d15c1, rfl, d15m1, d15M1, d15_1⟩ := RepS.open_ d15_1
  obtain ⟨d15A2, d15c2, rfl, d15m2, d15M2, d15_2⟩ := RepS.open_ d15_2
  obtain ⟨d15A3, d15c3, rfl, d15m3, d15M3, d15_3⟩ := RepS.open_ d15_3
  obtain ⟨d15A8, d15c8, rfl, d15m8, d15M8, d15_8⟩ := RepS.open_ d15_8
  refine sr_op rfl rfl (ow_move (v := .tuple #[.agg #[.string zeroP.name, .slice d15A1 zeroP.kinds.length d15c1, .slice d15A2 zeroP.offices.length d15c2, .slice d15A3 zeroP.rules.length d15c3, .int .i64 zeroP.change.kind, .int .i64 zeroP.change.n, .int .i64 zeroP.change.no, .string zeroP.change.name, .slice d15A8 zeroP.change.l.length d15c8, .int .i64 zeroP.mode], .int .i64 35, .int .i64 190]) rfl ?_)
  refine sr_op rfl rfl (ow_extract (v := .agg #[.string zeroP.name, .slice d15A1 zeroP.kinds.length d15c1, .slice d15A2 zeroP.offices.length d15c2, .slice d15A3 zeroP.rules.length d15c3, .int .i64 zeroP.change.kind, .int .i64 zeroP.change.n, .int .i64 zeroP.change.no, .string zeroP.change.name, .slice d15A8 zeroP.change.l.length d15c8, .int .i64 zeroP.mode]) rfl rfl ?_)
  refine sr_op rfl rfl (ow_extract (v := .int .i64 35) rfl rfl ?_)
  refine sr_op rfl rfl (ow_extract (v := .int .i64 190) rfl rfl ?_)
  refine sr_op rfl rfl (ow_alloc ty28 H [.string ⟨#[]⟩, .slice none 0 0, .slice none 0 0, .slice none 0 0, .int .i64 0, .int .i64 0, .int .i64 0, .string ⟨#[]⟩, .slice none 0 0, .int .i64 0] rfl (fun g16 _ H => ?_))
  refine sr_op rfl rfl (ow_store ty28 H rfl (v := .agg #[.string zeroP.name, .slice d15A1 zeroP.kinds.length d15c1, .slice d15A2 zeroP.offices.length d15c2, .slice d15A3 zeroP.rules.length d15c3, .int .i64 zeroP.change.kind, .int .i64 zeroP.change.n, .int .i64 zeroP.change.no, .string zeroP.change.name, .slice d15A8 zeroP.change.l.length d15c8, .int .i64 zeroP.mode]) rfl [.string zeroP.name, .slice d15A1 zeroP.kinds.length d15c1, .slice d15A2 zeroP.offices.length d15c2, .slice d15A3 zeroP.rules.length d15c3, .int .i64 zeroP.change.kind, .int .i64 zeroP.change.n, .int .i64 zeroP.change.no, .string zeroP.change.name, .slice d15A8 zeroP.change.l.length d15c8, .int .i64 zeroP.mode] rfl rfl rfl 0 rfl rfl (fun _ H => ?_))
  refine sr_op rfl rfl (ow_assign (v := .int .i64 35) rfl ?_)
  refine sr_op rfl rfl (ow_assign (v := .int .i64 190) rfl ?_)
  refine sr_nil ?_
  refine st_seq ?_
  refine st_region ?_
  refine sr_op rfl rfl (ow_move (v := .int .i64 190) rfl ?_)
  refine sr_op rfl rfl (ow_neq rfl rfl ?_)
  refine sr_op rfl rfl (ow_move (v := .bool false) rfl ?_)
  refine sr_want rfl (j := 2) (d := 38) rfl rfl rfl (v := false) rfl rfl (ow_move (v := .int .i64 35) rfl ?_)
  refine sr_want rfl (j := 2) (d := 38) rfl rfl rfl (v := false) rfl rfl (ow_fieldAddr fd137_1 ty3 rfl rfl (r := 1) rfl ?_)
  refine sr_want rfl (j := 2) (d := 38) rfl rfl rfl (v := false) rfl rfl (ow_load (v := .int .i64 35) ty3 H rfl 1 rfl rfl rfl rfl ?_)
  refine sr_want rfl (j := 2) (d := 38) rfl rfl rfl (v := false) rfl rfl (ow_neq rfl rfl ?_)
  refine sr_op rfl rfl (ow_pick (v := .bool false) rfl rfl ?_)
  refine sr_nil ?_
  refine st_no rfl ?_
  refine st_skip ?_
  refine st_inBlock ?_
  refine st_region ?_
  refine sr_op rfl rfl (ow_add (r := 5) rfl rfl (by decide) ?_)
  refine sr_op rfl rfl (ow_move (v := .int .i64 5) rfl ?_)
  refine sr_nil ?_
  have H := H.drop 2
  have H : Hp B I15 _ ((g1, Ob [.string ⟨#[]⟩, .int .i64 0, .string ⟨#[112, 111, 108, 105, 99, 121, 32, 111, 108, 100, 59]⟩, .int .i64 7, .string ⟨#[112, 111, 108, 105, 99, 121, 32, 112, 59, 109, 111, 100, 101, 32, 115, 111, 109, 101, 59]⟩, .int .i64 14, .string ⟨#[112, 111, 108, 105, 99, 121, 32, 112, 59, 109, 111, 100, 101, 32, 111, 108, 100, 59, 99, 104, 97, 110, 103, 101]⟩, .int .i64 24, .string ⟨#[112, 111, 108, 105, 99, 121, 32, 112, 59, 32, 109, 111, 100, 101, 32, 111, 108, 100, 59, 32, 99, 104, 97, 110, 103, 101, 32, 61, 32, 50, 32, 111, 102, 32, 40, 41, 59]⟩, .int .i64 35] 137) :: L) := H
  refine st_inLoop ?_
  refine st_seq ?_
  refine st_region ?_
  refine sr_op rfl rfl (ow_lss rfl rfl ?_)
  refine sr_nil ?_
  refine st_seq ?_
  refine st_no rfl ?_
  refine st_exit rfl ?_
  refine st_seq ?_
  refine st_region ?_
  have hlib := (hlib.mono hI15)
  refine sr_op rfl rfl (ow_call en18 rfl (Parse_as H (src := shortS) (by unfold S63; decide +kernel) hlib short_parse) ?_)
  rintro _ _ ⟨I17, us17, hI17, H, rfl, hx17⟩
  have d17 := hx17
  obtain ⟨d17v1, d17v2, d17v3, d17v8, rfl, d17_0, d17_1, d17_2, d17_3, d17_4, d17_5, d17_6, d17_7, d17_8, d17_9⟩ := po_iff.1 hx17
  obtain ⟨d17A1, d17c1, rfl, d17m1, d17M1, d17_1⟩ := RepS.open_ d17_1
  obtain ⟨d17A2, d17c2, rfl, d17m2, d17M2, d17_2⟩ := RepS.open_ d17_2
  obtain ⟨d17A3, d17c3, rfl, d17m3, d17M3, d17_3⟩ := RepS.open_ d17_3
  obtain ⟨d17A8, d17c8, rfl, d17m8, d17M8, d17_8⟩ := RepS.open_ d17_8
  refine sr_op rfl rfl (ow_move (v := .tuple #[.agg #[.string shortP.name, .slice d17A1 shortP.kinds.length d17c1, .slice d17A2 shortP.offices.length d17c2, .slice d17A3 shortP.rules.length d17c3, .int .i64 shortP.change.kind, .int .i64 shortP.change.n, .int .i64 shortP.change.no, .string shortP.change.name, .slice d17A8 shortP.change.l.length d17c8, .int .i64 shortP.mode], .int .i64 0, .int .i64 0]) rfl ?_)
  refine sr_op rfl rfl (ow_extract (v := .agg #[.string shortP.name, .slice d17A1 shortP.kinds.length d17c1, .slice d17A2 shortP.offices.length d17c2, .slice d17A3 shortP.rules.length d17c3, .int .i64 shortP.change.kind, .int .i64 shortP.change.n, .int .i64 shortP.change.no, .string shortP.change.name, .slice d17A8 shortP.change.l.length d17c8, .int .i64 shortP.mode]) rfl rfl ?_)
  refine sr_op rfl rfl (ow_extract (v := .int .i64 0) rfl rfl ?_)
  refine sr_op rfl rfl (ow_extract (v := .int .i64 0) rfl rfl ?_)
  refine sr_op rfl rfl (ow_alloc ty28 H [.string ⟨#[]⟩, .slice none 0 0, .slice none 0 0, .slice none 0 0, .int .i64 0, .int .i64 0, .int .i64 0, .string ⟨#[]⟩, .slice none 0 0, .int .i64 0] rfl (fun g18 _ H => ?_))
  refine sr_op rfl rfl (ow_store ty28 H rfl (v := .agg #[.string shortP.name, .slice d17A1 shortP.kinds.length d17c1, .slice d17A2 shortP.offices.length d17c2, .slice d17A3 shortP.rules.length d17c3, .int .i64 shortP.change.kind, .int .i64 shortP.change.n, .int .i64 shortP.change.no, .string shortP.change.name, .slice d17A8 shortP.change.l.length d17c8, .int .i64 shortP.mode]) rfl [.string shortP.name, .slice d17A1 shortP.kinds.length d17c1, .slice d17A2 shortP.offices.length d17c2, .slice d17A3 shortP.rules.length d17c3, .int .i64 shortP.change.kind, .int .i64 shortP.change.n, .int .i64 shortP.change.no, .string shortP.change.name, .slice d17A8 shortP.change.l.length d17c8, .int .i64 shortP.mode] rfl rfl rfl 0 rfl rfl (fun _ H => ?_))
  refine sr_op rfl rfl (ow_assign (v := .int .i64 0) rfl ?_)
  refine sr_op rfl rfl (ow_assign (v := .int .i64 0) rfl ?_)
  refine sr_nil ?_
  refine st_seq ?_
  refine st_region ?_
  have hlib := (hlib.mono hI17)
  refine sr_op rfl rfl (ow_call en18 rfl (Parse_as H (src := wholeS) (by unfold S63; decide +kernel) hlib whole_parse) ?_)
  rintro _ _ ⟨I19, us19, hI19, H, rfl, hx19⟩
  have d19 := hx19
  obtain ⟨d19v1, d19v2, d19v3, d19v8, rfl, d19_0, d19_1, d19_2, d19_3, d19_4, d19_5, d19_6, d19_7, d19_8, d19_9⟩ := po_iff.1 hx19
  obtain ⟨d19A1, d19c1, rfl, d19m1, d19M1, d19_1⟩ := RepS.open_ d19_1
  obtain ⟨d19A2, d19c2, rfl, d19m2, d19M2, d19_2⟩ := RepS.open_ d19_2
  obtain ⟨d19A3, d19c3, rfl, d19m3, d19M3, d19_3⟩ := RepS.open_ d19_3
  obtain ⟨d19A8, d19c8, rfl, d19m8, d19M8, d19_8⟩ := RepS.open_ d19_8
  refine sr_op rfl rfl (ow_move (v := .tuple #[.agg #[.string wholeP.name, .slice d19A1 wholeP.kinds.length d19c1, .slice d19A2 wholeP.offices.length d19c2, .slice d19A3 wholeP.rules.length d19c3, .int .i64 wholeP.change.kind, .int .i64 wholeP.change.n, .int .i64 wholeP.change.no, .string wholeP.change.name, .slice d19A8 wholeP.change.l.length d19c8, .int .i64 wholeP.mode], .int .i64 0, .int .i64 0]) rfl ?_)
  refine sr_op rfl rfl (ow_extract (v := .agg #[.string wholeP.name, .slice d19A1 wholeP.kinds.length d19c1, .slice d19A2 wholeP.offices.length d19c2, .slice d19A3 wholeP.rules.length d19c3, .int .i64 wholeP.change.kind, .int .i64 wholeP.change.n, .int .i64 wholeP.change.no, .string wholeP.change.name, .slice d19A8 wholeP.change.l.length d19c8, .int .i64 wholeP.mode]) rfl rfl ?_)
  refine sr_op rfl rfl (ow_extract (v := .int .i64 0) rfl rfl ?_)
  refine sr_op rfl rfl (ow_extract (v := .int .i64 0) rfl rfl ?_)
  refine sr_op rfl rfl (ow_alloc ty28 H [.string ⟨#[]⟩, .slice none 0 0, .slice none 0 0, .slice none 0 0, .int .i64 0, .int .i64 0, .int .i64 0, .string ⟨#[]⟩, .slice none 0 0, .int .i64 0] rfl (fun g20 _ H => ?_))
  refine sr_op rfl rfl (ow_store ty28 H rfl (v := .agg #[.string wholeP.name, .slice d19A1 wholeP.kinds.length d19c1, .slice d19A2 wholeP.offices.length d19c2, .slice d19A3 wholeP.rules.length d19c3, .int .i64 wholeP.change.kind, .int .i64 wholeP.change.n, .int .i64 wholeP.change.no, .string wholeP.change.name, .slice d19A8 wholeP.change.l.length d19c8, .int .i64 wholeP.mode]) rfl [.string wholeP.name, .slice d19A1 wholeP.kinds.length d19c1, .slice d19A2 wholeP.offices.length d19c2, .slice d19A3 wholeP.rules.length d19c3, .int .i64 wholeP.change.kind, .int .i64 wholeP.change.n, .int .i64 wholeP.change.no, .string wholeP.change.name, .slice d19A8 wholeP.change.l.length d19c8, .int .i64 wholeP.mode] rfl rfl rfl 0 rfl rfl (fun _ H => ?_))
  refine sr_op rfl rfl (ow_assign (v := .int .i64 0) rfl ?_)
  refine sr_op rfl rfl (ow_assign (v := .int .i64 0) rfl ?_)
  refine sr_nil ?_
  refine st_seq ?_
  refine st_region ?_
  refine sr_op rfl rfl (ow_call en86 rfl (declared19_c H) ?_)
  rintro _ _ ⟨I21, us21, hI21, H, rfl, hx21⟩
  have d21 := hx21
  obtain ⟨d21v1, d21v2, d21v3, d21v8, rfl, d21_0, d21_1, d21_2, d21_3, d21_4, d21_5, d21_6, d21_7, d21_8, d21_9⟩ := po_iff.1 hx21
  obtain ⟨d21A1, d21c1, rfl, d21m1, d21M1, d21_1⟩ := RepS.open_ d21_1
  obtain ⟨d21A2, d21c2, rfl, d21m2, d21M2, d21_2⟩ := RepS.open_ d21_2
  obtain ⟨d21A3, d21c3, rfl, d21m3, d21M3, d21_3⟩ := RepS.open_ d21_3
  obtain ⟨d21A8, d21c8, rfl, d21m8, d21M8, d21_8⟩ := RepS.open_ d21_8
  have hlib := ((hlib.mono hI19).mono hI21)
  refine sr_op rfl rfl (ow_call en16 rfl (Print_as H d21 (Nat.le_of_ble_eq_true (by kernel_rfl)) hlib whole_print) ?_)
  rintro _ _ ⟨rfl, H⟩
  refine sr_op rfl rfl (ow_move (v := .tuple #[.string ⟨#[112, 111, 108, 105, 99, 121, 32, 98, 97, 110, 107, 32, 59, 32, 109, 111, 100, 101, 32, 98, 111, 116, 104, 32, 59, 32, 111, 102, 102, 105, 99, 101, 32, 99, 108, 101, 114, 107, 32, 59, 32, 111, 102, 102, 105, 99, 101, 32, 99, 104, 105, 101, 102, 32, 59, 32, 107, 105, 110, 100, 32, 108, 111, 97, 110, 32, 59, 32, 114, 117, 108, 101, 32, 108, 111, 97, 110, 32, 116, 104, 105, 110, 107, 32, 54, 48, 32, 61, 32, 50, 32, 111, 102, 32, 40, 32, 115, 111, 109, 101, 32, 99, 104, 105, 101, 102, 32, 44, 32, 119, 101, 105, 103, 104, 116, 32, 51, 32, 111, 102, 32, 99, 108, 101, 114, 107, 32, 44, 32, 117, 112, 116, 111, 32, 49, 48, 48, 32, 40, 32, 115, 111, 109, 101, 32, 99, 108, 101, 114, 107, 32, 41, 32, 101, 108, 115, 101, 32, 40, 32, 49, 32, 111, 102, 32, 40, 32, 115, 111, 109, 101, 32, 99, 104, 105, 101, 102, 32, 41, 32, 41, 32, 41, 32, 59, 32, 99, 104, 97, 110, 103, 101, 32, 61, 32, 115, 111, 109, 101, 32, 99, 104, 105, 101, 102, 32, 59]⟩, .int .i64 0]) rfl ?_)
  refine sr_op rfl rfl (ow_extract (v := .string ⟨#[112, 111, 108, 105, 99, 121, 32, 98, 97, 110, 107, 32, 59, 32, 109, 111, 100, 101, 32, 98, 111, 116, 104, 32, 59, 32, 111, 102, 102, 105, 99, 101, 32, 99, 108, 101, 114, 107, 32, 59, 32, 111, 102, 102, 105, 99, 101, 32, 99, 104, 105, 101, 102, 32, 59, 32, 107, 105, 110, 100, 32, 108, 111, 97, 110, 32, 59, 32, 114, 117, 108, 101, 32, 108, 111, 97, 110, 32, 116, 104, 105, 110, 107, 32, 54, 48, 32, 61, 32, 50, 32, 111, 102, 32, 40, 32, 115, 111, 109, 101, 32, 99, 104, 105, 101, 102, 32, 44, 32, 119, 101, 105, 103, 104, 116, 32, 51, 32, 111, 102, 32, 99, 108, 101, 114, 107, 32, 44, 32, 117, 112, 116, 111, 32, 49, 48, 48, 32, 40, 32, 115, 111, 109, 101, 32, 99, 108, 101, 114, 107, 32, 41, 32, 101, 108, 115, 101, 32, 40, 32, 49, 32, 111, 102, 32, 40, 32, 115, 111, 109, 101, 32, 99, 104, 105, 101, 102, 32, 41, 32, 41, 32, 41, 32, 59, 32, 99, 104, 97, 110, 103, 101, 32, 61, 32, 115, 111, 109, 101, 32, 99, 104, 105, 101, 102, 32, 59]⟩) rfl rfl ?_)
  refine sr_op rfl rfl (ow_extract (v := .int .i64 0) rfl rfl ?_)
  refine sr_op rfl rfl (ow_assign (v := .string ⟨#[112, 111, 108, 105, 99, 121, 32, 98, 97, 110, 107, 32, 59, 32, 109, 111, 100, 101, 32, 98, 111, 116, 104, 32, 59, 32, 111, 102, 102, 105, 99, 101, 32, 99, 108, 101, 114, 107, 32, 59, 32, 111, 102, 102, 105, 99, 101, 32, 99, 104, 105, 101, 102, 32, 59, 32, 107, 105, 110, 100, 32, 108, 111, 97, 110, 32, 59, 32, 114, 117, 108, 101, 32, 108, 111, 97, 110, 32, 116, 104, 105, 110, 107, 32, 54, 48, 32, 61, 32, 50, 32, 111, 102, 32, 40, 32, 115, 111, 109, 101, 32, 99, 104, 105, 101, 102, 32, 44, 32, 119, 101, 105, 103, 104, 116, 32, 51, 32, 111, 102, 32, 99, 108, 101, 114, 107, 32, 44, 32, 117, 112, 116, 111, 32, 49, 48, 48, 32, 40, 32, 115, 111, 109, 101, 32, 99, 108, 101, 114, 107, 32, 41, 32, 101, 108, 115, 101, 32, 40, 32, 49, 32, 111, 102, 32, 40, 32, 115, 111, 109, 101, 32, 99, 104, 105, 101, 102, 32, 41, 32, 41, 32, 41, 32, 59, 32, 99, 104, 97, 110, 103, 101, 32, 61, 32, 115, 111, 109, 101, 32, 99, 104, 105, 101, 102, 32, 59]⟩) rfl ?_)
  refine sr_op rfl rfl (ow_assign (v := .int .i64 0) rfl ?_)
  refine sr_nil ?_
  refine st_seq ?_
  refine st_region ?_
  refine sr_op rfl rfl (ow_load (v := .agg #[.string shortP.name, .slice d17A1 shortP.kinds.length d17c1, .slice d17A2 shortP.offices.length d17c2, .slice d17A3 shortP.rules.length d17c3, .int .i64 shortP.change.kind, .int .i64 shortP.change.n, .int .i64 shortP.change.no, .string shortP.change.name, .slice d17A8 shortP.change.l.length d17c8, .int .i64 shortP.mode]) ty28 H rfl 1 rfl rfl rfl rfl ?_)
  have d17 := ((d17.mono hI19).mono hI21)
  refine sr_op rfl rfl (ow_call en16 rfl (Print_as H d17 (Nat.le_of_ble_eq_true (by kernel_rfl)) hlib short_print) ?_)
  rintro _ _ ⟨rfl, H⟩
  refine sr_op rfl rfl (ow_move (v := .tuple #[.string ⟨#[112, 111, 108, 105, 99, 121, 32, 112, 32, 59, 32, 109, 111, 100, 101, 32, 110, 101, 119, 32, 59, 32, 99, 104, 97, 110, 103, 101, 32, 61, 32, 115, 111, 109, 101, 32, 99, 108, 101, 114, 107, 32, 59]⟩, .int .i64 0]) rfl ?_)
  refine sr_op rfl rfl (ow_extract (v := .string ⟨#[112, 111, 108, 105, 99, 121, 32, 112, 32, 59, 32, 109, 111, 100, 101, 32, 110, 101, 119, 32, 59, 32, 99, 104, 97, 110, 103, 101, 32, 61, 32, 115, 111, 109, 101, 32, 99, 108, 101, 114, 107, 32, 59]⟩) rfl rfl ?_)
  refine sr_op rfl rfl (ow_extract (v := .int .i64 0) rfl rfl ?_)
  refine sr_op rfl rfl (ow_assign (v := .string ⟨#[112, 111, 108, 105, 99, 121, 32, 112, 32, 59, 32, 109, 111, 100, 101, 32, 110, 101, 119, 32, 59, 32, 99, 104, 97, 110, 103, 101, 32, 61, 32, 115, 111, 109, 101, 32, 99, 108, 101, 114, 107, 32, 59]⟩) rfl ?_)
  refine sr_op rfl rfl (ow_assign (v := .int .i64 0) rfl ?_)
  refine sr_nil ?_
  refine st_seq ?_
  refine st_region ?_
  refine sr_op rfl rfl (ow_build (ps := []) (v := .agg #[.string ⟨#[]⟩, .slice none 0 0, .slice none 0 0, .slice none 0 0, .int .i64 0, .int .i64 0, .int .i64 0, .string ⟨#[]⟩, .slice none 0 0, .int .i64 0]) rfl (fun _ => by kernel_rfl) ?_)
  refine sr_op rfl rfl (ow_call en16 rfl (Print_as H (zeroP_rep _) (Nat.le_of_ble_eq_true (by kernel_rfl)) hlib zero_print) ?_)
  rintro _ _ ⟨rfl, H⟩
  refine sr_op rfl rfl (ow_move (v := .tuple #[.string ⟨#[]⟩, .int .i64 190]) rfl ?_)
  refine sr_op rfl rfl (ow_extract (v := .string ⟨#[]⟩) rfl rfl ?_)
  refine sr_op rfl rfl (ow_extract (v := .int .i64 190) rfl rfl ?_)
  refine sr_op rfl rfl (ow_assign (v := .string ⟨#[]⟩) rfl ?_)
  refine sr_op rfl rfl (ow_assign (v := .int .i64 190) rfl ?_)
  refine sr_nil ?_
  refine st_seq ?_
  refine st_seq ?_
  refine st_region ?_
  refine sr_op rfl rfl (ow_move (v := .int .i64 0) rfl ?_)
  refine sr_op rfl rfl (ow_neq rfl rfl ?_)
  refine sr_op rfl rfl (ow_move (v := .bool false) rfl ?_)
  refine sr_want rfl (j := 2) (d := 72) rfl rfl rfl (v := false) rfl rfl (ow_move (v := .int .i64 0) rfl ?_)
  refine sr_want rfl (j := 2) (d := 72) rfl rfl rfl (v := false) rfl rfl (ow_neq rfl rfl ?_)
  refine sr_op rfl rfl (ow_pick (v := .bool false) rfl rfl ?_)
  refine sr_op rfl rfl (ow_move (v := .bool false) rfl ?_)
  refine sr_want rfl (j := 6) (d := 76) rfl rfl rfl (v := false) rfl rfl (ow_move (v := .int .i64 0) rfl ?_)
  refine sr_want rfl (j := 6) (d := 76) rfl rfl rfl (v := false) rfl rfl (ow_neq rfl rfl ?_)
  refine sr_op rfl rfl (ow_pick (v := .bool false) rfl rfl ?_)
  refine sr_op rfl rfl (ow_move (v := .bool false) rfl ?_)
  refine sr_want rfl (j := 10) (d := 80) rfl rfl rfl (v := false) rfl rfl (ow_move (v := .int .i64 0) rfl ?_)
  refine sr_want rfl (j := 10) (d := 80) rfl rfl rfl (v := false) rfl rfl (ow_neq rfl rfl ?_)
  refine sr_op rfl rfl (ow_pick (v := .bool false) rfl rfl ?_)
  refine sr_op rfl rfl (ow_move (v := .bool false) rfl ?_)
  refine sr_want rfl (j := 14) (d := 84) rfl rfl rfl (v := false) rfl rfl (ow_move (v := .int .i64 0) rfl ?_)
  refine sr_want rfl (j := 14) (d := 84) rfl rfl rfl (v := false) rfl rfl (ow_neq rfl rfl ?_)
  refine sr_op rfl rfl (ow_pick (v := .bool false) rfl rfl ?_)
  refine sr_op rfl rfl (ow_move (v := .bool false) rfl ?_)
  refine sr_want rfl (j := 18) (d := 88) rfl rfl rfl (v := false) rfl rfl (ow_move (v := .int .i64 190) rfl ?_)
  refine sr_want rfl (j := 18) (d := 88) rfl rfl rfl (v := false) rfl rfl (ow_neq rfl rfl ?_)
  refine sr_op rfl rfl (ow_pick (v := .bool false) rfl rfl ?_)
  refine sr_nil ?_
  refine st_no rfl ?_
  refine st_skip ?_
  refine st_seq ?_
  refine st_cut (fun m_ w_ => ∃ (r_ : Sl), m_ = (0, .bool true) :: r_ ∧ Hp B I21 w_ ((g20, Ob [.string wholeP.name, .slice d19A1 wholeP.kinds.length d19c1, .slice d19A2 wholeP.offices.length d19c2, .slice d19A3 wholeP.rules.length d19c3, .int .i64 wholeP.change.kind, .int .i64 wholeP.change.n, .int .i64 wholeP.change.no, .string wholeP.change.name, .slice d19A8 wholeP.change.l.length d19c8, .int .i64 wholeP.mode] 28) :: (g18, Ob [.string shortP.name, .slice d17A1 shortP.kinds.length d17c1, .slice d17A2 shortP.offices.length d17c2, .slice d17A3 shortP.rules.length d17c3, .int .i64 shortP.change.kind, .int .i64 shortP.change.n, .int .i64 shortP.change.no, .string shortP.change.name, .slice d17A8 shortP.change.l.length d17c8, .int .i64 shortP.mode] 28) :: (g1, Ob [.string ⟨#[]⟩, .int .i64 0, .string ⟨#[112, 111, 108, 105, 99, 121, 32, 111, 108, 100, 59]⟩, .int .i64 7, .string ⟨#[112, 111, 108, 105, 99, 121, 32, 112, 59, 109, 111, 100, 101, 32, 115, 111, 109, 101, 59]⟩, .int .i64 14, .string ⟨#[112, 111, 108, 105, 99, 121, 32, 112, 59, 109, 111, 100, 101, 32, 111, 108, 100, 59, 99, 104, 97, 110, 103, 101]⟩, .int .i64 24, .string ⟨#[112, 111, 108, 105, 99, 121, 32, 112, 59, 32, 109, 111, 100, 101, 32, 111, 108, 100, 59, 32, 99, 104, 97, 110, 103, 101, 32, 61, 32, 50, 32, 111, 102, 32, 40, 41, 59]⟩, .int .i64 35] 137) :: L)) (fun again => ?_) ?_
  · refine st_draw (F := (fun w_ => ∃ Iq_, Le I21 Iq_ ∧ Hp B Iq_ w_ [(g20, Ob [.string wholeP.name, .slice d19A1 wholeP.kinds.length d19c1, .slice d19A2 wholeP.offices.length d19c2, .slice d19A3 wholeP.rules.length d19c3, .int .i64 wholeP.change.kind, .int .i64 wholeP.change.n, .int .i64 wholeP.change.no, .string wholeP.change.name, .slice d19A8 wholeP.change.l.length d19c8, .int .i64 wholeP.mode] 28), (g18, Ob [.string shortP.name, .slice d17A1 shortP.kinds.length d17c1, .slice d17A2 shortP.offices.length d17c2, .slice d17A3 shortP.rules.length d17c3, .int .i64 shortP.change.kind, .int .i64 shortP.change.n, .int .i64 shortP.change.no, .string shortP.change.name, .slice d17A8 shortP.change.l.length d17c8, .int .i64 shortP.mode] 28), (g1, Ob [.string ⟨#[]⟩, .int .i64 0, .string ⟨#[112, 111, 108, 105, 99, 121, 32, 111, 108, 100, 59]⟩, .int .i64 7, .string ⟨#[112, 111, 108, 105, 99, 121, 32, 112, 59, 109, 111, 100, 101, 32, 115, 111, 109, 101, 59]⟩, .int .i64 14, .string ⟨#[112, 111, 108, 105, 99, 121, 32, 112, 59, 109, 111, 100, 101, 32, 111, 108, 100, 59, 99, 104, 97, 110, 103, 101]⟩, .int .i64 24, .string ⟨#[112, 111, 108, 105, 99, 121, 32, 112, 59, 32, 109, 111, 100, 101, 32, 111, 108, 100, 59, 32, 99, 104, 97, 110, 103, 101, 32, 61, 32, 50, 32, 111, 102, 32, 40, 41, 59]⟩, .int .i64 35] 137)])) (p0 := [0]) (plan := [(1, [2], [0]), (3, [4, 5], []), (6, [], [5]), (7, [8, 9, 10, 11, 12, 13, 14, 15, 16, 17], [])]) [] [] [(92, .agg #[.string shortP.name, .slice d17A1 shortP.kinds.length d17c1, .slice d17A2 shortP.offices.length d17c2, .slice d17A3 shortP.rules.length d17c3, .int .i64 shortP.change.kind, .int .i64 shortP.change.n, .int .i64 shortP.change.no, .string shortP.change.name, .slice d17A8 shortP.change.l.length d17c8, .int .i64 shortP.mode])] (by kernel_rfl) rfl ?_ ⟨_, Le.refl _, H.drew.pick [0, 1, 2] (by decide)⟩ ?_
    · refine ⟨kn_op rfl rfl (wantB_none rfl) fun _ hF2 => ?_, ?_⟩
      · obtain ⟨_, hle2, H2⟩ := hF2
        refine  (ow_load (v := .agg #[.string shortP.name, .slice d17A1 shortP.kinds.length d17c1, .slice d17A2 shortP.offices.length d17c2, .slice d17A3 shortP.rules.length d17c3, .int .i64 shortP.change.kind, .int .i64 shortP.change.n, .int .i64 shortP.change.no, .string shortP.change.name, .slice d17A8 shortP.change.l.length d17c8, .int .i64 shortP.mode]) ty28 H2 rfl 1 rfl rfl rfl rfl ?_)
        exact ⟨rfl, rfl⟩
      exact trivial
    have H := H.drew
    refine cw_op rfl (wantB_none rfl) (ow_call en39 rfl (some_c H clerkS) ?_)
    rintro _ _ ⟨rfl, H⟩
    refine af_some [(94, .agg #[.string ⟨#[112]⟩, .slice none 0 0, .slice none 0 0, .slice none 0 0, .int .i64 1, .int .i64 0, .int .i64 0, .string clerkS, .slice none 0 0, .int .i64 2])] (fun w_ => ∃ Iq_, Le I21 Iq_ ∧ Hp B Iq_ w_ [(g20, Ob [.string wholeP.name, .slice d19A1 wholeP.kinds.length d19c1, .slice d19A2 wholeP.offices.length d19c2, .slice d19A3 wholeP.rules.length d19c3, .int .i64 wholeP.change.kind, .int .i64 wholeP.change.n, .int .i64 wholeP.change.no, .string wholeP.change.name, .slice d19A8 wholeP.change.l.length d19c8, .int .i64 wholeP.mode] 28), (g18, Ob [.string shortP.name, .slice d17A1 shortP.kinds.length d17c1, .slice d17A2 shortP.offices.length d17c2, .slice d17A3 shortP.rules.length d17c3, .int .i64 shortP.change.kind, .int .i64 shortP.change.n, .int .i64 shortP.change.no, .string shortP.change.name, .slice d17A8 shortP.change.l.length d17c8, .int .i64 shortP.mode] 28), (g1, Ob [.string ⟨#[]⟩, .int .i64 0, .string ⟨#[112, 111, 108, 105, 99, 121, 32, 111, 108, 100, 59]⟩, .int .i64 7, .string ⟨#[112, 111, 108, 105, 99, 121, 32, 112, 59, 109, 111, 100, 101, 32, 115, 111, 109, 101, 59]⟩, .int .i64 14, .string ⟨#[112, 111, 108, 105, 99, 121, 32, 112, 59, 109, 111, 100, 101, 32, 111, 108, 100, 59, 99, 104, 97, 110, 103, 101]⟩, .int .i64 24, .string ⟨#[112, 111, 108, 105, 99, 121, 32, 112, 59, 32, 109, 111, 100, 101, 32, 111, 108, 100, 59, 32, 99, 104, 97, 110, 103, 101, 32, 61, 32, 50, 32, 111, 102, 32, 40, 41, 59]⟩, .int .i64 35] 137)]) rfl ⟨_, Le.refl _, H.pick [0, 1, 2] (by decide)⟩ ?_ ?_
    · refine ⟨kn_op rfl rfl (wantB_none rfl) fun _ hF2 => ?_, ?_⟩
      · obtain ⟨_, hle2, H2⟩ := hF2
        refine  (ow_load (v := .agg #[.string shortP.name, .slice d17A1 shortP.kinds.length d17c1, .slice d17A2 shortP.offices.length d17c2, .slice d17A3 shortP.rules.length d17c3, .int .i64 shortP.change.kind, .int .i64 shortP.change.n, .int .i64 shortP.change.no, .string shortP.change.name, .slice d17A8 shortP.change.l.length d17c8, .int .i64 shortP.mode]) ty28 H2 rfl 1 rfl rfl rfl rfl ?_)
        exact ⟨rfl, rfl⟩
      refine ⟨kn_op rfl rfl (wantB_none rfl) fun _ hF2 => ?_, ?_⟩
      · obtain ⟨_, hle2, H2⟩ := hF2
        refine  (ow_build (ps := [(0, .string ⟨#[112]⟩), (5, .int .i64 2), (4, .agg #[.int .i64 1, .int .i64 0, .int .i64 0, .string clerkS, .slice none 0 0])]) (v := .agg #[.string ⟨#[112]⟩, .slice none 0 0, .slice none 0 0, .slice none 0 0, .int .i64 1, .int .i64 0, .int .i64 0, .string clerkS, .slice none 0 0, .int .i64 2]) rfl (fun _ => by kernel_rfl) ?_)
        exact ⟨rfl, rfl⟩
      exact trivial
    refine cw_op rfl (wantB_none rfl) (ow_call en34 rfl (rSame_as H d17 (po_of (c := (sX clerkS)) (nm := pS) (by unfold S63; decide +kernel) (RepS.nil _ _ _) (RepS.nil _ _ _) (RepS.nil _ _ _) (some_rep (s := clerkS) (by unfold S63; decide +kernel)) (show I64 2 from by constructor <;> decide) : RepL I21 (encPo shortP) _) (b := true) ((sameP_iff _ _).2 rfl)) ?_)
    rintro _ _ ⟨rfl, H⟩
    refine af_some [(97, .agg #[.string wholeP.name, .slice d19A1 wholeP.kinds.length d19c1, .slice d19A2 wholeP.offices.length d19c2, .slice d19A3 wholeP.rules.length d19c3, .int .i64 wholeP.change.kind, .int .i64 wholeP.change.n, .int .i64 wholeP.change.no, .string wholeP.change.name, .slice d19A8 wholeP.change.l.length d19c8, .int .i64 wholeP.mode]), (96, .bool true)] (fun w_ => ∃ Iq_, Le I21 Iq_ ∧ Hp B Iq_ w_ [(g20, Ob [.string wholeP.name, .slice d19A1 wholeP.kinds.length d19c1, .slice d19A2 wholeP.offices.length d19c2, .slice d19A3 wholeP.rules.length d19c3, .int .i64 wholeP.change.kind, .int .i64 wholeP.change.n, .int .i64 wholeP.change.no, .string wholeP.change.name, .slice d19A8 wholeP.change.l.length d19c8, .int .i64 wholeP.mode] 28), (g18, Ob [.string shortP.name, .slice d17A1 shortP.kinds.length d17c1, .slice d17A2 shortP.offices.length d17c2, .slice d17A3 shortP.rules.length d17c3, .int .i64 shortP.change.kind, .int .i64 shortP.change.n, .int .i64 shortP.change.no, .string shortP.change.name, .slice d17A8 shortP.change.l.length d17c8, .int .i64 shortP.mode] 28), (g1, Ob [.string ⟨#[]⟩, .int .i64 0, .string ⟨#[112, 111, 108, 105, 99, 121, 32, 111, 108, 100, 59]⟩, .int .i64 7, .string ⟨#[112, 111, 108, 105, 99, 121, 32, 112, 59, 109, 111, 100, 101, 32, 115, 111, 109, 101, 59]⟩, .int .i64 14, .string ⟨#[112, 111, 108, 105, 99, 121, 32, 112, 59, 109, 111, 100, 101, 32, 111, 108, 100, 59, 99, 104, 97, 110, 103, 101]⟩, .int .i64 24, .string ⟨#[112, 111, 108, 105, 99, 121, 32, 112, 59, 32, 109, 111, 100, 101, 32, 111, 108, 100, 59, 32, 99, 104, 97, 110, 103, 101, 32, 61, 32, 50, 32, 111, 102, 32, 40, 41, 59]⟩, .int .i64 35] 137)]) rfl ⟨_, Le.refl _, H.pick [0, 1, 2] (by decide)⟩ ?_ ?_
    · refine ⟨kn_op rfl rfl (wantB_none rfl) fun _ hF2 => ?_, ?_⟩
      · obtain ⟨_, hle2, H2⟩ := hF2
        refine  (ow_move (v := .bool true) rfl ?_)
        exact ⟨rfl, rfl⟩
      refine ⟨kn_op rfl rfl ((wantB_some (j := 4) rfl rfl (d := 96) rfl rfl (u := true) rfl).trans rfl) fun _ hF2 => ?_, ?_⟩
      · obtain ⟨_, hle2, H2⟩ := hF2
        refine  (ow_load (v := .agg #[.string wholeP.name, .slice d19A1 wholeP.kinds.length d19c1, .slice d19A2 wholeP.offices.length d19c2, .slice d19A3 wholeP.rules.length d19c3, .int .i64 wholeP.change.kind, .int .i64 wholeP.change.n, .int .i64 wholeP.change.no, .string wholeP.change.name, .slice d19A8 wholeP.change.l.length d19c8, .int .i64 wholeP.mode]) ty28 H2 rfl 0 rfl rfl rfl rfl ?_)
        exact ⟨rfl, rfl⟩
      exact trivial
    refine cw_op rfl ((wantB_some (j := 4) rfl rfl (d := 96) rfl rfl (u := true) rfl).trans rfl) (ow_call en86 rfl (declared19_c H) ?_)
    rintro _ _ ⟨I22, us22, hI22, H, rfl, hx22⟩
    have d22 := hx22
    obtain ⟨d22v1, d22v2, d22v3, d22v8, rfl, d22_0, d22_1, d22_2, d22_3, d22_4, d22_5, d22_6, d22_7, d22_8, d22_9⟩ := po_iff.1 hx22
    obtain ⟨d22A1, d22c1, rfl, d22m1, d22M1, d22_1⟩ := RepS.open_ d22_1
    obtain ⟨d22A2, d22c2, rfl, d22m2, d22M2, d22_2⟩ := RepS.open_ d22_2
    obtain ⟨d22A3, d22c3, rfl, d22m3, d22M3, d22_3⟩ := RepS.open_ d22_3
    obtain ⟨d22A8, d22c8, rfl, d22m8, d22M8, d22_8⟩ := RepS.open_ d22_8
    refine af_some [] (fun w_ => ∃ Iq_, Le I22 Iq_ ∧ Hp B Iq_ w_ [(g20, Ob [.string wholeP.name, .slice d19A1 wholeP.kinds.length d19c1, .slice d19A2 wholeP.offices.length d19c2, .slice d19A3 wholeP.rules.length d19c3, .int .i64 wholeP.change.kind, .int .i64 wholeP.change.n, .int .i64 wholeP.change.no, .string wholeP.change.name, .slice d19A8 wholeP.change.l.length d19c8, .int .i64 wholeP.mode] 28), (g18, Ob [.string shortP.name, .slice d17A1 shortP.kinds.length d17c1, .slice d17A2 shortP.offices.length d17c2, .slice d17A3 shortP.rules.length d17c3, .int .i64 shortP.change.kind, .int .i64 shortP.change.n, .int .i64 shortP.change.no, .string shortP.change.name, .slice d17A8 shortP.change.l.length d17c8, .int .i64 shortP.mode] 28), (g1, Ob [.string ⟨#[]⟩, .int .i64 0, .string ⟨#[112, 111, 108, 105, 99, 121, 32, 111, 108, 100, 59]⟩, .int .i64 7, .string ⟨#[112, 111, 108, 105, 99, 121, 32, 112, 59, 109, 111, 100, 101, 32, 115, 111, 109, 101, 59]⟩, .int .i64 14, .string ⟨#[112, 111, 108, 105, 99, 121, 32, 112, 59, 109, 111, 100, 101, 32, 111, 108, 100, 59, 99, 104, 97, 110, 103, 101]⟩, .int .i64 24, .string ⟨#[112, 111, 108, 105, 99, 121, 32, 112, 59, 32, 109, 111, 100, 101, 32, 111, 108, 100, 59, 32, 99, 104, 97, 110, 103, 101, 32, 61, 32, 50, 32, 111, 102, 32, 40, 41, 59]⟩, .int .i64 35] 137)]) rfl ⟨_, Le.refl _, H.pick [0, 1, 2] (by decide)⟩ ?_ ?_
    · refine ⟨kn_op rfl rfl ((wantB_some (j := 4) rfl rfl (d := 96) rfl rfl (u := true) rfl).trans rfl) fun _ hF2 => ?_, ?_⟩
      · obtain ⟨_, hle2, H2⟩ := hF2
        refine  (ow_load (v := .agg #[.string wholeP.name, .slice d19A1 wholeP.kinds.length d19c1, .slice d19A2 wholeP.offices.length d19c2, .slice d19A3 wholeP.rules.length d19c3, .int .i64 wholeP.change.kind, .int .i64 wholeP.change.n, .int .i64 wholeP.change.no, .string wholeP.change.name, .slice d19A8 wholeP.change.l.length d19c8, .int .i64 wholeP.mode]) ty28 H2 rfl 0 rfl rfl rfl rfl ?_)
        exact ⟨rfl, rfl⟩
      exact trivial
    have d19 := ((d19.mono hI21).mono hI22)
    refine cw_op rfl ((wantB_some (j := 4) rfl rfl (d := 96) rfl rfl (u := true) rfl).trans rfl) (ow_call en34 rfl (rSame_as H d19 d22 (b := true) ((sameP_iff _ _).2 rfl)) ?_)
    rintro _ _ ⟨rfl, H⟩
    refine af_some [(0, .bool true), (108, .bool true), (107, .bool true), (106, .string ⟨#[112, 111, 108, 105, 99, 121, 32, 112, 32, 59, 32, 109, 111, 100, 101, 32, 110, 101, 119, 32, 59, 32, 99, 104, 97, 110, 103, 101, 32, 61, 32, 115, 111, 109, 101, 32, 99, 108, 101, 114, 107, 32, 59]⟩), (105, .bool true), (104, .bool true), (103, .bool true), (102, .string ⟨#[112, 111, 108, 105, 99, 121, 32, 98, 97, 110, 107, 32, 59, 32, 109, 111, 100, 101, 32, 98, 111, 116, 104, 32, 59, 32, 111, 102, 102, 105, 99, 101, 32, 99, 108, 101, 114, 107, 32, 59, 32, 111, 102, 102, 105, 99, 101, 32, 99, 104, 105, 101, 102, 32, 59, 32, 107, 105, 110, 100, 32, 108, 111, 97, 110, 32, 59, 32, 114, 117, 108, 101, 32, 108, 111, 97, 110, 32, 116, 104, 105, 110, 107, 32, 54, 48, 32, 61, 32, 50, 32, 111, 102, 32, 40, 32, 115, 111, 109, 101, 32, 99, 104, 105, 101, 102, 32, 44, 32, 119, 101, 105, 103, 104, 116, 32, 51, 32, 111, 102, 32, 99, 108, 101, 114, 107, 32, 44, 32, 117, 112, 116, 111, 32, 49, 48, 48, 32, 40, 32, 115, 111, 109, 101, 32, 99, 108, 101, 114, 107, 32, 41, 32, 101, 108, 115, 101, 32, 40, 32, 49, 32, 111, 102, 32, 40, 32, 115, 111, 109, 101, 32, 99, 104, 105, 101, 102, 32, 41, 32, 41, 32, 41, 32, 59, 32, 99, 104, 97, 110, 103, 101, 32, 61, 32, 115, 111, 109, 101, 32, 99, 104, 105, 101, 102, 32, 59]⟩), (101, .bool true), (100, .bool true)] (fun w_ => ∃ Iq_, Le I22 Iq_ ∧ Hp B Iq_ w_ [(g20, Ob [.string wholeP.name, .slice d19A1 wholeP.kinds.length d19c1, .slice d19A2 wholeP.offices.length d19c2, .slice d19A3 wholeP.rules.length d19c3, .int .i64 wholeP.change.kind, .int .i64 wholeP.change.n, .int .i64 wholeP.change.no, .string wholeP.change.name, .slice d19A8 wholeP.change.l.length d19c8, .int .i64 wholeP.mode] 28), (g18, Ob [.string shortP.name, .slice d17A1 shortP.kinds.length d17c1, .slice d17A2 shortP.offices.length d17c2, .slice d17A3 shortP.rules.length d17c3, .int .i64 shortP.change.kind, .int .i64 shortP.change.n, .int .i64 shortP.change.no, .string shortP.change.name, .slice d17A8 shortP.change.l.length d17c8, .int .i64 shortP.mode] 28), (g1, Ob [.string ⟨#[]⟩, .int .i64 0, .string ⟨#[112, 111, 108, 105, 99, 121, 32, 111, 108, 100, 59]⟩, .int .i64 7, .string ⟨#[112, 111, 108, 105, 99, 121, 32, 112, 59, 109, 111, 100, 101, 32, 115, 111, 109, 101, 59]⟩, .int .i64 14, .string ⟨#[112, 111, 108, 105, 99, 121, 32, 112, 59, 109, 111, 100, 101, 32, 111, 108, 100, 59, 99, 104, 97, 110, 103, 101]⟩, .int .i64 24, .string ⟨#[112, 111, 108, 105, 99, 121, 32, 112, 59, 32, 109, 111, 100, 101, 32, 111, 108, 100, 59, 32, 99, 104, 97, 110, 103, 101, 32, 61, 32, 50, 32, 111, 102, 32, 40, 41, 59]⟩, .int .i64 35] 137)]) rfl ⟨_, Le.refl _, H.pick [0, 1, 2] (by decide)⟩ ?_ ?_
    · refine ⟨kn_op rfl rfl (wantB_none rfl) fun _ hF2 => ?_, ?_⟩
      · obtain ⟨_, hle2, H2⟩ := hF2
        refine  (ow_pick (v := .bool true) rfl rfl ?_)
        exact ⟨rfl, rfl⟩
      refine ⟨kn_op rfl rfl (wantB_none rfl) fun _ hF2 => ?_, ?_⟩
      · obtain ⟨_, hle2, H2⟩ := hF2
        refine  (ow_move (v := .bool true) rfl ?_)
        exact ⟨rfl, rfl⟩
      refine ⟨kn_op rfl rfl ((wantB_some (j := 9) rfl rfl (d := 101) rfl rfl (u := true) rfl).trans rfl) fun _ hF2 => ?_, ?_⟩
      · obtain ⟨_, hle2, H2⟩ := hF2
        refine  (ow_move (v := .string ⟨#[112, 111, 108, 105, 99, 121, 32, 98, 97, 110, 107, 32, 59, 32, 109, 111, 100, 101, 32, 98, 111, 116, 104, 32, 59, 32, 111, 102, 102, 105, 99, 101, 32, 99, 108, 101, 114, 107, 32, 59, 32, 111, 102, 102, 105, 99, 101, 32, 99, 104, 105, 101, 102, 32, 59, 32, 107, 105, 110, 100, 32, 108, 111, 97, 110, 32, 59, 32, 114, 117, 108, 101, 32, 108, 111, 97, 110, 32, 116, 104, 105, 110, 107, 32, 54, 48, 32, 61, 32, 50, 32, 111, 102, 32, 40, 32, 115, 111, 109, 101, 32, 99, 104, 105, 101, 102, 32, 44, 32, 119, 101, 105, 103, 104, 116, 32, 51, 32, 111, 102, 32, 99, 108, 101, 114, 107, 32, 44, 32, 117, 112, 116, 111, 32, 49, 48, 48, 32, 40, 32, 115, 111, 109, 101, 32, 99, 108, 101, 114, 107, 32, 41, 32, 101, 108, 115, 101, 32, 40, 32, 49, 32, 111, 102, 32, 40, 32, 115, 111, 109, 101, 32, 99, 104, 105, 101, 102, 32, 41, 32, 41, 32, 41, 32, 59, 32, 99, 104, 97, 110, 103, 101, 32, 61, 32, 115, 111, 109, 101, 32, 99, 104, 105, 101, 102, 32, 59]⟩) rfl ?_)
        exact ⟨rfl, rfl⟩
      refine ⟨kn_op rfl rfl ((wantB_some (j := 9) rfl rfl (d := 101) rfl rfl (u := true) rfl).trans rfl) fun _ hF2 => ?_, ?_⟩
      · obtain ⟨_, hle2, H2⟩ := hF2
        refine  (ow_seq rfl rfl ?_)
        exact ⟨rfl, rfl⟩
      refine ⟨kn_op rfl rfl (wantB_none rfl) fun _ hF2 => ?_, ?_⟩
      · obtain ⟨_, hle2, H2⟩ := hF2
        refine  (ow_pick (v := .bool true) rfl rfl ?_)
        exact ⟨rfl, rfl⟩
      refine ⟨kn_op rfl rfl (wantB_none rfl) fun _ hF2 => ?_, ?_⟩
      · obtain ⟨_, hle2, H2⟩ := hF2
        refine  (ow_move (v := .bool true) rfl ?_)
        exact ⟨rfl, rfl⟩
      refine ⟨kn_op rfl rfl ((wantB_some (j := 13) rfl rfl (d := 105) rfl rfl (u := true) rfl).trans rfl) fun _ hF2 => ?_, ?_⟩
      · obtain ⟨_, hle2, H2⟩ := hF2
        refine  (ow_move (v := .string ⟨#[112, 111, 108, 105, 99, 121, 32, 112, 32, 59, 32, 109, 111, 100, 101, 32, 110, 101, 119, 32, 59, 32, 99, 104, 97, 110, 103, 101, 32, 61, 32, 115, 111, 109, 101, 32, 99, 108, 101, 114, 107, 32, 59]⟩) rfl ?_)
        exact ⟨rfl, rfl⟩
      refine ⟨kn_op rfl rfl ((wantB_some (j := 13) rfl rfl (d := 105) rfl rfl (u := true) rfl).trans rfl) fun _ hF2 => ?_, ?_⟩
      · obtain ⟨_, hle2, H2⟩ := hF2
        refine  (ow_seq rfl rfl ?_)
        exact ⟨rfl, rfl⟩
      refine ⟨kn_op rfl rfl (wantB_none rfl) fun _ hF2 => ?_, ?_⟩
      · obtain ⟨_, hle2, H2⟩ := hF2
        refine  (ow_pick (v := .bool true) rfl rfl ?_)
        exact ⟨rfl, rfl⟩
      refine ⟨kn_op rfl rfl (wantB_none rfl) fun _ hF2 => ?_, ?_⟩
      · obtain ⟨_, hle2, H2⟩ := hF2
        refine  (ow_assign (v := .bool true) rfl ?_)
        exact ⟨rfl, rfl⟩
      exact trivial
    refine cw_nil ?_
    exact st_live [0] (again _ _ ⟨_, rfl, (Hp.back H hI22)⟩)
  rintro _ _ ⟨r23, rfl, H⟩
  refine st_ret hb (hR _ _ (.bool true) (res_run (vs := [.bool true]) Tryz.results31 ⟨_, _, rfl, rfl, rfl⟩) ?_)
  exact ⟨_, rfl, rfl, (Hp.back (H.drop 3) (((((((hI3.trans hI6).trans hI9).trans hI12).trans hI15).trans hI17).trans hI19).trans hI21))⟩
end Go.Proofs.YtghmjnbpkobooaaGreatDoor
