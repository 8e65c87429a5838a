/-
  Closed facts on this program: its types, its fields, its functions.
-/
import Derived.Test.YtbbflenaeihmeaaDoorB2
import Derived.Test.YtbbflenaeihmeaaDoorProg
set_option linter.unusedVariables false
set_option linter.unusedSimpArgs false
set_option maxRecDepth 10000
set_option maxHeartbeats 4000000
namespace Go.Proofs.YtbbflenaeihmeaaDoor
open Go Go.RowKit

theorem ty1 : Ty Tryd.prog 1 1 false (.nilFunc) 8 := ⟨by kernel_rfl, by kernel_rfl⟩
theorem ty3 : Ty Tryd.prog 3 1 false (.int .i64 0) 8 := ⟨by kernel_rfl, by kernel_rfl⟩
theorem un3 : Tryd.prog.underlying 3 = some (.int .i64) := Tryd.underlying3
theorem ty4 : Ty Tryd.prog 4 1 false (.bool false) 1 := ⟨by kernel_rfl, by kernel_rfl⟩
theorem ty5 : Ty Tryd.prog 5 1 false (.int .u8 0) 1 := ⟨by kernel_rfl, by kernel_rfl⟩
theorem un5 : Tryd.prog.underlying 5 = some (.int .u8) := Tryd.underlying5
theorem ty9 : Ty Tryd.prog 9 1 false (.string ⟨#[]⟩) 16 := ⟨by kernel_rfl, by kernel_rfl⟩
theorem un9 : Tryd.prog.underlying 9 = some .string := Tryd.underlying9
theorem ty20 : Ty Tryd.prog 20 1 false (.nilIface) 16 := ⟨by kernel_rfl, by kernel_rfl⟩
theorem ty22 : Ty Tryd.prog 22 1 false (.slice none 0 0) 24 := ⟨by kernel_rfl, by kernel_rfl⟩
theorem sl22 : Tryd.prog.underlying 22 = some (.slice 9) := Tryd.underlying22
theorem ty23 : Ty Tryd.prog 23 1 false (.slice none 0 0) 24 := ⟨by kernel_rfl, by kernel_rfl⟩
theorem sl23 : Tryd.prog.underlying 23 = some (.slice 43) := Tryd.underlying23
theorem ty24 : Ty Tryd.prog 24 1 false (.slice none 0 0) 24 := ⟨by kernel_rfl, by kernel_rfl⟩
theorem sl24 : Tryd.prog.underlying 24 = some (.slice 26) := Tryd.underlying24
theorem ty26 : Ty Tryd.prog 26 5 true (.agg #[.int .i64 0, .int .i64 0, .int .i64 0, .string ⟨#[]⟩, .slice none 0 0]) 64 := ⟨by kernel_rfl, by kernel_rfl⟩
theorem fd26_0 : Fd Tryd.prog 26 0 0 3 := ⟨_, _, Tryd.underlying26, rfl, rfl, rfl⟩
theorem fd26_1 : Fd Tryd.prog 26 1 1 3 := ⟨_, _, Tryd.underlying26, rfl, rfl, rfl⟩
theorem fd26_2 : Fd Tryd.prog 26 2 2 3 := ⟨_, _, Tryd.underlying26, rfl, rfl, rfl⟩
theorem fd26_3 : Fd Tryd.prog 26 3 3 9 := ⟨_, _, Tryd.underlying26, rfl, rfl, rfl⟩
theorem fd26_4 : Fd Tryd.prog 26 4 4 24 := ⟨_, _, Tryd.underlying26, rfl, rfl, rfl⟩
theorem ty28 : Ty Tryd.prog 28 10 true (.agg #[.string ⟨#[]⟩, .slice none 0 0, .slice none 0 0, .slice none 0 0, .int .i64 0, .int .i64 0, .int .i64 0, .string ⟨#[]⟩, .slice none 0 0, .int .i64 0]) 160 := ⟨by kernel_rfl, by kernel_rfl⟩
theorem fd28_0 : Fd Tryd.prog 28 0 0 9 := ⟨_, _, Tryd.underlying28, rfl, rfl, rfl⟩
theorem fd28_1 : Fd Tryd.prog 28 1 1 22 := ⟨_, _, Tryd.underlying28, rfl, rfl, rfl⟩
theorem fd28_2 : Fd Tryd.prog 28 2 2 22 := ⟨_, _, Tryd.underlying28, rfl, rfl, rfl⟩
theorem fd28_3 : Fd Tryd.prog 28 3 3 23 := ⟨_, _, Tryd.underlying28, rfl, rfl, rfl⟩
theorem fd28_4 : Fd Tryd.prog 28 4 4 26 := ⟨_, _, Tryd.underlying28, rfl, rfl, rfl⟩
theorem fd28_5 : Fd Tryd.prog 28 5 9 3 := ⟨_, _, Tryd.underlying28, rfl, rfl, rfl⟩
theorem ty30 : Ty Tryd.prog 30 1 false (.nilFunc) 8 := ⟨by kernel_rfl, by kernel_rfl⟩
theorem ty31 : Ty Tryd.prog 31 1 false (.int .i64 0) 8 := ⟨by kernel_rfl, by kernel_rfl⟩
theorem un31 : Tryd.prog.underlying 31 = some (.int .i64) := Tryd.underlying31
theorem ty36 : Ty Tryd.prog 36 1 false (.slice none 0 0) 24 := ⟨by kernel_rfl, by kernel_rfl⟩
theorem sl36 : Tryd.prog.underlying 36 = some (.slice 52) := Tryd.underlying36
theorem ty43 : Ty Tryd.prog 43 8 true (.agg #[.string ⟨#[]⟩, .int .i64 0, .int .i64 0, .int .i64 0, .int .i64 0, .int .i64 0, .string ⟨#[]⟩, .slice none 0 0]) 96 := ⟨by kernel_rfl, by kernel_rfl⟩
theorem fd43_0 : Fd Tryd.prog 43 0 0 9 := ⟨_, _, Tryd.underlying43, rfl, rfl, rfl⟩
theorem fd43_1 : Fd Tryd.prog 43 1 1 3 := ⟨_, _, Tryd.underlying43, rfl, rfl, rfl⟩
theorem fd43_2 : Fd Tryd.prog 43 2 2 3 := ⟨_, _, Tryd.underlying43, rfl, rfl, rfl⟩
theorem fd43_3 : Fd Tryd.prog 43 3 3 26 := ⟨_, _, Tryd.underlying43, rfl, rfl, rfl⟩
theorem ty52 : Ty Tryd.prog 52 13 true (.agg #[.int .i64 0, .int .i64 0, .int .i64 0, .string ⟨#[]⟩, .slice none 0 0, .slice none 0 0, .slice none 0 0, .int .i64 0, .int .i64 0, .int .i64 0, .string ⟨#[]⟩, .slice none 0 0, .int .i64 0]) 184 := ⟨by kernel_rfl, by kernel_rfl⟩
theorem fd52_0 : Fd Tryd.prog 52 0 0 3 := ⟨_, _, Tryd.underlying52, rfl, rfl, rfl⟩
theorem fd52_1 : Fd Tryd.prog 52 1 1 3 := ⟨_, _, Tryd.underlying52, rfl, rfl, rfl⟩
theorem fd52_2 : Fd Tryd.prog 52 2 2 3 := ⟨_, _, Tryd.underlying52, rfl, rfl, rfl⟩
theorem fd52_3 : Fd Tryd.prog 52 3 3 28 := ⟨_, _, Tryd.underlying52, rfl, rfl, rfl⟩
theorem ty53 : Ty Tryd.prog 53 1 false (.slice none 0 0) 24 := ⟨by kernel_rfl, by kernel_rfl⟩
theorem sl53 : Tryd.prog.underlying 53 = some (.slice 64) := Tryd.underlying53
theorem ty57 : Ty Tryd.prog 57 1 false (.nilFunc) 8 := ⟨by kernel_rfl, by kernel_rfl⟩
theorem ty64 : Ty Tryd.prog 64 4 true (.agg #[.int .i64 0, .string ⟨#[]⟩, .int .i64 0, .int .i64 0]) 40 := ⟨by kernel_rfl, by kernel_rfl⟩
theorem fd64_0 : Fd Tryd.prog 64 0 0 3 := ⟨_, _, Tryd.underlying64, rfl, rfl, rfl⟩
theorem fd64_1 : Fd Tryd.prog 64 1 1 9 := ⟨_, _, Tryd.underlying64, rfl, rfl, rfl⟩
theorem fd64_2 : Fd Tryd.prog 64 2 2 3 := ⟨_, _, Tryd.underlying64, rfl, rfl, rfl⟩
theorem fd64_3 : Fd Tryd.prog 64 3 3 3 := ⟨_, _, Tryd.underlying64, rfl, rfl, rfl⟩
theorem ty68 : Ty Tryd.prog 68 1 false (.slice none 0 0) 24 := ⟨by kernel_rfl, by kernel_rfl⟩
theorem sl68 : Tryd.prog.underlying 68 = some (.slice 5) := Tryd.underlying68
theorem ty75 : Ty Tryd.prog 75 1 false (.nilFunc) 8 := ⟨by kernel_rfl, by kernel_rfl⟩
theorem ty84 : Ty Tryd.prog 84 1 false (.int .i64 0) 8 := ⟨by kernel_rfl, by kernel_rfl⟩
theorem un84 : Tryd.prog.underlying 84 = some (.int .i64) := Tryd.underlying84
theorem ty89 : Ty Tryd.prog 89 1 false (.pointer none) 8 := ⟨by kernel_rfl, by kernel_rfl⟩
theorem ty91 : Ty Tryd.prog 91 3 true (.agg #[.string ⟨#[]⟩, .int .i64 0, .slice none 0 0]) 48 := ⟨by kernel_rfl, by kernel_rfl⟩
theorem fd91_0 : Fd Tryd.prog 91 0 0 9 := ⟨_, _, Tryd.underlying91, rfl, rfl, rfl⟩
theorem fd91_1 : Fd Tryd.prog 91 1 1 3 := ⟨_, _, Tryd.underlying91, rfl, rfl, rfl⟩
theorem fd91_2 : Fd Tryd.prog 91 2 2 53 := ⟨_, _, Tryd.underlying91, rfl, rfl, rfl⟩
theorem ty102 : Ty Tryd.prog 102 1 true (.agg #[.int .i64 0]) 8 := ⟨by kernel_rfl, by kernel_rfl⟩
theorem fd102_0 : Fd Tryd.prog 102 0 0 31 := ⟨_, _, Tryd.underlying102, rfl, rfl, rfl⟩
theorem ty107 : Ty Tryd.prog 107 1 false (.nilFunc) 8 := ⟨by kernel_rfl, by kernel_rfl⟩
theorem ty110 : Ty Tryd.prog 110 6 true (.agg #[.int .i64 0, .int .i64 0, .int .i64 0, .string ⟨#[]⟩, .slice none 0 0, .int .i64 0]) 72 := ⟨by kernel_rfl, by kernel_rfl⟩
theorem fd110_0 : Fd Tryd.prog 110 0 0 26 := ⟨_, _, Tryd.underlying110, rfl, rfl, rfl⟩
theorem fd110_1 : Fd Tryd.prog 110 1 5 3 := ⟨_, _, Tryd.underlying110, rfl, rfl, rfl⟩
theorem ty113 : Ty Tryd.prog 113 5 true (.agg #[.nilFunc, .nilFunc, .nilFunc, .nilFunc, .nilFunc]) 40 := ⟨by kernel_rfl, by kernel_rfl⟩
theorem un113 : Tryd.prog.underlying 113 = some (.array 5 75) := Tryd.underlying113
theorem ty119 : Ty Tryd.prog 119 1 false (.nilIface) 16 := ⟨by kernel_rfl, by kernel_rfl⟩
theorem ty120 : Ty Tryd.prog 120 1 false (.nilIface) 16 := ⟨by kernel_rfl, by kernel_rfl⟩
theorem ty129 : Ty Tryd.prog 129 1 false (.nilFunc) 8 := ⟨by kernel_rfl, by kernel_rfl⟩
theorem ty131 : Ty Tryd.prog 131 1 false (.slice none 0 0) 24 := ⟨by kernel_rfl, by kernel_rfl⟩
theorem sl131 : Tryd.prog.underlying 131 = some (.slice 3) := Tryd.underlying131
theorem en3 : Ent Tryd.prog 3 := ent_of Tryd.func3 (by kernel_rfl) rfl
theorem en4 : Ent Tryd.prog 4 := ent_of Tryd.func4 (by kernel_rfl) rfl
theorem en5 : Ent Tryd.prog 5 := ent_of Tryd.func5 (by kernel_rfl) rfl
theorem en6 : Ent Tryd.prog 6 := ent_of Tryd.func6 (by kernel_rfl) rfl
theorem en7 : Ent Tryd.prog 7 := ent_of Tryd.func7 (by kernel_rfl) rfl
theorem en8 : Ent Tryd.prog 8 := ent_of Tryd.func8 (by kernel_rfl) rfl
theorem en9 : Ent Tryd.prog 9 := ent_of Tryd.func9 (by kernel_rfl) rfl
theorem en10 : Ent Tryd.prog 10 := ent_of Tryd.func10 (by kernel_rfl) rfl
theorem en11 : Ent Tryd.prog 11 := ent_of Tryd.func11 (by kernel_rfl) rfl
theorem en12 : Ent Tryd.prog 12 := ent_of Tryd.func12 (by kernel_rfl) rfl
theorem en13 : Ent Tryd.prog 13 := ent_of Tryd.func13 (by kernel_rfl) rfl
theorem en14 : Ent Tryd.prog 14 := ent_of Tryd.func14 (by kernel_rfl) rfl
theorem en15 : Ent Tryd.prog 15 := ent_of Tryd.func15 (by kernel_rfl) rfl
theorem en16 : Ent Tryd.prog 16 := ent_of Tryd.func16 (by kernel_rfl) rfl
theorem en17 : Ent Tryd.prog 17 := ent_of Tryd.func17 (by kernel_rfl) rfl
theorem en18 : Ent Tryd.prog 18 := ent_of Tryd.func18 (by kernel_rfl) rfl
theorem en19 : Ent Tryd.prog 19 := ent_of Tryd.func19 (by kernel_rfl) rfl
theorem en20 : Ent Tryd.prog 20 := ent_of Tryd.func20 (by kernel_rfl) rfl
theorem en21 : Ent Tryd.prog 21 := ent_of Tryd.func21 (by kernel_rfl) rfl
theorem en22 : Ent Tryd.prog 22 := ent_of Tryd.func22 (by kernel_rfl) rfl
theorem en23 : Ent Tryd.prog 23 := ent_of Tryd.func23 (by kernel_rfl) rfl
theorem en24 : Ent Tryd.prog 24 := ent_of Tryd.func24 (by kernel_rfl) rfl
theorem en25 : Ent Tryd.prog 25 := ent_of Tryd.func25 (by kernel_rfl) rfl
theorem en26 : Ent Tryd.prog 26 := ent_of Tryd.func26 (by kernel_rfl) rfl
theorem en27 : Ent Tryd.prog 27 := ent_of Tryd.func27 (by kernel_rfl) rfl
theorem en28 : Ent Tryd.prog 28 := ent_of Tryd.func28 (by kernel_rfl) rfl
theorem en29 : Ent Tryd.prog 29 := ent_of Tryd.func29 (by kernel_rfl) rfl
theorem en30 : Ent Tryd.prog 30 := ent_of Tryd.func30 (by kernel_rfl) rfl
theorem en31 : Ent Tryd.prog 31 := ent_of Tryd.func31 (by kernel_rfl) rfl
theorem en32 : Ent Tryd.prog 32 := ent_of Tryd.func32 (by kernel_rfl) rfl
theorem en33 : Ent Tryd.prog 33 := ent_of Tryd.func33 (by kernel_rfl) rfl
theorem en34 : Ent Tryd.prog 34 := ent_of Tryd.func34 (by kernel_rfl) rfl
theorem en35 : Ent Tryd.prog 35 := ent_of Tryd.func35 (by kernel_rfl) rfl
theorem en36 : Ent Tryd.prog 36 := ent_of Tryd.func36 (by kernel_rfl) rfl
theorem en37 : Ent Tryd.prog 37 := ent_of Tryd.func37 (by kernel_rfl) rfl
theorem en38 : Ent Tryd.prog 38 := ent_of Tryd.func38 (by kernel_rfl) rfl
theorem en39 : Ent Tryd.prog 39 := ent_of Tryd.func39 (by kernel_rfl) rfl
theorem en40 : Ent Tryd.prog 40 := ent_of Tryd.func40 (by kernel_rfl) rfl
theorem en41 : Ent Tryd.prog 41 := ent_of Tryd.func41 (by kernel_rfl) rfl
theorem en42 : Ent Tryd.prog 42 := ent_of Tryd.func42 (by kernel_rfl) rfl
theorem en43 : Ent Tryd.prog 43 := ent_of Tryd.func43 (by kernel_rfl) rfl
theorem en44 : Ent Tryd.prog 44 := ent_of Tryd.func44 (by kernel_rfl) rfl
theorem en45 : Ent Tryd.prog 45 := ent_of Tryd.func45 (by kernel_rfl) rfl
theorem en46 : Ent Tryd.prog 46 := ent_of Tryd.func46 (by kernel_rfl) rfl
theorem en47 : Ent Tryd.prog 47 := ent_of Tryd.func47 (by kernel_rfl) rfl
theorem en48 : Ent Tryd.prog 48 := ent_of Tryd.func48 (by kernel_rfl) rfl
theorem en49 : Ent Tryd.prog 49 := ent_of Tryd.func49 (by kernel_rfl) rfl
theorem en50 : Ent Tryd.prog 50 := ent_of Tryd.func50 (by kernel_rfl) rfl
theorem en51 : Ent Tryd.prog 51 := ent_of Tryd.func51 (by kernel_rfl) rfl
theorem en52 : Ent Tryd.prog 52 := ent_of Tryd.func52 (by kernel_rfl) rfl
theorem en53 : Ent Tryd.prog 53 := ent_of Tryd.func53 (by kernel_rfl) rfl
theorem en54 : Ent Tryd.prog 54 := ent_of Tryd.func54 (by kernel_rfl) rfl
theorem en55 : Ent Tryd.prog 55 := ent_of Tryd.func55 (by kernel_rfl) rfl
theorem en56 : Ent Tryd.prog 56 := ent_of Tryd.func56 (by kernel_rfl) rfl
theorem en57 : Ent Tryd.prog 57 := ent_of Tryd.func57 (by kernel_rfl) rfl
theorem en58 : Ent Tryd.prog 58 := ent_of Tryd.func58 (by kernel_rfl) rfl
theorem en59 : Ent Tryd.prog 59 := ent_of Tryd.func59 (by kernel_rfl) rfl
theorem en60 : Ent Tryd.prog 60 := ent_of Tryd.func60 (by kernel_rfl) rfl
theorem en61 : Ent Tryd.prog 61 := ent_of Tryd.func61 (by kernel_rfl) rfl
theorem en62 : Ent Tryd.prog 62 := ent_of Tryd.func62 (by kernel_rfl) rfl
theorem en63 : Ent Tryd.prog 63 := ent_of Tryd.func63 (by kernel_rfl) rfl
theorem en64 : Ent Tryd.prog 64 := ent_of Tryd.func64 (by kernel_rfl) rfl
theorem en65 : Ent Tryd.prog 65 := ent_of Tryd.func65 (by kernel_rfl) rfl
theorem en66 : Ent Tryd.prog 66 := ent_of Tryd.func66 (by kernel_rfl) rfl
theorem en67 : Ent Tryd.prog 67 := ent_of Tryd.func67 (by kernel_rfl) rfl
theorem en68 : Ent Tryd.prog 68 := ent_of Tryd.func68 (by kernel_rfl) rfl
theorem en69 : Ent Tryd.prog 69 := ent_of Tryd.func69 (by kernel_rfl) rfl
theorem en70 : Ent Tryd.prog 70 := ent_of Tryd.func70 (by kernel_rfl) rfl
theorem en71 : Ent Tryd.prog 71 := ent_of Tryd.func71 (by kernel_rfl) rfl
theorem en72 : Ent Tryd.prog 72 := ent_of Tryd.func72 (by kernel_rfl) rfl
theorem en73 : Ent Tryd.prog 73 := ent_of Tryd.func73 (by kernel_rfl) rfl
theorem en74 : Ent Tryd.prog 74 := ent_of Tryd.func74 (by kernel_rfl) rfl
theorem en75 : Ent Tryd.prog 75 := ent_of Tryd.func75 (by kernel_rfl) rfl
theorem en76 : Ent Tryd.prog 76 := ent_of Tryd.func76 (by kernel_rfl) rfl
theorem en77 : Ent Tryd.prog 77 := ent_of Tryd.func77 (by kernel_rfl) rfl
theorem en78 : Ent Tryd.prog 78 := ent_of Tryd.func78 (by kernel_rfl) rfl
theorem en79 : Ent Tryd.prog 79 := ent_of Tryd.func79 (by kernel_rfl) rfl
theorem en80 : Ent Tryd.prog 80 := ent_of Tryd.func80 (by kernel_rfl) rfl
theorem en81 : Ent Tryd.prog 81 := ent_of Tryd.func81 (by kernel_rfl) rfl
theorem en82 : Ent Tryd.prog 82 := ent_of Tryd.func82 (by kernel_rfl) rfl
theorem en83 : Ent Tryd.prog 83 := ent_of Tryd.func83 (by kernel_rfl) rfl
theorem en84 : Ent Tryd.prog 84 := ent_of Tryd.func84 (by kernel_rfl) rfl
theorem en85 : Ent Tryd.prog 85 := ent_of Tryd.func85 (by kernel_rfl) rfl
theorem en86 : Ent Tryd.prog 86 := ent_of Tryd.func86 (by kernel_rfl) rfl
theorem en87 : Ent Tryd.prog 87 := ent_of Tryd.func87 (by kernel_rfl) rfl
theorem en88 : Ent Tryd.prog 88 := ent_of Tryd.func88 (by kernel_rfl) rfl
theorem en89 : Ent Tryd.prog 89 := ent_of Tryd.func89 (by kernel_rfl) rfl
theorem en90 : Ent Tryd.prog 90 := ent_of Tryd.func90 (by kernel_rfl) rfl
theorem en91 : Ent Tryd.prog 91 := ent_of Tryd.func91 (by kernel_rfl) rfl
theorem en92 : Ent Tryd.prog 92 := ent_of Tryd.func92 (by kernel_rfl) rfl
theorem en93 : Ent Tryd.prog 93 := ent_of Tryd.func93 (by kernel_rfl) rfl
theorem en94 : Ent Tryd.prog 94 := ent_of Tryd.func94 (by kernel_rfl) rfl
theorem en95 : Ent Tryd.prog 95 := ent_of Tryd.func95 (by kernel_rfl) rfl
theorem en96 : Ent Tryd.prog 96 := ent_of Tryd.func96 (by kernel_rfl) rfl
theorem en97 : Ent Tryd.prog 97 := ent_of Tryd.func97 (by kernel_rfl) rfl
theorem en98 : Ent Tryd.prog 98 := ent_of Tryd.func98 (by kernel_rfl) rfl
theorem en99 : Ent Tryd.prog 99 := ent_of Tryd.func99 (by kernel_rfl) rfl
theorem en100 : Ent Tryd.prog 100 := ent_of Tryd.func100 (by kernel_rfl) rfl
theorem en101 : Ent Tryd.prog 101 := ent_of Tryd.func101 (by kernel_rfl) rfl
theorem en102 : Ent Tryd.prog 102 := ent_of Tryd.func102 (by kernel_rfl) rfl
theorem en103 : Ent Tryd.prog 103 := ent_of Tryd.func103 (by kernel_rfl) rfl
theorem en104 : Ent Tryd.prog 104 := ent_of Tryd.func104 (by kernel_rfl) rfl
theorem en105 : Ent Tryd.prog 105 := ent_of Tryd.func105 (by kernel_rfl) rfl
theorem en106 : Ent Tryd.prog 106 := ent_of Tryd.func106 (by kernel_rfl) rfl
theorem en107 : Ent Tryd.prog 107 := ent_of Tryd.func107 (by kernel_rfl) rfl
theorem en108 : Ent Tryd.prog 108 := ent_of Tryd.func108 (by kernel_rfl) rfl
theorem en109 : Ent Tryd.prog 109 := ent_of Tryd.func109 (by kernel_rfl) rfl
theorem en110 : Ent Tryd.prog 110 := ent_of Tryd.func110 (by kernel_rfl) rfl
theorem en111 : Ent Tryd.prog 111 := ent_of Tryd.func111 (by kernel_rfl) rfl
theorem en112 : Ent Tryd.prog 112 := ent_of Tryd.func112 (by kernel_rfl) rfl
theorem en113 : Ent Tryd.prog 113 := ent_of Tryd.func113 (by kernel_rfl) rfl
theorem en114 : Ent Tryd.prog 114 := ent_of Tryd.func114 (by kernel_rfl) rfl
theorem en115 : Ent Tryd.prog 115 := ent_of Tryd.func115 (by kernel_rfl) rfl
theorem en116 : Ent Tryd.prog 116 := ent_of Tryd.func116 (by kernel_rfl) rfl
theorem en117 : Ent Tryd.prog 117 := ent_of Tryd.func117 (by kernel_rfl) rfl
theorem en118 : Ent Tryd.prog 118 := ent_of Tryd.func118 (by kernel_rfl) rfl
theorem en119 : Ent Tryd.prog 119 := ent_of Tryd.func119 (by kernel_rfl) rfl
theorem en120 : Ent Tryd.prog 120 := ent_of Tryd.func120 (by kernel_rfl) rfl
theorem en121 : Ent Tryd.prog 121 := ent_of Tryd.func121 (by kernel_rfl) rfl
theorem en122 : Ent Tryd.prog 122 := ent_of Tryd.func122 (by kernel_rfl) rfl
theorem en123 : Ent Tryd.prog 123 := ent_of Tryd.func123 (by kernel_rfl) rfl
theorem en124 : Ent Tryd.prog 124 := ent_of Tryd.func124 (by kernel_rfl) rfl
theorem en125 : Ent Tryd.prog 125 := ent_of Tryd.func125 (by kernel_rfl) rfl
theorem en126 : Ent Tryd.prog 126 := ent_of Tryd.func126 (by kernel_rfl) rfl
theorem en127 : Ent Tryd.prog 127 := ent_of Tryd.func127 (by kernel_rfl) rfl
theorem en128 : Ent Tryd.prog 128 := ent_of Tryd.func128 (by kernel_rfl) rfl
theorem en129 : Ent Tryd.prog 129 := ent_of Tryd.func129 (by kernel_rfl) rfl
theorem en130 : Ent Tryd.prog 130 := ent_of Tryd.func130 (by kernel_rfl) rfl
theorem en131 : Ent Tryd.prog 131 := ent_of Tryd.func131 (by kernel_rfl) rfl
theorem en132 : Ent Tryd.prog 132 := ent_of Tryd.func132 (by kernel_rfl) rfl
theorem en134 : Ent Tryd.prog 134 := ent_of Tryd.func134 (by kernel_rfl) rfl
theorem en135 : Ent Tryd.prog 135 := ent_of Tryd.func135 (by kernel_rfl) rfl
theorem en136 : Ent Tryd.prog 136 := ent_of Tryd.func136 (by kernel_rfl) rfl
theorem en137 : Ent Tryd.prog 137 := ent_of Tryd.func137 (by kernel_rfl) rfl
theorem en140 : Ent Tryd.prog 140 := ent_of Tryd.func140 (by kernel_rfl) rfl
theorem en141 : Ent Tryd.prog 141 := ent_of Tryd.func141 (by kernel_rfl) rfl
theorem en142 : Ent Tryd.prog 142 := ent_of Tryd.func142 (by kernel_rfl) rfl
theorem en143 : Ent Tryd.prog 143 := ent_of Tryd.func143 (by kernel_rfl) rfl
theorem en144 : Ent Tryd.prog 144 := ent_of Tryd.func144 (by kernel_rfl) rfl
theorem en145 : Ent Tryd.prog 145 := ent_of Tryd.func145 (by kernel_rfl) rfl
theorem en146 : Ent Tryd.prog 146 := ent_of Tryd.func146 (by kernel_rfl) rfl
theorem en147 : Ent Tryd.prog 147 := ent_of Tryd.func147 (by kernel_rfl) rfl
theorem en148 : Ent Tryd.prog 148 := ent_of Tryd.func148 (by kernel_rfl) rfl
theorem en149 : Ent Tryd.prog 149 := ent_of Tryd.func149 (by kernel_rfl) rfl
theorem en150 : Ent Tryd.prog 150 := ent_of Tryd.func150 (by kernel_rfl) rfl
theorem en151 : Ent Tryd.prog 151 := ent_of Tryd.func151 (by kernel_rfl) rfl
theorem en172 : Ent Tryd.prog 172 := ent_of Tryd.func172 (by kernel_rfl) rfl
theorem en173 : Ent Tryd.prog 173 := ent_of Tryd.func173 (by kernel_rfl) rfl
theorem en174 : Ent Tryd.prog 174 := ent_of Tryd.func174 (by kernel_rfl) rfl
theorem en175 : Ent Tryd.prog 175 := ent_of Tryd.func175 (by kernel_rfl) rfl
theorem en176 : Ent Tryd.prog 176 := ent_of Tryd.func176 (by kernel_rfl) rfl
end Go.Proofs.YtbbflenaeihmeaaDoor
