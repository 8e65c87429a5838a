/-
  What resolving, counting and leading come to, where it is known ahead.
-/
import Derived.Test.YtbbflenaeihmeaaDoorP23
set_option linter.unusedVariables false
set_option linter.unusedSimpArgs false
set_option maxRecDepth 10000
set_option maxHeartbeats 4000000
namespace Go.Proofs.YtbbflenaeihmeaaDoor
open Go Go.RowKit

theorem RepS.openn {α : Type} {enc : α → List Dat} {I : Im} {sz n : Nat} {l : List α} {v : Value} (hr : RepS enc I sz l v) (hn : l.length = n) : ∃ A c, v = .slice A n c ∧ n ≤ c ∧ c ≤ 9223372036854775807 ∧ RepS enc I sz l (.slice A n c) := by
  subst hn
  exact RepS.open_ hr
theorem RepS.getn {α : Type} {enc : α → List Dat} {I : Im} {sz n : Nat} {l : List α} {A : Option Addr} {c : Nat} (hn : l.length = n) (hr : RepS enc I sz l (.slice A n c)) {i : Nat} {x : α} (hx : l[i]? = some x) :
    ∃ b off us, A = some ⟨b, off, none⟩ ∧ At I b (off + i * sz) us ∧ us.length = sz ∧ RepL I (enc x) us := by
  subst hn
  exact RepS.get hr hx
theorem Resolve_as {B I L w} (H : Hp B I w L) {q z : Po} {us : List Value} (hp : RepL I (encPo q) us) (hkd : At I 0 0 kindsV) (h : errOf q = 0) (hz : resolveP q = z) : Calls Tryd.prog 19 #[.agg us.toArray] w (Rt fun r w' => ∃ I' us', Le I I' ∧ Hp B I' w' L ∧ r = .tuple #[.agg us'.toArray, .int .i64 0] ∧ RepL I' (encPo z) us') := by
  have h1 := Resolve_c H hp hkd
  rw [h, resP_ok h, hz] at h1
  exact h1
theorem Resolve_bad {B I L w} (H : Hp B I w L) {q : Po} {us : List Value} (hp : RepL I (encPo q) us) (hkd : At I 0 0 kindsV) {e : Int} (h : ¬ errOf q = 0) (he : errOf q = e) : Calls Tryd.prog 19 #[.agg us.toArray] w (Rt fun r w' => ∃ I' us', Le I I' ∧ Hp B I' w' L ∧ r = .tuple #[.agg us'.toArray, .int .i64 e] ∧ RepL I' (encPo zeroPo) us') := by
  have h1 := Resolve_c H hp hkd
  rw [resP_err h, he] at h1
  exact h1
theorem Few_as {B I L w} (H : Hp B I w L) {q : Po} {us : List Value} (hp : RepL I (encPo q) us) (h : fewB q = true) : Calls Tryd.prog 18 #[.agg us.toArray] w (Rt fun r w' => r = .bool true ∧ Hp B I w' L) := by
  have h1 := Few_c H hp
  rw [h] at h1
  exact h1
theorem leads_ok {B I L w} (H : Hp B I w L) {off : List ByteArray} {x : Ex} {us : List Value} {vo : Value} (ho : RepS encS I 1 off vo) (hp : RepL I (encEx (resolveX off x)) us) (hx : allX (offG off) x = true) (hpc : (resolveX off x).pc ≤ 300) : Calls Tryd.prog 29 #[vo, .agg us.toArray] w (Rt fun r w' => ∃ I' us', Le I I' ∧ Hp B I' w' L ∧ r = .tuple #[.agg us'.toArray, .bool true] ∧ RepL I' (encEx (bareX 0 (resolveX off x))) us') := by
  have h1 := leads_c 1000000 (by omega) (Nat.le_refl _) H hp ho
  rw [lead_resolve off x hx] at h1
  exact h1
end Go.Proofs.YtbbflenaeihmeaaDoor
