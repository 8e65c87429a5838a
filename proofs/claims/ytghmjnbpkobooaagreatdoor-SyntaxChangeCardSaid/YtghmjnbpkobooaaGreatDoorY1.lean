/-
  What the parser and the printer of policies come to. Plain Lean.
-/
import Derived.Test.YtghmjnbpkobooaaGreatDoorQ5
set_option linter.unusedVariables false
set_option linter.unusedSimpArgs false
namespace Go.Proofs.YtghmjnbpkobooaaGreatDoor
open Go Go.RowKit

def wPolicy : ByteArray := ⟨#[112, 111, 108, 105, 99, 121]⟩
def wMode : ByteArray := ⟨#[109, 111, 100, 101]⟩
def wOld : ByteArray := ⟨#[111, 108, 100]⟩
def wNew : ByteArray := ⟨#[110, 101, 119]⟩
def wBoth : ByteArray := ⟨#[98, 111, 116, 104]⟩
def wEither : ByteArray := ⟨#[101, 105, 116, 104, 101, 114]⟩
def wOffice : ByteArray := ⟨#[111, 102, 102, 105, 99, 101]⟩
def wKind : ByteArray := ⟨#[107, 105, 110, 100]⟩
def wRule : ByteArray := ⟨#[114, 117, 108, 101]⟩
def wThink : ByteArray := ⟨#[116, 104, 105, 110, 107]⟩
def wChange : ByteArray := ⟨#[99, 104, 97, 110, 103, 101]⟩
def wSome : ByteArray := ⟨#[115, 111, 109, 101]⟩
def wWeight : ByteArray := ⟨#[119, 101, 105, 103, 104, 116]⟩
def wOf : ByteArray := ⟨#[111, 102]⟩
def wUpto : ByteArray := ⟨#[117, 112, 116, 111]⟩
def wElse : ByteArray := ⟨#[101, 108, 115, 101]⟩
def sSemi : ByteArray := ⟨#[59]⟩
def sEq : ByteArray := ⟨#[61]⟩
def sLp : ByteArray := ⟨#[40]⟩
def sRp : ByteArray := ⟨#[41]⟩
def sComma : ByteArray := ⟨#[44]⟩
def nilS : ByteArray := ⟨#[]⟩
def resW : List ByteArray := [⟨#[112, 111, 108, 105, 99, 121]⟩, ⟨#[109, 111, 100, 101]⟩, ⟨#[111, 108, 100]⟩, ⟨#[110, 101, 119]⟩, ⟨#[98, 111, 116, 104]⟩, ⟨#[101, 105, 116, 104, 101, 114]⟩, ⟨#[111, 102, 102, 105, 99, 101]⟩, ⟨#[107, 105, 110, 100]⟩, ⟨#[114, 117, 108, 101]⟩, ⟨#[116, 104, 105, 110, 107]⟩, ⟨#[99, 104, 97, 110, 103, 101]⟩, ⟨#[115, 111, 109, 101]⟩, ⟨#[119, 101, 105, 103, 104, 116]⟩, ⟨#[111, 102]⟩, ⟨#[117, 112, 116, 111]⟩, ⟨#[101, 108, 115, 101]⟩]
def resB (s : ByteArray) : Bool := resW.any fun u => decide (u = s)
/-! ### Reading -/
inductive PR (α : Type) where
  | ok (x : α) (r : List Tk)
  | bad (r : List Tk)
def PR.go {α β : Type} : PR α → (α → List Tk → PR β) → PR β
  | .ok x r, f => f x r
  | .bad r, _ => .bad r
def isT (x : ByteArray) : List Tk → Bool
  | [] => false
  | t :: _ => !decide (t.kind = 2) && decide (t.text = x)
def wantT (x : ByteArray) (l : List Tk) : PR Unit := if isT x l = true then .ok () l.tail else .bad l
def wantsT : List ByteArray → List Tk → PR Unit
  | [], l => .ok () l
  | x :: xs, l => (wantT x l).go fun _ l => wantsT xs l
def nameT : List Tk → PR ByteArray
  | [] => .bad []
  | t :: r => if (decide (t.kind = 1) && !resB t.text) = true then .ok t.text r else .bad (t :: r)
def numT : List Tk → PR Int
  | [] => .bad []
  | t :: r => if t.kind = 2 then .ok t.n r else .bad (t :: r)
def manyT {α : Type} (x : ByteArray) (item : List Tk → PR α) : Nat → List Tk → PR (List α)
  | 0, l => .bad l
  | f + 1, l => if isT x l = true then (item l).go fun a l => (manyT x item f l).go fun az l => .ok (a :: az) l else .ok [] l
def insideT (pe : List Tk → PR Ex) (l : List Tk) : PR Ex := (wantsT [sLp] l).go fun _ l => (pe l).go fun x l => (wantsT [sRp] l).go fun _ l => .ok x l
def nextT (pe : List Tk → PR Ex) (l : List Tk) : PR Ex := (wantsT [sComma] l).go fun _ l => pe l
def someX (l : List Tk) : PR Ex := (nameT l).go fun s l => .ok ⟨1, 0, 0, s, []⟩ l
def weightX (l : List Tk) : PR Ex := (numT l).go fun n l => (wantsT [wOf] l).go fun _ l => (nameT l).go fun s l => .ok ⟨2, n, 0, s, []⟩ l
def uptoX (pe : List Tk → PR Ex) (l : List Tk) : PR Ex := (numT l).go fun n l => (insideT pe l).go fun a l => (wantsT [wElse] l).go fun _ l => (insideT pe l).go fun b l => .ok ⟨4, n, 0, nilS, [a, b]⟩ l
def ofX (pe : List Tk → PR Ex) (f : Nat) (l : List Tk) : PR Ex := (numT l).go fun n l => (wantsT [wOf, sLp] l).go fun _ l => (pe l).go fun a l => (manyT sComma (nextT pe) f l).go fun az l => (wantsT [sRp] l).go fun _ l => .ok ⟨3, n, 0, nilS, a :: az⟩ l
def exprT : Nat → List Tk → PR Ex
  | 0, l => .bad l
  | f + 1, l =>
    if isT wSome l = true then someX l.tail
    else if isT wWeight l = true then weightX l.tail
    else if isT wUpto l = true then uptoX (exprT f) l.tail
    else ofX (exprT f) f l
def modeT (l : List Tk) : PR Int :=
  if isT wOld l = true then .ok 1 l.tail else if isT wNew l = true then .ok 2 l.tail else if isT wBoth l = true then .ok 3 l.tail else if isT wEither l = true then .ok 4 l.tail else .bad l
def headT (l : List Tk) : PR (ByteArray × Int) := (wantsT [wPolicy] l).go fun _ l => (nameT l).go fun s l => (wantsT [sSemi, wMode] l).go fun _ l => (modeT l).go fun m l => (wantsT [sSemi] l).go fun _ l => .ok (s, m) l
def declT (x : ByteArray) (l : List Tk) : PR ByteArray := (wantsT [x] l).go fun _ l => (nameT l).go fun s l => (wantsT [sSemi] l).go fun _ l => .ok s l
def ruleT (f : Nat) (l : List Tk) : PR Ru := (wantsT [wRule] l).go fun _ l => (nameT l).go fun k l => (wantsT [wThink] l).go fun _ l => (numT l).go fun n l => (wantsT [sEq] l).go fun _ l => (exprT f l).go fun x l => (wantsT [sSemi] l).go fun _ l => .ok ⟨k, 0, n, x⟩ l
def namesT (f : Nat) (l : List Tk) : PR (List ByteArray × List ByteArray) := (manyT wOffice (declT wOffice) f l).go fun o l => (manyT wKind (declT wKind) f l).go fun k l => .ok (o, k) l
def rulesT (f : Nat) (l : List Tk) : PR (List Ru × Ex) := (manyT wRule (ruleT f) f l).go fun rs l => (wantsT [wChange, sEq] l).go fun _ l => (exprT f l).go fun c l => (wantsT [sSemi] l).go fun _ l => .ok (rs, c) l
def endT (l : List Tk) : PR Unit := if l = [] then .ok () [] else .bad l
def policyT (f : Nat) (l : List Tk) : PR Po := (headT l).go fun h l => (namesT f l).go fun n l => (rulesT f l).go fun r l => (endT l).go fun _ l => .ok ⟨h.1, n.2, n.1, r.1, r.2, h.2⟩ l
def placeT : List Tk → Int → Int
  | [], e => e
  | t :: _, _ => t.at_
def zeroE : Ex := ⟨0, 0, 0, nilS, []⟩
def zeroP : Po := ⟨nilS, [], [], [], zeroE, 0⟩
def readR (e : Int) : PR Po → Po × Int × Int
  | .ok p _ => (p, 0, 0)
  | .bad r => (zeroP, placeT r e, 190)
/-- More than enough for any list of tokens that is read here. -/
def fuelN : Nat := 200000
def readE (l : List Tk) (e : Int) : Po × Int × Int := readR e (policyT fuelN l)
def parseE (src : ByteArray) : Po × Int × Int := if (lexE src).2.2 = 0 then readE (lexE src).1 (src.size : Int) else (zeroP, (lexE src).2)
/-! ### Writing -/
def wrd (s : ByteArray) : Tk := mkTk 1 s 0 0
def sgn (s : ByteArray) : Tk := mkTk 3 s 0 0
def num (n : Int) : Tk := mkTk 2 nilS n 0
mutual
def exprP : Ex → List Tk
  | ⟨k, n, no, nm, l⟩ =>
    if k = 1 then [wrd wSome, wrd nm] else if k = 2 then [wrd wWeight, num n, wrd wOf, wrd nm] else if k = 4 then [wrd wUpto, num n] ++ uptoP true l else [num n, wrd wOf, sgn sLp] ++ ofP true l ++ [sgn sRp]
def uptoP : Bool → List Ex → List Tk
  | _, [] => []
  | b, x :: l => (if b = true then [] else [wrd wElse]) ++ ([sgn sLp] ++ exprP x ++ [sgn sRp]) ++ uptoP false l
def ofP : Bool → List Ex → List Tk
  | _, [] => []
  | b, x :: l => (if b = true then [] else [sgn sComma]) ++ exprP x ++ ofP false l
end
def modeW (m : Int) : ByteArray := if m = 1 then wOld else if m = 2 then wNew else if m = 3 then wBoth else if m = 4 then wEither else nilS
def declP (x s : ByteArray) : List Tk := [wrd x, wrd s, sgn sSemi]
def ruleP (r : Ru) : List Tk := [wrd wRule, wrd r.kind, wrd wThink, num r.think, sgn sEq] ++ exprP r.expr ++ [sgn sSemi]
def headP (p : Po) : List Tk := [wrd wPolicy, wrd p.name, sgn sSemi, wrd wMode, wrd (modeW p.mode), sgn sSemi]
def declsP (x : ByteArray) (l : List ByteArray) : List Tk := (l.map (declP x)).flatten
def rulesP (l : List Ru) : List Tk := (l.map ruleP).flatten
def tailP (c : Ex) : List Tk := [wrd wChange, sgn sEq] ++ exprP c ++ [sgn sSemi]
def policyP (p : Po) : List Tk := headP p ++ declsP wOffice p.offices ++ declsP wKind p.kinds ++ rulesP p.rules ++ tailP p.change
theorem exprP_eq (x : Ex) : exprP x = if x.kind = 1 then [wrd wSome, wrd x.name] else if x.kind = 2 then [wrd wWeight, num x.n, wrd wOf, wrd x.name] else if x.kind = 4 then [wrd wUpto, num x.n] ++ uptoP true x.l else [num x.n, wrd wOf, sgn sLp] ++ ofP true x.l ++ [sgn sRp] := by
  cases x
  simp only [exprP]
def uptoI (i : Nat) (x : Ex) : List Tk := (if i = 0 then [] else [wrd wElse]) ++ ([sgn sLp] ++ exprP x ++ [sgn sRp])
def ofI (i : Nat) (x : Ex) : List Tk := (if i = 0 then [] else [sgn sComma]) ++ exprP x
theorem uptoP_app : ∀ (b : Bool) (l m : List Ex), uptoP b (l ++ m) = uptoP b l ++ uptoP (b && l.isEmpty) m
  | b, [], m => by simp [uptoP]
  | b, x :: l, m => by
    have := uptoP_app false l m
    simp only [List.cons_append, uptoP, this, List.append_assoc, Bool.false_and, List.isEmpty_cons, Bool.and_false]
theorem ofP_app : ∀ (b : Bool) (l m : List Ex), ofP b (l ++ m) = ofP b l ++ ofP (b && l.isEmpty) m
  | b, [], m => by simp [ofP]
  | b, x :: l, m => by
    have := ofP_app false l m
    simp only [List.cons_append, ofP, this, List.append_assoc, Bool.false_and, List.isEmpty_cons, Bool.and_false]
theorem uptoP_take {l : List Ex} {i : Nat} {x : Ex} (h : l[i]? = some x) : uptoP true (l.take (i + 1)) = uptoP true (l.take i) ++ uptoI i x := by
  have hi := (List.getElem?_eq_some_iff.1 h).1
  rw [take_some h, uptoP_app]
  cases i with
  | zero => simp [uptoP, uptoI]
  | succ i =>
    cases l with
    | nil => simp at hi
    | cons y l => simp [uptoP, uptoI]
theorem ofP_take {l : List Ex} {i : Nat} {x : Ex} (h : l[i]? = some x) : ofP true (l.take (i + 1)) = ofP true (l.take i) ++ ofI i x := by
  have hi := (List.getElem?_eq_some_iff.1 h).1
  rw [take_some h, ofP_app]
  cases i with
  | zero => simp [ofP, ofI]
  | succ i =>
    cases l with
    | nil => simp at hi
    | cons y l => simp [ofP, ofI]
end Go.Proofs.YtghmjnbpkobooaaGreatDoor
