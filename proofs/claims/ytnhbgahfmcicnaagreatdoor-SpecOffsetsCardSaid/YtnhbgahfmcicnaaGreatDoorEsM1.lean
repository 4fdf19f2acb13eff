/- A part of the proof of SpecEscapesCardSaid: the law answers true at every text, with no condition. -/
import Derived.Test.YtnhbgahfmcicnaaGreatDoorEsPAx0
import Derived.Test.YtnhbgahfmcicnaaGreatDoorEsG2b
section
namespace Go.Proofs.YtnhbgahfmcicnaaGreatDoor.PA
set_option linter.unusedVariables false
open Go.RowKit Go.Proofs.YtnhbgahfmcicnaaGreatDoorW.PrintWords Go.Proofs.YtnhbgahfmcicnaaGreatDoorW.PrintLast Go.Proofs.YtnhbgahfmcicnaaGreatDoorW.PrintMore
def isDig (c : Int) : Bool := decide (48 ≤ c) && decide (c ≤ 57)
def hdI : List UInt8 → Int
  | [] => 0
  | c :: _ => (c.toNat : Int)
def numC (m : Int) : Int → List UInt8 → Int × List UInt8
  | n, [] => (n, [])
  | n, c :: l => if isDig (c.toNat : Int) then numC m (mn (m + 1) (10 * n + ((c.toNat : Int) - 48))) l else (n, c :: l)
def skipC (b : UInt8) : List UInt8 → Option (List UInt8)
  | [] => none
  | c :: l => if c = b then some l else none
def posB (l : List UInt8) : Bool := isDig (hdI l) && decide (hdI l ≠ 48)
def placeC (l : List UInt8) : Int × List UInt8 :=
  if posB l then match skipC 36 (numC 64 0 l).2 with
    | some t => ((numC 64 0 l).1, t)
    | none => (0, l)
  else (0, l)
def starC (l : List UInt8) : Option (Int × List UInt8) :=
  if posB l then (skipC 36 (numC 64 0 l).2).map fun t => ((numC 64 0 l).1, t) else some (0, l)
abbrev Fld := Int × Bool × Int
def noFld : Fld := (-1, false, 0)
def fieldC (l : List UInt8) : Option (Fld × List UInt8) :=
  match skipC 42 l with
  | some t => (starC t).map fun x => ((-1, true, x.1), x.2)
  | none => some (((numC 10000 0 l).1, false, 0), (numC 10000 0 l).2)
def flagsC : Int → List UInt8 → Int × List UInt8
  | a, [] => (a, [])
  | a, c :: l => if flagVal (c.toNat : Int) = 0 then (a, c :: l) else flagsC (Go.bits .or .i64 a (flagVal (c.toNat : Int))) l
def lenC (l : List UInt8) : Int × List UInt8 := ((bestMod l 12 : Int), l.drop (modLen (bestMod l 12)))
def widB (l : List UInt8) : Bool := decide (hdI l = 42) || isDig (hdI l)
def widthC (l : List UInt8) : Option (Fld × List UInt8) := if widB l then fieldC l else some (noFld, l)
def precC (l : List UInt8) : Option (Fld × List UInt8) := match skipC 46 l with
  | some t => fieldC t
  | none => some (noFld, l)
def argC (pl nx n : Int) : Int × Int := if pl = 2 then (wrap64 (nx + 1), wrap64 (nx + 1)) else (n, nx)
structure RuleT where
  fl : Int
  ln : ByteArray
  wd : Bool
  pr : Bool
  ok : Bool
def bInt : ByteArray := ⟨#[105, 110, 116]⟩
def bFloat : ByteArray := ⟨#[102, 108, 111, 97, 116]⟩
def bChar : ByteArray := ⟨#[99, 104, 97, 114]⟩
def ruleC (c : Int) : RuleT :=
  if c = 100 ∨ c = 105 then ⟨55, bInt, true, true, true⟩
  else if c = 117 then ⟨49, bInt, true, true, true⟩
  else if c = 111 ∨ c = 120 ∨ c = 88 ∨ c = 98 ∨ c = 66 then ⟨25, bInt, true, true, true⟩
  else if c = 101 ∨ c = 69 ∨ c = 97 ∨ c = 65 then ⟨31, bFloat, true, true, true⟩
  else if c = 102 ∨ c = 70 ∨ c = 103 ∨ c = 71 then ⟨63, bFloat, true, true, true⟩
  else if c = 99 then ⟨1, bChar, true, false, true⟩
  else if c = 115 then ⟨1, bChar, true, true, true⟩
  else if c = 112 then ⟨1, ⟨#[]⟩, true, false, true⟩
  else if c = 110 then ⟨0, bInt, false, false, true⟩
  else ⟨0, ⟨#[]⟩, false, false, false⟩
def allowsC (s : ByteArray) (n : Int) : Bool :=
  if s = bInt then decide (0 ≤ n) && decide (n ≤ 7)
  else if s = bFloat then decide (n = 0) || (decide (n = 3) || (decide (8 ≤ n) && decide (n ≤ 11)))
  else if s = bChar then decide (n = 0) || decide (n = 3)
  else decide (n = 0)
def okC (r : RuleT) (fl ln : Int) (wd pr : Fld) : Bool :=
  decide (Go.bits .andNot .i64 fl r.fl = 0) && (allowsC r.ln ln && ((r.wd || (decide (wd.1 = -1) && !wd.2.1)) && (r.pr || (decide (pr.1 = -1) && !pr.2.1))))
def agrees (f : Fld) (own : Int) : Bool := !f.2.1 || (decide (0 < f.2.2) == decide (0 < own))
def modeOf (placed : Bool) : Int := if placed then 1 else 2
def starArg (pl nx : Int) (f : Fld) : Int × Int := if f.2.1 then argC pl nx f.2.2 else (0, nx)
structure ConvT where
  x : S35
  lg : Bool
  pl : Int
  nx : Int
  l : List UInt8
def convE (own fl : Int) (wd pr : Fld) (ln c pl nx : Int) (l : List UInt8) : Option ConvT :=
  if (ruleC c).ok = true then
    if pl = 0 ∨ pl = modeOf (decide (0 < own)) then
      if agrees wd own = true ∧ agrees pr own = true then
        let wa := starArg (modeOf (decide (0 < own))) nx wd
        let pa := starArg (modeOf (decide (0 < own))) wa.2 pr
        let ar := argC (modeOf (decide (0 < own))) pa.2 own
        if okC (ruleC c) fl ln wd pr = true then
          some ⟨⟨⟨#[]⟩, ar.1, fl, wd.1, wa.1, pr.1, pa.1, ln, c⟩,
            decide (10000 < wd.1) || (decide (10000 < pr.1) || ((wd.2.1 && decide (64 < wa.1)) || ((pr.2.1 && decide (64 < pa.1)) || decide (64 < ar.1)))), modeOf (decide (0 < own)), ar.2, l⟩
        else none
      else none
    else none
  else none
def convC (pl nx : Int) (l : List UInt8) : Option ConvT :=
  let ow := placeC l
  let fl := flagsC 0 ow.2
  (widthC fl.2).bind fun wd => (precC wd.2).bind fun pr =>
    let ln := lenC pr.2
    convE ow.1 fl.1 wd.1 pr.1 ln.1 (hdI ln.2) pl nx ln.2.tail
def isTxt (c : UInt8) : Bool := c != 37 && c != 0
def pieceC (full : Bool) (pl nx : Int) (l : List UInt8) : Except (Int × List UInt8) (S35 × Int × Int × List UInt8) :=
  match skipC 37 l with
  | none => if full then .error (2, l) else if hdI (l.dropWhile isTxt) = 0 ∧ l.dropWhile isTxt ≠ [] then .error (6, l.dropWhile isTxt)
      else .ok (⟨⟨(l.takeWhile isTxt).toArray⟩, 0, 0, -1, 0, -1, 0, 0, 0⟩, pl, nx, l.dropWhile isTxt)
  | some t => match skipC 37 t with
    | some t' => .ok (⟨⟨#[]⟩, 0, 0, -1, 0, -1, 0, 0, 37⟩, pl, nx, t')
    | none => match convC pl nx t with
      | none => .error (6, l)
      | some r => if r.lg then .error (2, l) else .ok (r.x, r.pl, r.nx, r.l)
def piecesC : Nat → List S35 → Int → Int → List UInt8 → Except (Int × List UInt8) (List S35)
  | 0, acc, _, _, _ => .ok acc
  | k + 1, acc, pl, nx, l => if l = [] then .ok acc else match pieceC (decide (acc.length = 500)) pl nx l with
    | .error e => .error e
    | .ok (x, pl', nx', l') => if acc.length = 500 then .error (2, l) else piecesC k (acc ++ [x]) pl' nx' l'
def allC (l : List S35) : List Int := l.flatMap fun x => [x.f4, x.f6, x.f1].filter fun n => !(n == 0)
end Go.Proofs.YtnhbgahfmcicnaaGreatDoor.PA
end
