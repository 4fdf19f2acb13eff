/- A part of the proof of the claim's statement. -/
import Derived.Test.YtnhbgahfmcicnaaGreatDoorPcPAx0
import Derived.Test.YtnhbgahfmcicnaaGreatDoorPcG2b
import Derived.Test.YtnhbgahfmcicnaaGreatDoorPcPAx9
import Derived.WalkLawsBesides
import Derived.Outline
import Derived.Test.YtnhbgahfmcicnaaGreatDoorPcPAx10
section
namespace Go.Proofs.YtnhbgahfmcicnaaGreatDoor.PA
set_option linter.unusedVariables false
open Go.RowKit Go.Proofs.YtnhbgahfmcicnaaGreatDoorW.PrintWords Go.Proofs.YtnhbgahfmcicnaaGreatDoorW.PrintLast Go.Proofs.YtnhbgahfmcicnaaGreatDoorW.PrintMore
def isDig (c : Int) : Bool := decide (48 ≤ c) && decide (c ≤ 57)
def hdI : List UInt8 → Int
 | [] => 0
 | c :: _ => (c.toNat : Int)
def numC (m : Int) : Int → List UInt8 → Int × List UInt8
 | n, [] => (n, [])
 | n, c :: l => if isDig (c.toNat : Int) then numC m (mn (m + 1) (10 * n + ((c.toNat : Int) - 48))) l else (n, c :: l)
def skipC (b : UInt8) : List UInt8 → Option (List UInt8)
 | [] => none
 | c :: l => if c = b then some l else none
def posB (l : List UInt8) : Bool := isDig (hdI l) && decide (hdI l ≠ 48)
def placeC (l : List UInt8) : Int × List UInt8 :=
 if posB l then match skipC 36 (numC 64 0 l).2 with
  | some t => ((numC 64 0 l).1, t)
  | none => (0, l)
 else (0, l)
def starC (l : List UInt8) : Option (Int × List UInt8) :=
 if posB l then (skipC 36 (numC 64 0 l).2).map fun t => ((numC 64 0 l).1, t) else some (0, l)
abbrev Fld := Int × Bool × Int
def noFld : Fld := (-1, false, 0)
def fieldC (l : List UInt8) : Option (Fld × List UInt8) :=
 match skipC 42 l with
 | some t => (starC t).map fun x => ((-1, true, x.1), x.2)
 | none => some (((numC 10000 0 l).1, false, 0), (numC 10000 0 l).2)
def flagsC : Int → List UInt8 → Int × List UInt8
 | a, [] => (a, [])
 | a, c :: l => if flagVal (c.toNat : Int) = 0 then (a, c :: l) else flagsC (Go.bits .or .i64 a (flagVal (c.toNat : Int))) l
def lenC (l : List UInt8) : Int × List UInt8 := ((bestMod l 12 : Int), l.drop (modLen (bestMod l 12)))
def widB (l : List UInt8) : Bool := decide (hdI l = 42) || isDig (hdI l)
def widthC (l : List UInt8) : Option (Fld × List UInt8) := if widB l then fieldC l else some (noFld, l)
def precC (l : List UInt8) : Option (Fld × List UInt8) := match skipC 46 l with
 | some t => fieldC t
 | none => some (noFld, l)
def argC (pl nx n : Int) : Int × Int := if pl = 2 then (wrap64 (nx + 1), wrap64 (nx + 1)) else (n, nx)
structure RuleT where
 fl : Int
 ln : ByteArray
 wd : Bool
 pr : Bool
 ok : Bool
def bInt : ByteArray := ⟨#[105, 110, 116]⟩
def bFloat : ByteArray := ⟨#[102, 108, 111, 97, 116]⟩
def bChar : ByteArray := ⟨#[99, 104, 97, 114]⟩
def ruleC (c : Int) : RuleT :=
 if c = 100 ∨ c = 105 then ⟨55, bInt, true, true, true⟩
 else if c = 117 then ⟨49, bInt, true, true, true⟩
 else if c = 111 ∨ c = 120 ∨ c = 88 ∨ c = 98 ∨ c = 66 then ⟨25, bInt, true, true, true⟩
 else if c = 101 ∨ c = 69 ∨ c = 97 ∨ c = 65 then ⟨31, bFloat, true, true, true⟩
 else if c = 102 ∨ c = 70 ∨ c = 103 ∨ c = 71 then ⟨63, bFloat, true, true, true⟩
 else if c = 99 then ⟨1, bChar, true, false, true⟩
 else if c = 115 then ⟨1, bChar, true, true, true⟩
 else if c = 112 then ⟨1, ⟨#[]⟩, true, false, true⟩
 else if c = 110 then ⟨0, bInt, false, false, true⟩
 else ⟨0, ⟨#[]⟩, false, false, false⟩
def allowsC (s : ByteArray) (n : Int) : Bool :=
 if s = bInt then decide (0 ≤ n) && decide (n ≤ 7)
 else if s = bFloat then decide (n = 0) || (decide (n = 3) || (decide (8 ≤ n) && decide (n ≤ 11)))
 else if s = bChar then decide (n = 0) || decide (n = 3)
 else decide (n = 0)
def okC (r : RuleT) (fl ln : Int) (wd pr : Fld) : Bool :=
 decide (Go.bits .andNot .i64 fl r.fl = 0) && (allowsC r.ln ln && ((r.wd || (decide (wd.1 = -1) && !wd.2.1)) && (r.pr || (decide (pr.1 = -1) && !pr.2.1))))
def agrees (f : Fld) (own : Int) : Bool := !f.2.1 || (decide (0 < f.2.2) == decide (0 < own))
def modeOf (placed : Bool) : Int := if placed then 1 else 2
def starArg (pl nx : Int) (f : Fld) : Int × Int := if f.2.1 then argC pl nx f.2.2 else (0, nx)
structure ConvT where
 x : S35
 lg : Bool
 pl : Int
 nx : Int
 l : List UInt8
def convE (own fl : Int) (wd pr : Fld) (ln c pl nx : Int) (l : List UInt8) : Option ConvT :=
 if (ruleC c).ok = true then
  if pl = 0 ∨ pl = modeOf (decide (0 < own)) then
   if agrees wd own = true ∧ agrees pr own = true then
    let wa := starArg (modeOf (decide (0 < own))) nx wd
    let pa := starArg (modeOf (decide (0 < own))) wa.2 pr
    let ar := argC (modeOf (decide (0 < own))) pa.2 own
    if okC (ruleC c) fl ln wd pr = true then
     some ⟨⟨⟨#[]⟩, ar.1, fl, wd.1, wa.1, pr.1, pa.1, ln, c⟩,
      decide (10000 < wd.1) || (decide (10000 < pr.1) || ((wd.2.1 && decide (64 < wa.1)) || ((pr.2.1 && decide (64 < pa.1)) || decide (64 < ar.1)))), modeOf (decide (0 < own)), ar.2, l⟩
    else none
   else none
  else none
 else none
def convC (pl nx : Int) (l : List UInt8) : Option ConvT :=
 let ow := placeC l
 let fl := flagsC 0 ow.2
 (widthC fl.2).bind fun wd => (precC wd.2).bind fun pr =>
  let ln := lenC pr.2
  convE ow.1 fl.1 wd.1 pr.1 ln.1 (hdI ln.2) pl nx ln.2.tail
def isTxt (c : UInt8) : Bool := c != 37 && c != 0
def pieceC (full : Bool) (pl nx : Int) (l : List UInt8) : Except (Int × List UInt8) (S35 × Int × Int × List UInt8) :=
 match skipC 37 l with
 | none => if full then .error (2, l) else if hdI (l.dropWhile isTxt) = 0 ∧ l.dropWhile isTxt ≠ [] then .error (6, l.dropWhile isTxt)
   else .ok (⟨⟨(l.takeWhile isTxt).toArray⟩, 0, 0, -1, 0, -1, 0, 0, 0⟩, pl, nx, l.dropWhile isTxt)
 | some t => match skipC 37 t with
  | some t' => .ok (⟨⟨#[]⟩, 0, 0, -1, 0, -1, 0, 0, 37⟩, pl, nx, t')
  | none => match convC pl nx t with
   | none => .error (6, l)
   | some r => if r.lg then .error (2, l) else .ok (r.x, r.pl, r.nx, r.l)
def piecesC : Nat → List S35 → Int → Int → List UInt8 → Except (Int × List UInt8) (List S35)
 | 0, acc, _, _, _ => .ok acc
 | k + 1, acc, pl, nx, l => if l = [] then .ok acc else match pieceC (decide (acc.length = 500)) pl nx l with
  | .error e => .error e
  | .ok (x, pl', nx', l') => if acc.length = 500 then .error (2, l) else piecesC k (acc ++ [x]) pl' nx' l'
def allC (l : List S35) : List Int := l.flatMap fun x => [x.f4, x.f6, x.f1].filter fun n => !(n == 0)
end Go.Proofs.YtnhbgahfmcicnaaGreatDoor.PA
end
section
namespace Go.Proofs.YtnhbgahfmcicnaaGreatDoor.PA
set_option linter.unusedVariables false
set_option linter.unusedSimpArgs false
open Go.RowKit Go.Shelf Go.Proofs.YtnhbgahfmcicnaaGreatDoorW.PrintWords Go.Proofs.YtnhbgahfmcicnaaGreatDoorW.PrintLast Go.Proofs.YtnhbgahfmcicnaaGreatDoorW.PrintMore
def failE (c a : Int) : Ending := .panicked [{ v := .iface 53 (.agg #[.int .i64 c, .int .i64 a]), recovered := false }]
set_option maxRecDepth 100000 in
theorem need_yes (g : Nat) (w : World) : Calls Tryz.prog 93 #[.pointer (some ⟨g, 0, none⟩), .bool true] w fun e w' => e = .returned (.tuple #[]) ∧ w' = w := by
  go_enter Tryz.func93, Tryz.ntmps93
  go_wp2
  go_end0
  exact ⟨rfl, rfl⟩
set_option maxRecDepth 100000 in
theorem need_no (g : Nat) (s0_0 : Int) (s0_1 : ByteArray) (s0_2 : Int) (s0_3 : Int) (s0_4 : Int) (s0_5 : Bool) (s0_6 : SlV) (w0 w : World) (hI : IsS59 w0 w g s0_0 s0_1 s0_2 s0_3 s0_4 s0_5 s0_6) :
    Calls Tryz.prog 93 #[.pointer (some ⟨g, 0, none⟩), .bool false] w fun e w' => e = failE 6 s0_2 ∧ w' = w := by
  obtain ⟨A6, c6, HG, hg, HS⟩ := hI
  have hc2 := cellS59_2 HG
  clear HG HS
  go_enter Tryz.func93, Tryz.ntmps93
  go_wp2
  exact ⟨rfl, rfl, rfl⟩
set_option maxRecDepth 100000 in
theorem room_calls (g : Nat) (s0_0 : Int) (s0_1 : ByteArray) (s0_2 : Int) (s0_3 : Int) (s0_4 : Int) (s0_5 : Bool) (s0_6 : SlV) (w0 w : World) (hI : IsS59 w0 w g s0_0 s0_1 s0_2 s0_3 s0_4 s0_5 s0_6) :
    Calls Tryz.prog 32 #[.pointer (some ⟨g, 0, none⟩)] w fun e w' => e = (if s0_6.length = 500 then failE 2 s0_2 else .returned (.tuple #[])) ∧ w' = w := by
  obtain ⟨A6, c6, HG, hg, HS⟩ := hI
  have hc2 := cellS59_2 HG
  have hc6 := cellS59_6 HG
  clear HG HS
  by_cases c : s0_6.length = 500
  · rw [if_pos c]
    have c1 : (s0_6.length : Int) = 500 := by omega
    go_enter Tryz.func32, Tryz.ntmps32
    go_wp2
    exact ⟨rfl, rfl, rfl⟩
  · rw [if_neg c]
    have c1 : ¬ (s0_6.length : Int) = 500 := by omega
    go_enter Tryz.func32, Tryz.ntmps32
    go_wp2
    go_end0
    exact ⟨rfl, rfl⟩
set_option maxRecDepth 100000 in
set_option maxHeartbeats 1000000 in
theorem mode_yes (g : Nat) (placed : Bool) (s0_0 : Int) (s0_1 : ByteArray) (s0_2 : Int) (s0_3 : Int) (s0_4 : Int) (s0_5 : Bool) (s0_6 : SlV) (w0 w : World) (hI : IsS59 w0 w g s0_0 s0_1 s0_2 s0_3 s0_4 s0_5 s0_6) (hB : Below w0.heap.size w0 w) (h : s0_4 = 0 ∨ s0_4 = modeOf placed) :
    Calls Tryz.prog 94 #[.pointer (some ⟨g, 0, none⟩), .bool placed] w fun e w' => e = .returned (.tuple #[]) ∧ IsS59 w0 w' g s0_0 s0_1 s0_2 s0_3 (modeOf placed) s0_5 s0_6 ∧ Below w0.heap.size w0 w' ∧ KeepBut w w' g none := by
  have HI := Lib.hid hI
  have HB := Lib.hid hB
  obtain ⟨A6, c6, HG, hg, HS⟩ := hI
  have hc4 := cellS59_4 HG
  have hf4 := blk_frozen HG 4
  clear HG HS hB
  rcases h with rfl | rfl
  · cases placed
    · go_enter Tryz.func94, Tryz.ntmps94
      go_wp2_with (go_at_call 93; refine (need_yes g _).mono ?_; rintro e w' ⟨rfl, rfl⟩)
      go_end0
      exact ⟨rfl, HI.out.set_4 _, below_set HB.out (IsS59.ge HI.out), KeepBut.set_ (KeepBut.refl _ _ _) _ _⟩
    · go_enter Tryz.func94, Tryz.ntmps94
      go_wp2_with (go_at_call 93; refine (need_yes g _).mono ?_; rintro e w' ⟨rfl, rfl⟩)
      go_end0
      exact ⟨rfl, HI.out.set_4 _, below_set HB.out (IsS59.ge HI.out), KeepBut.set_ (KeepBut.refl _ _ _) _ _⟩
  · cases placed
    · rw [show modeOf false = 2 from rfl] at hc4 HI ⊢
      go_enter Tryz.func94, Tryz.ntmps94
      go_wp2_with (go_at_call 93; refine (need_yes g _).mono ?_; rintro e w' ⟨rfl, rfl⟩)
      go_end0
      exact ⟨rfl, HI.out.set_4 _, below_set HB.out (IsS59.ge HI.out), KeepBut.set_ (KeepBut.refl _ _ _) _ _⟩
    · rw [show modeOf true = 1 from rfl] at hc4 HI ⊢
      go_enter Tryz.func94, Tryz.ntmps94
      go_wp2_with (go_at_call 93; refine (need_yes g _).mono ?_; rintro e w' ⟨rfl, rfl⟩)
      go_end0
      exact ⟨rfl, HI.out.set_4 _, below_set HB.out (IsS59.ge HI.out), KeepBut.set_ (KeepBut.refl _ _ _) _ _⟩
set_option maxRecDepth 100000 in
set_option maxHeartbeats 1000000 in
theorem mode_no (g : Nat) (placed : Bool) (s0_0 : Int) (s0_1 : ByteArray) (s0_2 : Int) (s0_3 : Int) (s0_4 : Int) (s0_5 : Bool) (s0_6 : SlV) (w0 w : World) (hI : IsS59 w0 w g s0_0 s0_1 s0_2 s0_3 s0_4 s0_5 s0_6) (hB : Below w0.heap.size w0 w) (h : ¬ (s0_4 = 0 ∨ s0_4 = modeOf placed)) :
    Calls Tryz.prog 94 #[.pointer (some ⟨g, 0, none⟩), .bool placed] w fun e w' => e = failE 6 s0_2 ∧ Below w0.heap.size w0 w' := by
  have hn := need_no g s0_0 s0_1 s0_2 s0_3 s0_4 s0_5 s0_6 w0 w hI
  unfold failE at hn ⊢
  have HN := Lib.hid hn
  clear hn
  have HB := Lib.hid hB
  obtain ⟨A6, c6, HG, hg, HS⟩ := hI
  have hc4 := cellS59_4 HG
  clear HG HS hB
  have h0 : ¬ s0_4 = 0 := fun e => h (Or.inl e)
  cases placed
  · have h1 : ¬ s0_4 = 2 := fun e => h (Or.inr e)
    have e0 : (s0_4 == 0) = false := beq_eq_false_iff_ne.2 h0
    have e1 : (s0_4 == 2) = false := beq_eq_false_iff_ne.2 h1
    clear h
    go_enter Tryz.func94, Tryz.ntmps94
    go_wp2_with (go_at_call 93; refine HN.out.mono ?_; rintro e w' ⟨rfl, rfl⟩)
    exact ⟨rfl, rfl, HB.out⟩
  · have h1 : ¬ s0_4 = 1 := fun e => h (Or.inr e)
    have e0 : (s0_4 == 0) = false := beq_eq_false_iff_ne.2 h0
    have e1 : (s0_4 == 1) = false := beq_eq_false_iff_ne.2 h1
    clear h
    go_enter Tryz.func94, Tryz.ntmps94
    go_wp2_with (go_at_call 93; refine HN.out.mono ?_; rintro e w' ⟨rfl, rfl⟩)
    exact ⟨rfl, rfl, HB.out⟩
end Go.Proofs.YtnhbgahfmcicnaaGreatDoor.PA
end
section
namespace Go.Proofs.YtnhbgahfmcicnaaGreatDoor.PA
set_option linter.unusedVariables false
set_option linter.unusedSimpArgs false
open Go.RowKit Go.Shelf Go.Proofs.YtnhbgahfmcicnaaGreatDoorW.PrintWords Go.Proofs.YtnhbgahfmcicnaaGreatDoorW.PrintLast Go.Proofs.YtnhbgahfmcicnaaGreatDoorW.PrintMore
abbrev RdT := Int × ByteArray × Int × Int × Int × Bool
def isT (w0 w : World) (g : Nat) (s : RdT) (v : SlV) : Prop := IsS59 w0 w g s.1 s.2.1 s.2.2.1 s.2.2.2.1 s.2.2.2.2.1 s.2.2.2.2.2 v
def peekT (s : RdT) (v : SlV) : Option (Int × RdT) := spec_reader_peek.f s.1 s.2.1 s.2.2.1 s.2.2.2.1 s.2.2.2.2.1 s.2.2.2.2.2 v
def skipT (s : RdT) (v : SlV) (b : Int) : Option (Bool × RdT) := spec_reader_skip.f s.1 s.2.1 s.2.2.1 s.2.2.2.1 s.2.2.2.2.1 s.2.2.2.2.2 v b
def numberT (k : Nat) (s : RdT) (v : SlV) (m : Int) : Option (Int × RdT) := spec_reader_number.f k s.1 s.2.1 s.2.2.1 s.2.2.2.1 s.2.2.2.2.1 s.2.2.2.2.2 v m
def lengthT (s : RdT) (v : SlV) : Option (Int × RdT) := spec_reader_length.f s.1 s.2.1 s.2.2.1 s.2.2.2.1 s.2.2.2.2.1 s.2.2.2.2.2 v
def placeT (k : Nat) (s : RdT) (v : SlV) : Option (Int × RdT) := spec_reader_place.f k s.1 s.2.1 s.2.2.1 s.2.2.2.1 s.2.2.2.2.1 s.2.2.2.2.2 v
def flagsT (k : Nat) (s : RdT) (v : SlV) : Option (Int × RdT) := spec_reader_flags.f k s.1 s.2.1 s.2.2.1 s.2.2.2.1 s.2.2.2.2.1 s.2.2.2.2.2 v
def argumentT (s : RdT) (v : SlV) (n : Int) : Option (Int × RdT) := spec_reader_argument.f s.1 s.2.1 s.2.2.1 s.2.2.2.1 s.2.2.2.2.1 s.2.2.2.2.2 v n
def RdPost (w0 w : World) (g : Nat) (v : SlV) (val : Value) (s : RdT) (e : Ending) (w' : World) : Prop := e = .returned val ∧ isT w0 w' g s v ∧ Below w0.heap.size w0 w' ∧ KeepBut w w' g none
theorem peekT_calls {g : Nat} {s : RdT} {v : SlV} {r : Int} {s' : RdT} {w0 w : World} (hI : isT w0 w g s v) (hB : Below w0.heap.size w0 w) (h : peekT s v = some (r, s')) :
    Calls Tryz.prog 55 #[.pointer (some ⟨g, 0, none⟩)] w (RdPost w0 w g v (.int .u8 r) s') := spec_reader_peek.calls g _ _ _ _ _ _ v r _ _ _ _ _ _ w0 w hI hB h
theorem skipT_calls {g : Nat} {s : RdT} {v : SlV} {b : Int} {r : Bool} {s' : RdT} {w0 w : World} (hI : isT w0 w g s v) (hB : Below w0.heap.size w0 w) (h : skipT s v b = some (r, s')) :
    Calls Tryz.prog 53 #[.pointer (some ⟨g, 0, none⟩), .int .u8 b] w (RdPost w0 w g v (.bool r) s') := spec_reader_skip.calls g _ _ _ _ _ _ v b r _ _ _ _ _ _ w0 w hI hB h
theorem numberT_calls {k : Nat} {g : Nat} {s : RdT} {v : SlV} {m : Int} {r : Int} {s' : RdT} {w0 w : World} (hI : isT w0 w g s v) (hB : Below w0.heap.size w0 w) (h : numberT k s v m = some (r, s')) :
    Calls Tryz.prog 115 #[.pointer (some ⟨g, 0, none⟩), .int .i64 m] w (RdPost w0 w g v (.int .i64 r) s') := spec_reader_number.calls k g _ _ _ _ _ _ v m r _ _ _ _ _ _ w0 w hI hB h
theorem lengthT_calls {g : Nat} {s : RdT} {v : SlV} {r : Int} {s' : RdT} {w0 w : World} (hI : isT w0 w g s v) (hB : Below w0.heap.size w0 w) (h : lengthT s v = some (r, s')) :
    Calls Tryz.prog 92 #[.pointer (some ⟨g, 0, none⟩)] w (RdPost w0 w g v (.int .i64 r) s') := spec_reader_length.calls g _ _ _ _ _ _ v r _ _ _ _ _ _ w0 w hI hB h
theorem placeT_calls {k : Nat} {g : Nat} {s : RdT} {v : SlV} {r : Int} {s' : RdT} {w0 w : World} (hI : isT w0 w g s v) (hB : Below w0.heap.size w0 w) (h : placeT k s v = some (r, s')) :
    Calls Tryz.prog 88 #[.pointer (some ⟨g, 0, none⟩)] w (RdPost w0 w g v (.int .i64 r) s') := spec_reader_place.calls k g _ _ _ _ _ _ v r _ _ _ _ _ _ w0 w hI hB h
theorem flagsT_calls {k : Nat} {g : Nat} {s : RdT} {v : SlV} {r : Int} {s' : RdT} {w0 w : World} (hI : isT w0 w g s v) (hB : Below w0.heap.size w0 w) (h : flagsT k s v = some (r, s')) :
    Calls Tryz.prog 89 #[.pointer (some ⟨g, 0, none⟩)] w (RdPost w0 w g v (.int .i64 r) s') := spec_reader_flags.calls k g _ _ _ _ _ _ v r _ _ _ _ _ _ w0 w hI hB h
theorem argumentT_calls {g : Nat} {s : RdT} {v : SlV} {n : Int} {r : Int} {s' : RdT} {w0 w : World} (hI : isT w0 w g s v) (hB : Below w0.heap.size w0 w) (h : argumentT s v n = some (r, s')) :
    Calls Tryz.prog 95 #[.pointer (some ⟨g, 0, none⟩), .int .i64 n] w (RdPost w0 w g v (.int .i64 r) s') := spec_reader_argument.calls g _ _ _ _ _ _ v n r _ _ _ _ _ _ w0 w hI hB h
def ExPost {α : Type} (w0 w : World) (g : Nat) (v : SlV) (val : α → Value) (r : Except (Int × Int) (α × RdT)) (e : Ending) (w' : World) : Prop :=
  match r with
  | .ok (a, s) => RdPost w0 w g v (val a) s e w'
  | .error (c, o) => e = failE c o ∧ Below w0.heap.size w0 w'
def starT (k : Nat) (s : RdT) (v : SlV) : Option (Except (Int × Int) (Int × RdT)) :=
  (peekT s v).bind fun p => (spec_isDigit.f p.1).bind fun d => if d = true ∧ p.1 ≠ 48 then
    (numberT k p.2 v 64).bind fun q => (skipT q.2 v 36).bind fun u => if u.1 = true then some (.ok (q.1, u.2)) else some (.error (6, u.2.2.2.1))
  else some (.ok (0, (s.1, p.2.2)))
set_option maxRecDepth 100000 in
set_option maxHeartbeats 1000000 in
theorem starT_calls {k : Nat} {g : Nat} {s : RdT} {v : SlV} {r : Except (Int × Int) (Int × RdT)} {w0 w : World} (hI : isT w0 w g s v) (hB : Below w0.heap.size w0 w) (h : starT k s v = some r) :
    Calls Tryz.prog 116 #[.pointer (some ⟨g, 0, none⟩)] w (ExPost w0 w g v (fun n => .int .i64 n) r) := by
  unfold starT at h
  obtain ⟨⟨b, s1⟩, hp, h⟩ := Option.bind_eq_some_iff.mp h
  obtain ⟨d, hd, h⟩ := Option.bind_eq_some_iff.mp h
  have HI := Lib.hid hI
  have HB := Lib.hid hB
  have HP := Lib.hid hp
  have HD := Lib.hid hd
  obtain ⟨A6, c6, HG, hg, _⟩ := hI
  have hc0 := cellS59_0 HG
  clear hp hd hB HG
  by_cases c : d = true ∧ b ≠ 48
  · rw [if_pos c] at h
    obtain ⟨⟨q, s2⟩, hq, h⟩ := Option.bind_eq_some_iff.mp h
    obtain ⟨⟨u, s3⟩, hu, h⟩ := Option.bind_eq_some_iff.mp h
    have HQ := Lib.hid hq
    have HU := Lib.hid hu
    have H := Lib.hid h
    clear hq hu h
    obtain ⟨rfl, cb⟩ := c
    have cb2 : (b != 48) = true := by simpa using cb
    cases u
    · have H2 := Option.some.inj ((if_neg (by simp)).symm.trans H.out)
      subst H2
      unfold ExPost
      have hfail : ∀ W, isT w0 W g s3 v → Calls Tryz.prog 93 #[.pointer (some ⟨g, 0, none⟩), .bool false] W fun e w' => e = .panicked [{ v := .iface 53 (.agg #[.int .i64 6, .int .i64 s3.2.2.1]), recovered := false }] ∧ w' = W := fun W hW => need_no g _ _ _ _ _ _ v w0 W hW
      have HF := Lib.hid hfail
      clear hfail
      simp only [failE]
      go_enter Tryz.func116, Tryz.ntmps116
      go_wp2_with (first
        | (go_at_call 55; refine (peekT_calls HI.out HB.out HP.out).mono ?_; rintro e w1 ⟨rfl, i1, b1, k1⟩)
        | (go_at_call 90; refine (spec_isDigit.calls b true _ HD.out).mono ?_; rintro e w2 ⟨rfl, ⟨nd, rfl⟩⟩)
        | (go_at_call 115; refine (numberT_calls (IsS59.drewN i1 nd) (pw_below_drewN b1 nd) HQ.out).mono ?_; rintro e w3 ⟨rfl, i3, b3, k3⟩)
        | (go_at_call 53; refine (skipT_calls i3 b3 HU.out).mono ?_; rintro e w4 ⟨rfl, i4, b4, k4⟩)
        | (go_at_call 93; refine (HF.out _ i4).mono ?_; rintro e w5 ⟨rfl, rfl⟩))
      exact ⟨rfl, rfl, b4⟩
    · have H2 := Option.some.inj ((if_pos rfl).symm.trans H.out)
      subst H2
      unfold ExPost RdPost
      go_enter Tryz.func116, Tryz.ntmps116
      go_wp2_with (first
        | (go_at_call 55; refine (peekT_calls HI.out HB.out HP.out).mono ?_; rintro e w1 ⟨rfl, i1, b1, k1⟩)
        | (go_at_call 90; refine (spec_isDigit.calls b true _ HD.out).mono ?_; rintro e w2 ⟨rfl, ⟨nd, rfl⟩⟩)
        | (go_at_call 115; refine (numberT_calls (IsS59.drewN i1 nd) (pw_below_drewN b1 nd) HQ.out).mono ?_; rintro e w3 ⟨rfl, i3, b3, k3⟩)
        | (go_at_call 53; refine (skipT_calls i3 b3 HU.out).mono ?_; rintro e w4 ⟨rfl, i4, b4, k4⟩)
        | (go_at_call 93; refine (need_yes g _).mono ?_; rintro e w5 ⟨rfl, rfl⟩))
      go_ret
      exact ⟨rfl, i4, b4, ((keep_drewN k1 nd).trans k3 (.inl rfl)).trans k4 (.inl rfl)⟩
  · rw [if_neg c] at h
    obtain rfl := Option.some.inj h
    unfold ExPost RdPost
    cases d
    · go_enter Tryz.func116, Tryz.ntmps116
      go_wp2_with (first
        | (go_at_call 55; refine (peekT_calls HI.out HB.out HP.out).mono ?_; rintro e w1 ⟨rfl, i1, b1, k1⟩; obtain ⟨A7, c7, HG1, _, _⟩ := id i1; have hz0 := cellS59_0 HG1; have hf0 := blk_frozen HG1 0; clear HG1)
        | (go_at_call 90; refine (spec_isDigit.calls b false _ HD.out).mono ?_; rintro e w2 ⟨rfl, ⟨nd, rfl⟩⟩))
      go_ret
      exact ⟨rfl, IsS59.set_0 (IsS59.drewN i1 nd) _, below_set (pw_below_drewN b1 nd) hg, KeepBut.set_ (keep_drewN k1 nd) _ _⟩
    · have hb : b = 48 := Decidable.byContradiction fun e => c ⟨rfl, e⟩
      have hb2 : (b != 48) = false := by simp [hb]
      have HB2 := Lib.hid hb
      clear hb c h
      go_enter Tryz.func116, Tryz.ntmps116
      go_wp2_with (first
        | (go_at_call 55; refine (peekT_calls HI.out HB.out HP.out).mono ?_; rintro e w1 ⟨rfl, i1, b1, k1⟩; obtain ⟨A7, c7, HG1, _, _⟩ := id i1; have hz0 := cellS59_0 HG1; have hf0 := blk_frozen HG1 0; clear HG1)
        | (go_at_call 90; refine (spec_isDigit.calls b true _ HD.out).mono ?_; rintro e w2 ⟨rfl, ⟨nd, rfl⟩⟩))
      go_ret
      exact ⟨rfl, IsS59.set_0 (IsS59.drewN i1 nd) _, below_set (pw_below_drewN b1 nd) hg, KeepBut.set_ (keep_drewN k1 nd) _ _⟩
theorem keep_far {w W : World} {g R : Nat} (h : KeepBut w W g none) (hR : w.heap.size ≤ R) (j : Nat) (u : Value) : KeepBut w (W.setCell ⟨R, j, none⟩ u) g none := by
  refine ⟨Nat.le_trans h.1 (by simp), fun i hi hg hr => ?_⟩
  rw [Below.heap_setCell W _ _ _ (by show i ≠ R; omega)]
  exact h.2 i hi hg hr
def fieldVal (f : Int × Bool × Int) : Value := .agg #[.int .i64 f.1, .bool f.2.1, .int .i64 f.2.2]
def fieldT (k : Nat) (s : RdT) (v : SlV) : Option (Except (Int × Int) ((Int × Bool × Int) × RdT)) :=
  (skipT s v 42).bind fun u => if u.1 = true then (starT k u.2 v).bind fun x => match x with
    | .ok (n, s') => some (.ok ((-1, true, n), s'))
    | .error e => some (.error e)
  else (numberT k u.2 v 10000).bind fun q => some (.ok ((q.1, false, 0), (q.2.1, q.2.2.1, q.2.2.2.1, q.2.2.2.2.1, q.2.2.2.2.2.1, q.2.2.2.2.2.2 || decide (q.1 > 10000))))
set_option maxRecDepth 100000 in
set_option maxHeartbeats 1000000 in
theorem fieldT_calls {k : Nat} {g : Nat} {s : RdT} {v : SlV} {r : Except (Int × Int) ((Int × Bool × Int) × RdT)} {w0 w : World} (hI : isT w0 w g s v) (hB : Below w0.heap.size w0 w) (h : fieldT k s v = some r) :
    Calls Tryz.prog 91 #[.pointer (some ⟨g, 0, none⟩)] w (ExPost w0 w g v fieldVal r) := by
  unfold fieldT at h
  obtain ⟨⟨u, s1⟩, hu, h⟩ := Option.bind_eq_some_iff.mp h
  have HI := Lib.hid (IsS59.alloc hI (.cells #[.int .i64 0, .bool false, .int .i64 0] 123))
  have HB := Lib.hid (below_alloc hB (.cells #[.int .i64 0, .bool false, .int .i64 0] 123))
  have HU := Lib.hid hu
  have hglt : g < w.heap.size := IsS59.lt hI
  have hwb := hB.size
  clear hI hB hu
  cases u
  · replace h := (if_neg (by simp)).symm.trans h
    obtain ⟨⟨q, s2⟩, hq, h⟩ := Option.bind_eq_some_iff.mp h
    obtain rfl := Option.some.inj h
    have HQ := Lib.hid hq
    clear hq h
    unfold ExPost RdPost fieldVal
    have hgR : ¬ g = w.heap.size := by omega
    have hRg : ¬ w.heap.size = g := by omega
    have hR0 := World.alloc_heap_new w (.cells #[.int .i64 0, .bool false, .int .i64 0] 123)
    have hR0lt : w.heap.size < (w.alloc (.cells #[.int .i64 0, .bool false, .int .i64 0] 123)).heap.size := by simp
    obtain ⟨lg, hlg⟩ : ∃ lg, s2.2.2.2.2.2 = lg := ⟨_, rfl⟩
    have HLG := Lib.hid hlg
    cases lg <;>
    · go_enter Tryz.func91, Tryz.ntmps91
      go_wp2_with (first
        | (go_at_call 53; refine (skipT_calls HI.out HB.out HU.out).mono ?_; rintro e w1 ⟨rfl, i1, b1, k1⟩)
        | (go_at_call 115; refine (numberT_calls i1 b1 HQ.out).mono ?_; rintro e w2 ⟨rfl, i2, b2, k2⟩; obtain ⟨A7, c7, HG1, _, _⟩ := IsS59.alloc i2 (.cells #[.int .i64 q, .bool false, .int .i64 0] 123); have hz5 := cellS59_5 HG1; have hf5 := blk_frozen HG1 5; rw [HLG.out] at hz5; clear HG1; have hR2 := (k2.2 w.heap.size (Nat.lt_of_lt_of_le hR0lt k1.1) hRg (by simp)).trans ((k1.2 w.heap.size hR0lt hRg (by simp)).trans hR0); have hR2lt := (Array.getElem?_eq_some_iff.1 hR2).1; have hR3 := (Below.heap_alloc w2 (.cells #[.int .i64 q, .bool false, .int .i64 0] 123) w.heap.size hR2lt).trans hR2; have hr0 := (blk_cell hR3 0).trans rfl; have hr1 := (blk_cell hR3 1).trans rfl; have hr2 := (blk_cell hR3 2).trans rfl; have ff0 := blk_frozen hR3 0; have ff1 := blk_frozen hR3 1; have ff2 := blk_frozen hR3 2; clear hR2))
      have hlt2 := IsS59.lt i2
      have k3 : KeepBut w (w2.alloc (.cells #[.int .i64 q, .bool false, .int .i64 0] 123)) g none := keep_alloc ((keep_alloc (KeepBut.refl w g none) _).trans k1 (.inl rfl) |>.trans k2 (.inl rfl)) _
      refine bodyPost_ret (v := .agg #[.int .i64 q, .bool false, .int .i64 0]) (by simp [results, Tryz.results91, go_sem, hr0, hr1, hr2, hgR, hRg]) rfl ⟨rfl, ?_, ?_, ?_⟩
      · have e := fun (x : Bool) => (show isT w0 _ g (s2.1, s2.2.1, s2.2.2.1, s2.2.2.2.1, s2.2.2.2.2.1, x) v from ((((IsS59.alloc i2 (.cells #[.int .i64 q, .bool false, .int .i64 0] 123)).set_5 x).far (p := ⟨w.heap.size, 0, none⟩) hgR (.int .i64 q)).far (p := ⟨w.heap.size, 1, none⟩) hgR (.bool false)).far (p := ⟨w.heap.size, 2, none⟩) hgR (.int .i64 0))
        first
          | (rw [show (s2.2.2.2.2.2 || decide (q > 10000)) = true from by rw [HLG.out]; rfl]; with_reducible exact e true)
          | (rw [show (s2.2.2.2.2.2 || decide (q > 10000)) = decide (10000 < q) from by rw [HLG.out]; rfl]; with_reducible exact e (decide (10000 < q)))
      · exact below_set (below_set (below_set (below_set (below_alloc b2 _) (IsS59.ge i2)) hwb) hwb) hwb
      · exact keep_far (keep_far (keep_far (KeepBut.set_ k3 5 _) (Nat.le_refl _) 0 _) (Nat.le_refl _) 1 _) (Nat.le_refl _) 2 _
  · replace h := (if_pos rfl).symm.trans h
    obtain ⟨x, hx, h⟩ := Option.bind_eq_some_iff.mp h
    have HX := Lib.hid hx
    clear hx
    have hgR : ¬ g = w.heap.size := by omega
    have hRg : ¬ w.heap.size = g := by omega
    have hR0 := World.alloc_heap_new w (.cells #[.int .i64 0, .bool false, .int .i64 0] 123)
    have hR0lt : w.heap.size < (w.alloc (.cells #[.int .i64 0, .bool false, .int .i64 0] 123)).heap.size := by simp
    rcases x with ⟨c, o⟩ | ⟨n, s2⟩
    · obtain rfl := Option.some.inj h
      have hS : ∀ W, isT w0 W g s1 v → Below w0.heap.size w0 W → Calls Tryz.prog 116 #[.pointer (some ⟨g, 0, none⟩)] W fun e w' => e = .panicked [{ v := .iface 53 (.agg #[.int .i64 c, .int .i64 o]), recovered := false }] ∧ Below w0.heap.size w0 w' := fun W hW hb => starT_calls hW hb HX.out
      have HS := Lib.hid hS
      clear h hS
      unfold ExPost
      simp only [failE]
      go_enter Tryz.func91, Tryz.ntmps91
      go_wp2_with (first
        | (go_at_call 53; refine (skipT_calls HI.out HB.out HU.out).mono ?_; rintro e w1 ⟨rfl, i1, b1, k1⟩)
        | (go_at_call 116; refine (HS.out _ i1 b1).mono ?_; rintro e w2 ⟨rfl, b2⟩))
      exact ⟨rfl, rfl, b2⟩
    · obtain rfl := Option.some.inj h
      have hS : ∀ W, isT w0 W g s1 v → Below w0.heap.size w0 W → Calls Tryz.prog 116 #[.pointer (some ⟨g, 0, none⟩)] W (RdPost w0 W g v (.int .i64 n) s2) := fun W hW hb => starT_calls hW hb HX.out
      have HS := Lib.hid hS
      clear h hS
      unfold ExPost RdPost fieldVal
      go_enter Tryz.func91, Tryz.ntmps91
      go_wp2_with (first
        | (go_at_call 53; refine (skipT_calls HI.out HB.out HU.out).mono ?_; rintro e w1 ⟨rfl, i1, b1, k1⟩)
        | (go_at_call 116; refine (HS.out _ i1 b1).mono ?_; rintro e w2 ⟨rfl, i2, b2, k2⟩; have hR2 := (k2.2 w.heap.size (Nat.lt_of_lt_of_le hR0lt k1.1) hRg (by simp)).trans ((k1.2 w.heap.size hR0lt hRg (by simp)).trans hR0); have hr0 := (blk_cell hR2 0).trans rfl; have hr1 := (blk_cell hR2 1).trans rfl; have hr2 := (blk_cell hR2 2).trans rfl; have ff0 := blk_frozen hR2 0; have ff1 := blk_frozen hR2 1; have ff2 := blk_frozen hR2 2; clear hR2))
      have k3 : KeepBut w w2 g none := (keep_alloc (KeepBut.refl w g none) _).trans k1 (.inl rfl) |>.trans k2 (.inl rfl)
      refine bodyPost_ret (v := .agg #[.int .i64 (-1), .bool true, .int .i64 n]) (by simp [results, Tryz.results91, go_sem, hr0, hr1, hr2, hgR, hRg]) rfl ⟨rfl, ?_, ?_, ?_⟩
      · have e : isT w0 _ g s2 v := (((show IsS59 w0 w2 g _ _ _ _ _ _ v from i2).far (p := ⟨w.heap.size, 0, none⟩) hgR (.int .i64 (-1))).far (p := ⟨w.heap.size, 1, none⟩) hgR (.bool true)).far (p := ⟨w.heap.size, 2, none⟩) hgR (.int .i64 n)
        with_reducible exact e
      · exact below_set (below_set (below_set b2 hwb) hwb) hwb
      · exact keep_far (keep_far (keep_far k3 (Nat.le_refl _) 0 _) (Nat.le_refl _) 1 _) (Nat.le_refl _) 2 _
end Go.Proofs.YtnhbgahfmcicnaaGreatDoor.PA
end
