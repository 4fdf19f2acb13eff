/- A part of the proof of the claim's statement. -/
import Derived.Test.YtnhbgahfmcicnaaGreatDoorPcShelf
import Derived.Test.YtnhbgahfmcicnaaGreatDoorPcG1a
import Derived.RangeFuncRecord
import Derived.ShutString
import Derived.Outline
import Derived.Test.YtnhbgahfmcicnaaGreatDoorPcPAx9
import Derived.Test.YtnhbgahfmcicnaaGreatDoorPcG1b
import Derived.Test.YtnhbgahfmcicnaaGreatDoorPcG1d
import Derived.Lib.SlBytesConst
import Derived.Shelf.RegionOpen
import Derived.Stop.RegionWithIn
import Derived.Sort.QuietIn
import Derived.Sort.QuietTacIn
import Derived.Lib.ItoaLen
import Derived.Test.YtnhbgahfmcicnaaGreatDoorPcG2b
import Derived.Sort.CutIn
section
namespace Go.Proofs.YtnhbgahfmcicnaaGreatDoor.PA
set_option linter.unusedVariables false
set_option linter.unusedSimpArgs false
open Go.RowKit Go.Shelf Go.Proofs.YtnhbgahfmcicnaaGreatDoorW.PrintWords Go.Proofs.YtnhbgahfmcicnaaGreatDoorW.PrintLast Go.Proofs.YtnhbgahfmcicnaaGreatDoorW.PrintMore
def Bld (B b : Nat) (l : List UInt8) (w : World) : Prop := Lib.IsBuilderF 73 5 B b (Lib.byteCells l) w
theorem strCells_eq (s : ByteArray) : Lib.strCells s = Lib.byteCells s.data.toList := by
 rfl
theorem bld_str (B b : Nat) (l : List UInt8) (s : ByteArray) (w : World) (h : Bld B b l w) (hlen : l.length + s.size ≤ 140737488355328) (hB : B ≤ w.heap.size) :
  Calls Tryz.prog 40 #[.pointer (some ⟨b, 0, none⟩), .string s] w fun e w' => e = .returned (.tuple #[.int .i64 s.size, .nilIface]) ∧ Bld B b (l ++ s.data.toList) w' ∧ Below B w w' ∧ Lib.OthersKept 5 (some b) w w' := by
 refine (Any.Builder_WriteString_k Tryz.laysB166 Tryz.laysB_Extra B b (Lib.byteCells l) s w h (by rw [Lib.byteCells_length]; exact hlen) hB).mono ?_
 rintro e w' ⟨rfl, h1, h2, h3⟩
 refine ⟨rfl, ?_, h2, h3⟩
 refine Or.inr ?_
 have e1 : Lib.byteCells (l ++ s.data.toList) = Lib.byteCells l ++ Lib.strCells s := by rw [strCells_eq]; simp [Lib.byteCells]
 rw [e1]
 exact h1
theorem bld_byte (B b : Nat) (l : List UInt8) (c : UInt8) (w : World) (h : Bld B b l w) (hlen : l.length + 1 ≤ 140737488355328) (hB : B ≤ w.heap.size) :
  Calls Tryz.prog 108 #[.pointer (some ⟨b, 0, none⟩), .int .u8 c.toNat] w fun e w' => e = .returned .nilIface ∧ Bld B b (l ++ [c]) w' ∧ Below B w w' ∧ Lib.OthersKept 5 (some b) w w' := by
 refine (Any.Builder_WriteByte_k Tryz.laysB167 Tryz.laysB_Extra B b (Lib.byteCells l) c.toNat w h (by rw [Lib.byteCells_length]; exact hlen) hB).mono ?_
 rintro e w' ⟨rfl, h1, h2, h3⟩
 refine ⟨rfl, Or.inr ?_, h2, h3⟩
 have e1 : Lib.byteCells (l ++ [c]) = Lib.byteCells l ++ [.int .u8 c.toNat] := by simp [Lib.byteCells]
 rw [e1]
 exact h1
theorem bld_string (B b : Nat) (l : List UInt8) (w : World) (h : Bld B b l w) (hB : B ≤ w.heap.size) :
  Calls Tryz.prog 43 #[.pointer (some ⟨b, 0, none⟩)] w fun e w' => e = .returned (.string ⟨l.toArray⟩) ∧ Bld B b l w' ∧ Below B w w' ∧ Lib.OthersKept 5 (some b) w w' :=
 Any.Builder_String_any_k Tryz.laysB169 Tryz.laysB_Extra B b l w h hB
theorem bld_len (B b : Nat) (l : List UInt8) (w : World) (h : Bld B b l w) :
  Calls Tryz.prog 42 #[.pointer (some ⟨b, 0, none⟩)] w fun e w' => e = .returned (.int .i64 l.length) ∧ w' = w := by
 have := Any.Builder_Len_f Tryz.laysB170 B b (Lib.byteCells l) w h
 rw [Lib.byteCells_length] at this
 exact this
theorem bld_new (w : World) : Bld w.heap.size w.heap.size [] (w.alloc (.cells #[.pointer none, .slice none 0 0] 73)) :=
 Lib.IsBuilderF.of (Lib.fresh_isBuilder 73 5 w)
theorem Bld.below {B b : Nat} {l : List UInt8} {w w' : World} (h : Bld B b l w) (hb : Below w.heap.size w w') : Bld B b l w' := by
 have key : ∀ p, Lib.BuilderAtF 73 5 B b p (Lib.byteCells l) w → Lib.BuilderAtF 73 5 B b p (Lib.byteCells l) w' := by
  rintro p ⟨h1, v, h2, h3, h4⟩
  have hlt : b < w.heap.size := (Array.getElem?_eq_some_iff.1 h2).1
  refine ⟨h1, v, (hb.block b hlt).trans h2, ⟨h3.1, ?_⟩, h4⟩
  rcases h3.2 with hn | ⟨g, cap, cur, fz, hv, hbg, hg, rest⟩
  ·exact .inl hn
  ·exact .inr ⟨g, cap, cur, fz, hv, hbg, (hb.block g (Array.getElem?_eq_some_iff.1 hg).1).trans hg, rest⟩
 rcases h with h | h
 ·exact .inl (key _ h)
 ·exact .inr (key _ h)
inductive It where
 | str (s : ByteArray)
 | num (n : Int)
 | byte (c : UInt8)
def It.val : It → Value
 | .str s => .iface 9 (.string s)
 | .num n => .iface 3 (.int .i64 n)
 | .byte c => .iface 5 (.int .u8 c.toNat)
def It.bytes : It → List UInt8
 | .str s => s.data.toList
 | .num n => Lib.itoa n
 | .byte c => [c]
def It.ok : It → Prop
 | .num n => -9223372036854775808 ≤ n ∧ n ≤ 9223372036854775807
 | _ => True
def itsBytes (l : List It) : List UInt8 := l.flatMap It.bytes
theorem itsBytes_take (l : List It) (k : Nat) (h : k < l.length) : itsBytes (l.take (k + 1)) = itsBytes (l.take k) ++ (l[k]).bytes := by
 unfold itsBytes
 rw [List.take_succ_eq_append_getElem h, List.flatMap_append]
 simp
theorem itsBytes_le (l : List It) (k : Nat) : (itsBytes (l.take k)).length ≤ (itsBytes l).length := by
 have e : l = l.take k ++ l.drop k := (List.take_append_drop k l).symm
 have e2 : itsBytes l = itsBytes (l.take k) ++ itsBytes (l.drop k) := by
  unfold itsBytes
  rw [← List.flatMap_append, List.take_append_drop]
 rw [e2, List.length_append]
 omega
theorem itsCell (its : List It) (g : Nat) (w : World) (hg : w.heap[g]? = some (.cells (its.map It.val).toArray 20 (0, 0))) (k : Nat) (hk : k < its.length) : w.cell? ⟨g, k, none⟩ = some (its[k]).val := by
 unfold World.cell?
 rw [hg]
 simp [hk]
set_option maxRecDepth 100000 in
set_option maxHeartbeats 4000000 in
theorem written_calls (its : List It) (g c : Nat) (w : World) (hg : w.heap[g]? = some (.cells (its.map It.val).toArray 20 (0, 0))) (hlen : (itsBytes its).length ≤ 140737488355328) (hn : its.length ≤ 1000) (hok : ∀ x ∈ its, x.ok) (hLD : LD w) :
  Calls Tryz.prog 71 #[.slice (some ⟨g, 0, none⟩) its.length c] w fun e w' => e = .returned (.string ⟨(itsBytes its).toArray⟩) ∧ Below w.heap.size w w' := by
 have hglt : g < w.heap.size := (Array.getElem?_eq_some_iff.1 hg).1
 have HG := Lib.hid hg
 have HOK := Lib.hid hok
 have HLD := Lib.hid hLD
 have HLEN := Lib.hid hlen
 clear hg hok hLD hlen
 go_enter Tryz.func71, Tryz.ntmps71
 go_wp2_with fail
 go_loopw [11] (fun i wr => ∃ k : Nat, k ≤ its.length ∧ i = .int .i64 k ∧ Hid (Bld w.heap.size w.heap.size (itsBytes (its.take k)) wr) ∧ Hid (Below w.heap.size w wr)) (fun i _ => its.length - (intOf i).toNat)
 case atStart => exact ⟨0, Nat.zero_le _, rfl, by simpa [itsBytes] using Lib.hid (bld_new w), Lib.hid ((Below.refl _ _).alloc (Nat.le_refl _) _)⟩
 case round =>
  obtain ⟨k, hk, rfl, HBl, HB⟩ := hrel
  by_cases hlt : k < its.length
  ·have hcell := itsCell its g wr (by rw [HB.out.block g hglt]; exact HG.out) k hlt
   have hoki := HOK.out its[k] (List.getElem_mem hlt)
   have htk := itsBytes_take its k hlt
   have hle := itsBytes_le its (k + 1)
   rw [htk, List.length_append] at hle
   obtain ⟨x, hx⟩ : ∃ x, its[k] = x := ⟨_, rfl⟩
   rw [hx] at hcell hoki htk hle
   have HTK := Lib.hid htk
   have HLE := Lib.hid hle
   clear htk hle hx
   cases x with
   | str s =>
    simp only [It.val] at hcell
    have hta : ∀ W, (Instr.typeAssert (.iface 9 (.string s)) 20 9 true).run Tryz.prog W = .ok (.tuple #[.string s, .bool true]) W := fun W => by rfl
    have hc := fun W => bld_str w.heap.size w.heap.size (itsBytes (its.take k)) s W
    have HC := Lib.hid hc
    clear hc
    go_wp2_with (go_at_call 40; refine (HC.out _ ?h1 ?h2 ?h3).mono ?_; (case h1 => exact HBl.out); (case h2 => have := HLE.out; have := HLEN.out; simp only [It.bytes, data_length] at *; omega); (case h3 => exact HB.out.size); rintro e w1 ⟨rfl, h1, h2, h3⟩)
    have H1 := Lib.hid h1
    have H2 := Lib.hid h2
    clear h1 h2 h3
    go_wp2
    go_roundw
    case rel => exact ⟨k + 1, by omega, by go_num, by rw [HTK.out]; exact H1, Lib.hid (HB.out.trans H2.out)⟩
    case measure => simp [intOf]; omega
   | num n =>
    simp only [It.val] at hcell
    have hta : ∀ W, (Instr.typeAssert (.iface 3 (.int .i64 n)) 20 9 true).run Tryz.prog W = .ok (.tuple #[.string ⟨#[]⟩, .bool false]) W := fun W => by rfl
    have htb : ∀ W, (Instr.typeAssert (.iface 3 (.int .i64 n)) 20 3 true).run Tryz.prog W = .ok (.tuple #[.int .i64 n, .bool true]) W := fun W => by rfl
    have hLDr := HLD.out.below HB.out
    have hi := fun W hW => strconv_Itoa.calls n ⟨(Lib.itoa n).toArray⟩ W hW (by unfold strconv_Itoa.f; rw [if_pos (show -9223372036854775808 ≤ n ∧ n ≤ 9223372036854775807 from hoki)])
    have HI := Lib.hid hi
    have HLDr := Lib.hid hLDr
    clear hi hLDr hoki
    have hsz : (⟨(Lib.itoa n).toArray⟩ : ByteArray).size = (Lib.itoa n).length := size_of_list _
    have hdt : (⟨(Lib.itoa n).toArray⟩ : ByteArray).data.toList = Lib.itoa n := by simp
    obtain ⟨t, ht⟩ : ∃ t, (⟨(Lib.itoa n).toArray⟩ : ByteArray) = t := ⟨_, rfl⟩
    rw [ht] at HI hsz hdt
    have HSZ := Lib.hid hsz
    have HDT := Lib.hid hdt
    clear hsz hdt ht
    go_wp2_with (first
     | (go_at_call 80; refine (HI.out _ HLDr.out).mono ?_; rintro e w1 ⟨rfl, hb1⟩)
     | (go_at_call 40; refine (bld_str w.heap.size w.heap.size (itsBytes (its.take k)) t _ ?h1 ?h2 ?h3).mono ?_; (case h1 => exact Bld.below HBl.out hb1); (case h2 => have := HLE.out; have := HLEN.out; have := HSZ.out; simp only [It.bytes] at *; omega); (case h3 => exact Nat.le_trans HB.out.size hb1.size); rintro e w2 ⟨rfl, h1, h2, h3⟩))
    have H1 := Lib.hid h1
    have H2 := Lib.hid h2
    have HB1 := Lib.hid hb1
    clear h1 h2 h3 hb1
    go_wp2
    go_roundw
    case rel => exact ⟨k + 1, by omega, by go_num, by rw [HTK.out]; simp only [It.bytes]; rw [← HDT.out]; exact H1, Lib.hid ((HB.out.trans (HB1.out.mono HB.out.size)).trans H2.out)⟩
    case measure => simp [intOf]; omega
   | byte b =>
    simp only [It.val] at hcell
    have hta : ∀ W, (Instr.typeAssert (.iface 5 (.int .u8 b.toNat)) 20 9 true).run Tryz.prog W = .ok (.tuple #[.string ⟨#[]⟩, .bool false]) W := fun W => by rfl
    have htb : ∀ W, (Instr.typeAssert (.iface 5 (.int .u8 b.toNat)) 20 3 true).run Tryz.prog W = .ok (.tuple #[.int .i64 0, .bool false]) W := fun W => by rfl
    have htc : ∀ W, (Instr.typeAssert (.iface 5 (.int .u8 b.toNat)) 20 5 true).run Tryz.prog W = .ok (.tuple #[.int .u8 b.toNat, .bool true]) W := fun W => by rfl
    go_wp2_with (go_at_call 108; refine (bld_byte w.heap.size w.heap.size (itsBytes (its.take k)) b _ ?h1 ?h2 ?h3).mono ?_; (case h1 => exact HBl.out); (case h2 => have := HLE.out; have := HLEN.out; simp only [It.bytes, List.length_singleton] at *; omega); (case h3 => exact HB.out.size); rintro e w1 ⟨rfl, h1, h2, h3⟩)
    have H1 := Lib.hid h1
    have H2 := Lib.hid h2
    clear h1 h2 h3
    go_wp2
    go_roundw
    case rel => exact ⟨k + 1, by omega, by go_num, by rw [HTK.out]; exact H1, Lib.hid (HB.out.trans H2.out)⟩
    case measure => simp [intOf]; omega
  ·obtain rfl : k = its.length := by omega
   go_wp2_with (go_at_call 43; refine (bld_string w.heap.size w.heap.size (itsBytes (its.take its.length)) _ HBl.out HB.out.size).mono ?_; rintro e w1 ⟨rfl, h1, h2, h3⟩)
   go_ret
   exact ⟨rfl, HB.out.trans h2⟩
end Go.Proofs.YtnhbgahfmcicnaaGreatDoor.PA
end
section
namespace Go.Proofs.YtnhbgahfmcicnaaGreatDoor.PA
set_option linter.unusedVariables false
set_option linter.unusedSimpArgs false
open Go.RowKit Go.Shelf Go.Proofs.YtnhbgahfmcicnaaGreatDoorW.PrintWords Go.Proofs.YtnhbgahfmcicnaaGreatDoorW.PrintLast Go.Proofs.YtnhbgahfmcicnaaGreatDoorW.PrintMore
attribute [local go_sem] Oper.semAt_some
@[local go_sem] theorem wide_fn (f : FuncId) : Fence.wide.fn f = True := rfl
def flagMk : List UInt8 := [45, 43, 32, 35, 48, 39]
def mkAt (k : Nat) : UInt8 := flagMk.getD k 0
def flagVals : Array Value := #[.int .u8 45, .int .u8 43, .int .u8 32, .int .u8 35, .int .u8 48, .int .u8 39]
theorem flagVals_at (k : Nat) (hk : k < 6) : flagVals[k]? = some (.int .u8 ((mkAt k).toNat : Int)) := by
 rcases (by omega : k = 0 ∨ k = 1 ∨ k = 2 ∨ k = 3 ∨ k = 4 ∨ k = 5) with rfl | rfl | rfl | rfl | rfl | rfl <;> rfl
def markOn (a : Int) (b : UInt8) : Bool := Go.bits .and .i64 a (flagVal (b.toNat : Int)) != 0
def flagMarks (a : Int) : Nat → List UInt8
 | 0 => []
 | k + 1 => if markOn a (mkAt k) then flagMarks a k ++ [mkAt k] else flagMarks a k
theorem flagMarks_length (a : Int) : ∀ k, (flagMarks a k).length ≤ k
 | 0 => Nat.le_refl _
 | k + 1 => by
  have := flagMarks_length a k
  unfold flagMarks
  split
  ·rw [List.length_append]
   simp only [List.length_cons, List.length_nil]
   omega
  ·omega
def KBox (S : Nat) (W W' : World) : Prop := W.heap.size ≤ W'.heap.size ∧ ∀ k, k ≠ S → ∀ o, W.heap[k]? = some o → o.isCells = true → W'.heap[k]? = some o
theorem KBox.refl (S : Nat) (W : World) : KBox S W W := ⟨Nat.le_refl _, fun _ _ _ h _ => h⟩
theorem KBox.trans {S : Nat} {A B C : World} (h : KBox S A B) (k : KBox S B C) : KBox S A C :=
 ⟨Nat.le_trans h.1 k.1, fun i hi o ho hc => k.2 i hi o (h.2 i hi o ho hc) hc⟩
theorem KBox.put {S : Nat} (W : World) (l : Nat) (o o' : Obj) (h : W.heap[l]? = some o) (hc : o.isCells = false) : KBox S W (W.putObj l o') := by
 have hg := grownBy_putObj' W l o'
 refine ⟨hg.size, fun k hk x hx hxc => ?_⟩
 have hkl : k ≠ l := by
  rintro rfl
  rw [h] at hx
  cases hx
  rw [hc] at hxc
  cases hxc
 rw [hg.block k (Array.getElem?_eq_some_iff.1 hx).1 (fun e => hkl (by cases e; rfl))]
 exact hx
theorem grown_drew' (w : World) (row : Option Nat) : w.grownBy w.drew row := ⟨rfl, rfl, rfl, Nat.le_refl _, fun _ _ _ => rfl⟩
theorem flagsOf_calls (a : Int) (w : World) : Calls Tryz.prog 72 #[.int .i64 a] w fun e w' => e = .returned (.func (.func 109) #[] #[.pointer (some ⟨w.heap.size, 0, none⟩)]) ∧ w.alloc (.cells #[.int .i64 a] 3) = w' := by
 have hmf : ∀ (fn : Fn) (first cap : Array Value) (w : World), (Instr.makeFunc fn first cap).run Tryz.prog w = .ok (.func fn first cap) w := fun _ _ _ _ => rfl
 go_enter Tryz.func72, Tryz.ntmps72
 go_wp2
 go_ret
 exact ⟨rfl, rfl⟩
set_option maxRecDepth 100000 in
set_option maxHeartbeats 4000000 in
theorem marks1_in (n : Nat) (hn : 1 ≤ n) (l Bs S : Nat) (a : Int) (hS : S ≠ Bs) (J Jx : List UInt8 → World → Prop) (W : World) (hSlt : S < W.heap.size) (hJ : AbidesFrom W.heap.size J) (hJx : AbidesFrom W.heap.size Jx)
  (hY : ∀ pre x W1, J pre W1 → pre.length < 6 → YieldAt Fence.wide (n - 1) Tryz.prog l #[.int .u8 (x.toNat : Int)] W1 fun e W' =>
   (e = .returned (.bool true) ∧ J (pre ++ [x]) W' ∧ KBox S W1 W') ∨ (e = .returned (.bool false) ∧ Jx (pre ++ [x]) W'))
  (hBs : W.heap[Bs]? = some (.cells #[.int .i64 a] 3 (0, 0))) (h0 : J [] W) :
  CallsIn Fence.wide n Tryz.prog 109 #[.func (.yield l) #[] #[], .pointer (some ⟨Bs, 0, none⟩)] W fun e W' => (∃ v, e = .returned v) ∧
   ((∃ ys, ys = flagMarks a 6 ∧ J ys W') ∨ (∃ pre, (∃ k, k ≤ 6 ∧ pre = flagMarks a k) ∧ Jx pre W')) := by
 have hro : Fence.wide.round = none := rfl
 have HY := Lib.hid hY
 have HJ := Lib.hid hJ
 have HJx := Lib.hid hJx
 have hBlt : Bs < W.heap.size := (Array.getElem?_eq_some_iff.1 hBs).1
 obtain ⟨M, hM⟩ : ∃ M, W.heap.size = M := ⟨_, rfl⟩
 obtain ⟨W0, hW0⟩ : ∃ W0, W.alloc (.cells #[.int .u8 45, .int .u8 43, .int .u8 32, .int .u8 35, .int .u8 48, .int .u8 39] 5 (6, 7)) = W0 := ⟨_, rfl⟩
 have hJ0 : J [] W0 := by rw [← hW0]; exact hJ [] W _ none h0 (World.grownBy_alloc W _ none) (by simp)
 have hM0 : W0.heap[M]? = some (.cells flagVals 5 (6, 7)) := by rw [← hW0, ← hM]; exact World.alloc_heap_new W _
 have hB0 : W0.heap[Bs]? = some (.cells #[.int .i64 a] 3 (0, 0)) := by rw [← hW0, (World.grownBy_alloc W _ none).block Bs hBlt (by simp)]; exact hBs
 have HJ0 := Lib.hid hJ0
 have HM0 := Lib.hid hM0
 have HB0 := Lib.hid hB0
 clear hY hJ hJx hJ0 hM0 hB0 hBs
 refine callsIn_of_wp Tryz.func109 rfl trivial ?_ hro
 simp only [Tryz.ntmps109, List.size_toArray, List.length_cons, List.length_nil, Nat.reduceAdd, Nat.reduceSub, Array.replicate_succ, Array.replicate_zero, List.push_toArray, List.append_toArray, List.nil_append, List.cons_append]
 have kc : (convert 71 71 (.slice (some ⟨M, 0, none⟩) 6 6)).run Tryz.prog (W.alloc (.cells #[.int .u8 45, .int .u8 43, .int .u8 32, .int .u8 35, .int .u8 48, .int .u8 39] 5)) = .ok (.slice (some ⟨M, 0, none⟩) 6 6) W0 := by
  rw [← hM, ← hW0]
  exact Lib.run_convert_bytes_const (P := Tryz.prog) W 71 5 _ 6 6 Tryz.underlying71 Tryz.underlying5
 gi_wp2
 clear kc
 gi_loopw [8] (fun i wr => ∃ k : Nat, k ≤ 6 ∧ i = .int .i64 k ∧ Hid (J (flagMarks a k) wr) ∧ Hid (wr.heap[M]? = some (.cells flagVals 5 (6, 7))) ∧ Hid (wr.heap[Bs]? = some (.cells #[.int .i64 a] 3 (0, 0))))
  (fun i _ => 6 - (intOf i).toNat)
 case atStart => exact ⟨0, Nat.zero_le _, rfl, HJ0, HM0, HB0⟩
 case round =>
  obtain ⟨k, hk, rfl, HJs, HMr, HBr⟩ := hrel
  by_cases hlt : k < 6
  ·have hcM : wr.cell? ⟨M, k, none⟩ = some (.int .u8 ((mkAt k).toNat : Int)) := by
    unfold World.cell?
    rw [HMr.out]
    exact flagVals_at k hlt
   have hcB : wr.cell? ⟨Bs, 0, none⟩ = some (.int .i64 a) := by
    unfold World.cell?
    rw [HBr.out]
    rfl
   obtain ⟨b, hb⟩ : ∃ b, mkAt k = b := ⟨_, rfl⟩
   have hbok : (0 : Int) ≤ (b.toNat : Int) ∧ (b.toNat : Int) < 256 := ⟨by omega, by have := b.toNat_lt; omega⟩
   have hlen := flagMarks_length a k
   have hmk : flagMarks a (k + 1) = if markOn a b then flagMarks a k ++ [b] else flagMarks a k := by rw [← hb]; rfl
   rw [hb] at hcM
   have HF := Lib.hid (fun W => callsIn_wide (n := n - 1).2 (flagOf_same (b.toNat : Int) (flagVal (b.toNat : Int)) W (by unfold spec_flagOf.f; rw [if_pos hbok])))
   have HMK := Lib.hid hmk
   clear hmk
   obtain ⟨on, hon⟩ : ∃ on, (Go.bits .and .i64 a (flagVal (b.toNat : Int)) != 0) = on := ⟨_, rfl⟩
   have HON := Lib.hid (show markOn a b = on from hon)
   have HJd := Lib.hid (HJ.out _ wr _ none HJs.out (grown_drew' wr none) (by simp))
   cases on
   ·gi_wp2
    gi_quiet (((first | gi_at_call 110 | skip); exact CallsIn.quiet_of_same ((HF.out _).mono (fun e w' h => And.intro h.1 h.2.symm))))
    all_goals
     gi_wp2
     go_roundw
     case rel => exact ⟨k + 1, by omega, by simp, by rw [HMK.out, HON.out]; exact Lib.hid (HJ.out _ wr _ none HJs.out ⟨rfl, rfl, rfl, Nat.le_refl _, fun _ _ _ => rfl⟩ (by simp)), HMr, HBr⟩
     case measure => simp [intOf]; omega
   ·obtain ⟨fn, tmps, assign, body, hy, hR⟩ := HY.out _ b wr.drew HJd.out (by omega)
    have hR2 := hR.mono (R' := fun e W' => ∃ t : Bool, e = .returned (.bool t) ∧ ((t = true ∧ J (flagMarks a k ++ [b]) W' ∧ KBox S wr.drew W') ∨ (t = false ∧ Jx (flagMarks a k ++ [b]) W'))) (by
     rintro e W' (⟨rfl, h1, h2⟩ | ⟨rfl, h1⟩)
     ·exact ⟨true, rfl, .inl ⟨rfl, h1, h2⟩⟩
     ·exact ⟨false, rfl, .inr ⟨rfl, h1⟩⟩)
    gi_wp2
    gi_region_with (first | (refine (HF.out _).mono ?_; rintro e w' ⟨rfl, rfl⟩) | (refine hR2.mono ?_; rintro e w1 ⟨t, rfl, ht⟩))
    all_goals
     rcases ht with ⟨rfl, h1, h2⟩ | ⟨rfl, h1⟩
     ·have H1 := Lib.hid h1
      have H2 := Lib.hid h2
      clear h1 h2 hR2 hR hy
      gi_wp2
      go_roundw
      case rel => exact ⟨k + 1, by omega, by simp, by rw [HMK.out, HON.out]; exact H1, Lib.hid (H2.out.2 M (by omega) _ HMr.out rfl), Lib.hid (H2.out.2 Bs (fun e => hS e.symm) _ HBr.out rfl)⟩
      case measure => simp [intOf]; omega
     ·gi_wp2
      refine bodyPost_ret (results_none rfl _ _ _) rfl ?_
      exact ⟨⟨_, rfl⟩, .inr ⟨_, ⟨k + 1, by omega, by rw [HMK.out, HON.out]; rfl⟩, h1⟩⟩
  ·obtain rfl : k = 6 := by omega
   gi_wp2
   go_end0
   exact ⟨⟨_, rfl⟩, .inl ⟨_, rfl, HJs.out⟩⟩
theorem flags_stops (n : Nat) (hn : 1 ≤ n) (Bs S : Nat) (a : Int) (hS : S ≠ Bs) (w : World) (hSlt : S < w.heap.size) (hBs : w.heap[Bs]? = some (.cells #[.int .i64 a] 3 (0, 0))) :
  SeqStopsK Fence.wide n Tryz.prog 109 #[.pointer (some ⟨Bs, 0, none⟩)] (fun x : UInt8 => #[Value.int .u8 (x.toNat : Int)]) (KBox S) (fun ys => ys = flagMarks a 6) (fun pre => ∃ k, k ≤ 6 ∧ pre = flagMarks a k) 6 w := fun l J Jx W hW hJ hJx hY h0 => by
 have hBlt : Bs < w.heap.size := (Array.getElem?_eq_some_iff.1 hBs).1
 exact marks1_in n hn l Bs S a hS J Jx W (Nat.lt_of_lt_of_le hSlt hW.size) hJ hJx hY ((hW.block Bs hBlt).trans hBs) h0
end Go.Proofs.YtnhbgahfmcicnaaGreatDoor.PA
end
section
namespace Go.Proofs.YtnhbgahfmcicnaaGreatDoor.PA
set_option linter.unusedVariables false
set_option linter.unusedSimpArgs false
open Go.RowKit Go.Shelf Go.Proofs.YtnhbgahfmcicnaaGreatDoorW.PrintWords Go.Proofs.YtnhbgahfmcicnaaGreatDoorW.PrintLast Go.Proofs.YtnhbgahfmcicnaaGreatDoorW.PrintMore
def inI64 (n : Int) : Prop := -9223372036854775808 ≤ n ∧ n ≤ 9223372036854775807
instance (n : Int) : Decidable (inI64 n) := by unfold inI64; infer_instance
def strOf (l : List UInt8) : ByteArray := ⟨l.toArray⟩
theorem strOf_size (l : List UInt8) : (strOf l).size = l.length := by
 show l.toArray.size = l.length
 simp
theorem strOf_data (l : List UInt8) : (strOf l).data.toList = l := by
 show l.toArray.toList = l
 simp
theorem strOf_append (a b : List UInt8) : strOf a ++ strOf b = strOf (a ++ b) := by
 apply ByteArray.ext
 rw [ByteArray.data_append]
 show a.toArray ++ b.toArray = (a ++ b).toArray
 simp
def starB (n : Int) (places : Bool) : List UInt8 := if places then 42 :: (Lib.itoa n ++ [36]) else [42]
theorem starB_length (n : Int) (places : Bool) (h : inI64 n) : (starB n places).length ≤ 23 := by
 have := Lib.itoa_length_le n h.1 h.2
 unfold starB
 split
 ·simp only [List.length_cons, List.length_append, List.length_nil]
  omega
 ·simp
set_option maxRecDepth 100000 in
set_option maxHeartbeats 2000000 in
theorem star_calls (n : Int) (places : Bool) (w : World) (hn : inI64 n) (hLD : LD w) :
  Calls Tryz.prog 73 #[.int .i64 n, .bool places] w fun e w' => e = .returned (.string (strOf (starB n places))) ∧ Below w.heap.size w w' := by
 have hil := Lib.itoa_length_le n hn.1 hn.2
 have hw : ∀ c, Calls Tryz.prog 71 #[.slice (some ⟨w.heap.size, 0, none⟩) 3 c] (w.alloc (.cells #[.iface 9 (.string ⟨#[42]⟩), .iface 3 (.int .i64 n), .iface 9 (.string ⟨#[36]⟩)] 20)) fun e w' => e = .returned (.string (strOf (starB n true))) ∧ Below w.heap.size w w' := by
  intro c
  refine (written_calls [.str ⟨#[42]⟩, .num n, .str ⟨#[36]⟩] w.heap.size c _ (World.alloc_heap_new w _) ?_ (by simp) ?_ ?_).mono ?_
  ·simp [itsBytes, It.bytes]
   omega
  ·intro x hx
   simp only [List.mem_cons, List.not_mem_nil, or_false] at hx
   rcases hx with rfl | rfl | rfl
   ·trivial
   ·exact hn
   ·trivial
  ·exact hLD.below ((Below.refl _ w).alloc (Nat.le_refl _) _)
  ·rintro e w' ⟨rfl, hb⟩
   exact ⟨rfl, ((Below.refl _ w).alloc (Nat.le_refl _) _).trans (hb.mono (by simp))⟩
 have HW := Lib.hid hw
 clear hw hil
 cases places
 ·go_enter Tryz.func73, Tryz.ntmps73
  go_wp2
  go_ret
  exact ⟨rfl, Below.refl _ _⟩
 ·go_enter Tryz.func73, Tryz.ntmps73
  go_wp2_with (go_at_call 71; refine (HW.out _).mono ?_; rintro e w' ⟨rfl, hb⟩)
  go_ret
  exact ⟨rfl, hb⟩
end Go.Proofs.YtnhbgahfmcicnaaGreatDoor.PA
end
section
namespace Go.Proofs.YtnhbgahfmcicnaaGreatDoor.PA
set_option linter.unusedVariables false
set_option linter.unusedSimpArgs false
open Go.RowKit Go.Shelf Go.Proofs.YtnhbgahfmcicnaaGreatDoorW.PrintWords Go.Proofs.YtnhbgahfmcicnaaGreatDoorW.PrintLast Go.Proofs.YtnhbgahfmcicnaaGreatDoorW.PrintMore
attribute [local go_sem] Oper.semAt_some
attribute [local go_sem] wide_fn
def headB (a1 : Int) (places : Bool) : List UInt8 := if places then 37 :: (Lib.itoa a1 ++ [36]) else [37]
def widthB (a3 a4 : Int) (places : Bool) : List UInt8 := if 0 < a4 then starB a4 places else if 0 < a3 then Lib.itoa a3 else []
def precB (a5 a6 : Int) (places : Bool) : List UInt8 := if 0 < a6 then 46 :: starB a6 places else if 0 < a5 then 46 :: Lib.itoa a5 else if a5 = 0 then [46] else []
def shownB (a1 a2 a3 a4 a5 a6 a7 a8 : Int) (places : Bool) : List UInt8 :=
 headB a1 places ++ flagMarks a2 6 ++ widthB a3 a4 places ++ precB a5 a6 places ++ mods.getD a7.toNat [] ++ [a8.toNat.toUInt8]
structure Sh (w : World) (xs : Array Value) (bs : List UInt8) (W : World) : Prop where
 x : W.heap[w.heap.size]? = some (.cells xs 35 (0, 0))
 s : W.heap[w.heap.size + 1]? = some (.cells #[.string (strOf bs)] 9 (0, 0))
 b : Below w.heap.size w W
theorem Sh.lt {w W : World} {xs : Array Value} {bs : List UInt8} (h : Sh w xs bs W) : w.heap.size + 1 < W.heap.size := (Array.getElem?_eq_some_iff.1 h.s).1
theorem Sh.step {w W W' : World} {xs : Array Value} {bs : List UInt8} (h : Sh w xs bs W) (hb : Below W.heap.size W W') : Sh w xs bs W' := by
 have := h.lt
 exact ⟨(hb.block _ (by omega)).trans h.x, (hb.block _ (by omega)).trans h.s, h.b.trans (hb.mono (by omega))⟩
theorem Sh.set {w W : World} {xs : Array Value} {bs : List UInt8} (h : Sh w xs bs W) (bs' : List UInt8) : Sh w xs bs' (W.setCell ⟨w.heap.size + 1, 0, none⟩ (.string (strOf bs'))) := by
 refine ⟨?_, ?_, h.b.setCell (by show w.heap.size ≤ w.heap.size + 1; omega) _⟩
 ·rw [Below.heap_setCell W _ _ _ (by show w.heap.size ≠ w.heap.size + 1; omega)]
  exact h.x
 ·exact Boxed.set (W := W) (v := .string (strOf bs)) _ h.s
theorem Sh.cell {w W : World} {xs : Array Value} {bs : List UInt8} (h : Sh w xs bs W) (k : Nat) (v : Value) (hk : xs[k]? = some v) : W.cell? ⟨w.heap.size, k, none⟩ = some v := by
 unfold World.cell?
 rw [h.x]
 exact hk
theorem Sh.scell {w W : World} {xs : Array Value} {bs : List UInt8} (h : Sh w xs bs W) : W.cell? ⟨w.heap.size + 1, 0, none⟩ = some (.string (strOf bs)) := by
 unfold World.cell?
 rw [h.s]
 rfl
theorem Sh.sfrz {w W : World} {xs : Array Value} {bs : List UInt8} (h : Sh w xs bs W) : W.frozen? ⟨w.heap.size + 1, 0, none⟩ = false := by
 unfold World.frozen?
 rw [h.s]
 rfl
theorem Sh.own {w : World} {xs : Array Value} {B : Nat} (hB : w.heap.size ≤ B) (f : List UInt8 → List UInt8) : OwnFrom B (fun (pre : List UInt8) W => Sh w xs (f pre) W) := by
 intro pre W W' row hs hg hr
 have hne : ∀ k (o : Obj), W.heap[k]? = some o → o.isCells = true → some k ≠ row := by
  rintro k o hk hc rfl
  obtain ⟨_, o', ho', hc'⟩ := hr k rfl
  rw [hk] at ho'
  cases ho'
  rw [hc] at hc'
  cases hc'
 have hlt := hs.lt
 exact ⟨(hg.block _ (by omega) (hne _ _ hs.x rfl)).trans hs.x, (hg.block _ hlt (hne _ _ hs.s rfl)).trans hs.s, hs.b.grown hg hs.b.size (fun k hk => Nat.le_trans hB (hr k hk).1)⟩
theorem written_at (n : Nat) (its : List It) (W : World) (hlen : (itsBytes its).length ≤ 140737488355328) (hn : its.length ≤ 1000) (hok : ∀ x ∈ its, x.ok) (hLD : LD W) (g : Nat) (hg : g = W.heap.size) (c : Nat) :
  CallsIn Fence.wide n Tryz.prog 71 #[.slice (some ⟨g, 0, none⟩) its.length c] (W.alloc (.cells (its.map It.val).toArray 20)) fun e w' => e = .returned (.string (strOf (itsBytes its))) ∧ Below W.heap.size W w' := by
 subst hg
 refine callsIn_wide.2 ?_
 refine (written_calls its W.heap.size c _ (World.alloc_heap_new W _) hlen hn hok (hLD.below ((Below.refl _ W).alloc (Nat.le_refl _) _))).mono ?_
 rintro e w' ⟨rfl, hb⟩
 exact ⟨rfl, ((Below.refl _ W).alloc (Nat.le_refl _) _).trans (hb.mono (by simp))⟩
theorem headB_length (a1 : Int) (places : Bool) (h : inI64 a1) : (headB a1 places).length ≤ 30 := by
 have := Lib.itoa_length_le a1 h.1 h.2
 unfold headB
 split
 ·simp only [List.length_cons, List.length_append, List.length_nil]
  omega
 ·simp
theorem keepsFrom_set {W W2 : World} {S B : Nat} (hb : Below W.heap.size W W2) (hS : S < B) (v : Value) : KeepsFrom B W (W2.setCell ⟨S, 0, none⟩ v) := by
 refine ⟨Nat.le_trans hb.size (by simp), fun k o hB hk _ => ?_⟩
 rw [Below.heap_setCell W2 _ _ _ (by show k ≠ S; omega)]
 exact (hb.block k (Array.getElem?_eq_some_iff.1 hk).1).trans hk
theorem kbox_set {W W2 : World} {S : Nat} (hb : Below W.heap.size W W2) (v : Value) : KBox S W (W2.setCell ⟨S, 0, none⟩ v) := by
 refine ⟨Nat.le_trans hb.size (by simp), fun k hk o ho _ => ?_⟩
 rw [Below.heap_setCell W2 _ _ _ (by show k ≠ S; exact hk)]
 exact (hb.block k (Array.getElem?_eq_some_iff.1 ho).1).trans ho
theorem set_other {W : World} {D S : Nat} {o : Obj} (h : W.heap[D]? = some o) (hne : D ≠ S) (v : Value) : (W.setCell ⟨S, 0, none⟩ v).heap[D]? = some o := by
 rw [Below.heap_setCell W _ _ _ (by show D ≠ S; exact hne)]
 exact h
theorem widthB_length (a3 a4 : Int) (places : Bool) (h3 : inI64 a3) (h4 : inI64 a4) : (widthB a3 a4 places).length ≤ 30 := by
 have := Lib.itoa_length_le a3 h3.1 h3.2
 have := starB_length a4 places h4
 unfold widthB
 split
 ·omega
 ·split
  ·omega
  ·simp
theorem precB_length (a5 a6 : Int) (places : Bool) (h5 : inI64 a5) (h6 : inI64 a6) : (precB a5 a6 places).length ≤ 30 := by
 have := Lib.itoa_length_le a5 h5.1 h5.2
 have := starB_length a6 places h6
 unfold precB
 split
 ·simp only [List.length_cons]; omega
 ·split
  ·simp only [List.length_cons]; omega
  ·split <;> simp
theorem oks {l : List It} (h : ∀ n, It.num n ∈ l → inI64 n) : ∀ x ∈ l, x.ok := by
 intro x hx
 cases x with
 | num n => exact h n hx
 | str s => trivial
 | byte c => trivial
theorem star_in (n : Nat) (a : Int) (places : Bool) (w : World) (hn : inI64 a) (hLD : LD w) :
  CallsIn Fence.wide n Tryz.prog 73 #[.int .i64 a, .bool places] w fun e w' => e = .returned (.string (strOf (starB a places))) ∧ Below w.heap.size w w' := callsIn_wide.2 (star_calls a places w hn hLD)
def spec_shown.f (a0 : ByteArray) (a1 a2 a3 a4 a5 a6 a7 a8 : Int) (places : Bool) : Option ByteArray :=
 if a8 = 0 then some a0 else if a8 = 37 then some (strOf [37, 37]) else
 if inI64 a1 ∧ inI64 a3 ∧ inI64 a4 ∧ inI64 a5 ∧ inI64 a6 ∧ 0 ≤ a7 ∧ a7 < 12 ∧ 0 ≤ a8 ∧ a8 < 256 then some (strOf (shownB a1 a2 a3 a4 a5 a6 a7 a8 places)) else none
set_option maxRecDepth 100000 in
set_option maxHeartbeats 4000000 in
theorem shown_in (n : Nat) (hn : 4 ≤ n) (a0 : ByteArray) (a1 a2 a3 a4 a5 a6 a7 a8 : Int) (places : Bool) (r : ByteArray) (w : World) (hLD : LD w) (h : spec_shown.f a0 a1 a2 a3 a4 a5 a6 a7 a8 places = some r) :
  CallsIn Fence.wide n Tryz.prog 41 #[.agg #[.string a0, .int .i64 a1, .int .i64 a2, .int .i64 a3, .int .i64 a4, .int .i64 a5, .int .i64 a6, .int .i64 a7, .int .u8 a8], .bool places] w fun e w' => e = .returned (.string r) ∧ Below w.heap.size w w' := by
 have hro : Fence.wide.round = none := rfl
 have h1 : 1 ≤ n := by omega
 unfold spec_shown.f at h
 by_cases c0 : a8 = 0
 ·rw [if_pos c0] at h
  obtain rfl := Option.some.inj h
  refine callsIn_of_wp_marks Tryz.func41 rfl trivial ?_ hro
  simp only [Tryz.ntmps41, List.size_toArray, List.length_cons, List.length_nil, Nat.reduceAdd, Nat.reduceSub, Array.replicate_succ, Array.replicate_zero, List.push_toArray, List.append_toArray, List.nil_append, List.cons_append]
  gi_wp2
  refine ⟨_, results_tmp rfl _ _ _, rfl, (Below.refl _ w).alloc (Nat.le_refl _) _⟩
 rw [if_neg c0] at h
 by_cases c1 : a8 = 37
 ·rw [if_pos c1] at h
  obtain rfl := Option.some.inj h
  refine callsIn_of_wp_marks Tryz.func41 rfl trivial ?_ hro
  simp only [Tryz.ntmps41, List.size_toArray, List.length_cons, List.length_nil, Nat.reduceAdd, Nat.reduceSub, Array.replicate_succ, Array.replicate_zero, List.push_toArray, List.append_toArray, List.nil_append, List.cons_append]
  gi_wp2
  refine ⟨_, results_tmp rfl _ _ _, rfl, (Below.refl _ w).alloc (Nat.le_refl _) _⟩
 rw [if_neg c1] at h
 by_cases c2 : inI64 a1 ∧ inI64 a3 ∧ inI64 a4 ∧ inI64 a5 ∧ inI64 a6 ∧ 0 ≤ a7 ∧ a7 < 12 ∧ 0 ≤ a8 ∧ a8 < 256
 ·rw [if_pos c2] at h
  obtain rfl := Option.some.inj h
  obtain ⟨i1, i3, i4, i5, i6, i70, i71, i80, i81⟩ := c2
  refine callsIn_of_wp_marks Tryz.func41 rfl trivial ?_ hro
  simp only [Tryz.ntmps41, List.size_toArray, List.length_cons, List.length_nil, Nat.reduceAdd, Nat.reduceSub, Array.replicate_succ, Array.replicate_zero, List.push_toArray, List.append_toArray, List.nil_append, List.cons_append]
  have hil1 := Lib.itoa_length_le a1 i1.1 i1.2
  obtain ⟨X, hX⟩ : ∃ X, w.heap.size = X := ⟨_, rfl⟩
  obtain ⟨xs, hxs⟩ : ∃ xs : Array Value, #[.string a0, .int .i64 a1, .int .i64 a2, .int .i64 a3, .int .i64 a4, .int .i64 a5, .int .i64 a6, .int .i64 a7, .int .u8 a8] = xs := ⟨_, rfl⟩
  have hSh0 : Sh w xs [37] ((w.alloc (.cells #[.string a0, .int .i64 a1, .int .i64 a2, .int .i64 a3, .int .i64 a4, .int .i64 a5, .int .i64 a6, .int .i64 a7, .int .u8 a8] 35)).alloc (.cells #[.string ⟨#[37]⟩] 9)) := by
   rw [hxs]
   refine ⟨?_, ?_, ((Below.refl _ w).alloc (Nat.le_refl _) _).alloc (by simp) _⟩
   ·rw [Below.heap_alloc _ _ _ (by simp)]
    exact World.alloc_heap_new w _
   ·have := World.alloc_heap_new (w.alloc (.cells xs 35)) (.cells #[.string ⟨#[37]⟩] 9)
    rw [show (w.alloc (.cells xs 35)).heap.size = w.heap.size + 1 from by simp] at this
    exact this
  have HSH0 := Lib.hid hSh0
  have HXS := Lib.hid hxs
  clear hSh0 hxs
  gi_upto_if 15 with fail
  gi_cut [2, 5] from 6 (fun s2 s5 wc => s2 = .pointer (some ⟨X, 0, none⟩) ∧ s5 = .pointer (some ⟨X + 1, 0, none⟩) ∧ Hid (Sh w xs (headB a1 places) wc))
  case first =>
   cases places
   ·gi_wp2
    gi_meet
    case rel => exact ⟨rfl, rfl, HSH0⟩
   ·gi_wp2
    gi_at_call 71
    refine (written_at _ [.str ⟨#[37]⟩, .num a1, .str ⟨#[36]⟩] _ ?hlen (by simp) ?hok ?hld _ ?hg _).mono ?_
    case hg => simp [hX]
    case hlen => simp [itsBytes, It.bytes]; omega
    case hok => exact oks (by intro m hm; simp at hm; exact hm ▸ i1)
    case hld => exact hLD.below HSH0.out.b
    rintro e w1 ⟨rfl, hb⟩
    have hs1 := HSH0.out.step hb
    have hs2 := hs1.scell
    have hs3 := hs1.sfrz
    rw [hX] at hs2 hs3
    gi_wp2
    gi_meet
    case rel => exact ⟨rfl, rfl, Lib.hid (by rw [← hX]; exact hs1.set _)⟩
  case rest =>
   obtain ⟨rfl, rfl, HS⟩ := hcut
   have hx2 := HS.out.cell 2 (.int .i64 a2) (by rw [← HXS.out]; rfl)
   rw [hX] at hx2
   have HFO := Lib.hid (fun W => callsIn_wide (n := n - 1).2 (flagsOf_calls a2 W))
   obtain ⟨Bs, hBs⟩ : ∃ Bs, wc.heap.size = Bs := ⟨_, rfl⟩
   gi_wp2_with (gi_at_call 72; refine (HFO.out _).mono ?_; rintro e w1 ⟨rfl, hw1⟩; rw [hBs])
   have hS1 : Sh w xs (headB a1 places) w1 := by rw [← hw1]; exact HS.out.step ((Below.refl _ wc).alloc (Nat.le_refl _) _)
   have hB1 : w1.heap[wc.heap.size]? = some (.cells #[.int .i64 a2] 3 (0, 0)) := by rw [← hw1]; exact World.alloc_heap_new wc _
   have hlt1 := hS1.lt
   have hltc := HS.out.lt
   rw [hBs] at hB1 hltc
   have HSQ := Lib.hid (flags_stops (n - 1) (by omega) Bs (w.heap.size + 1) a2 (by omega) w1 hlt1 hB1)
   have HS1 := Lib.hid hS1
   clear hw1 hS1 hB1
   refine' wpIn_rangeFunc_ownG hro h1 (gf := 109) (lb := #[.pointer (some ⟨Bs, 0, none⟩)]) rfl trivial (enters_of Tryz.func109 (by kernel_rfl) rfl)
    HSQ.out (fun h k => h.trans k) (fun W l o o' _ h hc _ => KBox.put W l o o' h hc) (Below.refl _ _) (fun _ => rfl)
    (fun (pre : List UInt8) W => Sh w xs (headB a1 places ++ pre) W) (fun _ _ _ => False)
    (Sh.own (Nat.le_of_lt (Nat.lt_of_succ_lt hlt1)) _) (fun _ _ _ _ _ hs _ _ => hs) (by simpa using HS1.out) _ ?assign ?body ?done ?stop
   case assign =>
    intro l x W K hK
    gi_wp2
    exact hK
   case body =>
    intro l pre x W hSW hlen
    have hb1 : (headB a1 places ++ pre).length ≤ 100 := by
     rw [List.length_append]
     have := headB_length a1 places i1
     omega
    have hs2 := hSW.scell
    have hs3 := hSW.sfrz
    rw [hX] at hs2 hs3
    have HSW := Lib.hid hSW
    clear hSW
    have hd : 1 ≤ n - 1 - 1 := by omega
    have e : itsBytes [.str (strOf (headB a1 places ++ pre)), .byte x] = headB a1 places ++ (pre ++ [x]) := by simp [itsBytes, It.bytes, strOf_data]
    gi_wp2
    refine (CallsIn.inRound l (written_at _ [.str (strOf (headB a1 places ++ pre)), .byte x] _ ?hlen (by simp) ?hok ?hld _ ?hg _)).mono ?_
    case hg => rfl
    case hlen => rw [e, ← List.append_assoc, List.length_append]; simp only [List.length_cons, List.length_nil]; omega
    case hok => exact oks (by intro m hm; simp at hm)
    case hld => exact hLD.below HSW.out.b
    rintro e w2 ⟨rfl, hb⟩
    have hs1 := HSW.out.step hb
    have hs2 := hs1.scell
    have hs3 := hs1.sfrz
    rw [hX] at hs2 hs3
    gi_wp2
    rw [← hX]
    exact ⟨keepsFrom_set hb hlt1 _, kbox_set hb _, hs1.set _⟩
   case done =>
    rintro D ys W hD rfl hSW hK
    have HSW := Lib.hid hSW
    have HK := Lib.hid hK
    clear hSW hK
    have hl1 : (headB a1 places ++ flagMarks a2 6).length ≤ 100 := by
     have := headB_length a1 places i1
     have := flagMarks_length a2 6
     rw [List.length_append]
     omega
    obtain ⟨L1, hL1⟩ : ∃ L1, headB a1 places ++ flagMarks a2 6 = L1 := ⟨_, rfl⟩
    rw [hL1] at HSW hl1
    have HL1 := Lib.hid hL1
    clear hL1
    dsimp only
    gi_step
    gi_step
    gi_step
    gi_cut [] from 6 (fun wc => Hid (Sh w xs (L1 ++ widthB a3 a4 places) wc) ∧ Hid (wc.heap[D]? = some (.deferred (some []))))
    case first =>
     have hx4 := HSW.out.cell 4 (.int .i64 a4) (by rw [← HXS.out]; rfl)
     have hx3 := HSW.out.cell 3 (.int .i64 a3) (by rw [← HXS.out]; rfl)
     have hcs := HSW.out.scell
     rw [hX] at hx4 hx3 hcs
     have HSd := Lib.hid (HSW.out.step (Below.drew (Below.refl _ W)))
     have hDlt : D < W.heap.size := (Array.getElem?_eq_some_iff.1 HK.out).1
     by_cases c4 : 0 < a4
     ·have hst := starB_length a4 places i4
      have hsz : (strOf L1).size + (strOf (starB a4 places)).size ≤ 9223372036854775807 := by rw [strOf_size, strOf_size]; omega
      gi_upto_region 13 with fail
      first | gi_region_with (gi_at_call 73; refine (star_in (n - 1) a4 places W.drew i4 (hLD.below HSd.out.b)).mono ?_; rintro e w2 ⟨rfl, hb⟩; have hs1 := HSd.out.step hb; have hs2 := hs1.scell; have hs3 := hs1.sfrz; rw [hX] at hs2 hs3) | fail
      all_goals
       gi_wp2
       gi_meet
       case rel =>
        rw [strOf_append, ← hX]
        refine ⟨Lib.hid ?_, Lib.hid (set_other ((hb.block D hDlt).trans HK.out) (by omega) _)⟩
        rw [show widthB a3 a4 places = starB a4 places from if_pos c4]
        exact hs1.set _
     ·by_cases c3 : 0 < a3
      ·have hil3 := Lib.itoa_length_le a3 i3.1 i3.2
       have e : itsBytes [.str (strOf L1), .num a3] = L1 ++ widthB a3 a4 places := by
        rw [show widthB a3 a4 places = Lib.itoa a3 from (if_neg c4).trans (if_pos c3)]
        simp [itsBytes, It.bytes, strOf_data]
       have he : (itsBytes [.str (strOf L1), .num a3]).length ≤ 200 := by
        simp only [itsBytes, It.bytes, strOf_data, List.flatMap_cons, List.flatMap_nil, List.append_nil, List.length_append]
        omega
       have HE := Lib.hid e
       clear e
       gi_wp2
       gi_at_call 71
       refine (written_at _ [.str (strOf L1), .num a3] _ (Nat.le_trans he (by omega)) (by simp) ?hok ?hld _ ?hg _).mono ?_
       case hg => rfl
       case hok => exact oks (by intro m hm; simp at hm; exact hm ▸ i3)
       case hld => exact hLD.below HSW.out.b
       rintro e w2 ⟨rfl, hb⟩
       have hs1 := HSW.out.step hb
       have hs2 := hs1.scell
       have hs3 := hs1.sfrz
       rw [hX] at hs2 hs3
       gi_wp2
       gi_meet
       case rel =>
        rw [HE.out, ← hX]
        exact ⟨Lib.hid (hs1.set _), Lib.hid (set_other ((hb.block D hDlt).trans HK.out) (by omega) _)⟩
      ·gi_wp2
       gi_meet
       case rel =>
        rw [show widthB a3 a4 places = [] from by unfold widthB; rw [if_neg (by omega), if_neg (by omega)], List.append_nil]
        exact ⟨HSW, HK⟩
    case rest =>
     obtain ⟨HSV, HKV⟩ := hcut
     have hl2 : (L1 ++ widthB a3 a4 places).length ≤ 130 := by
      have := widthB_length a3 a4 places i3 i4
      rw [List.length_append]
      omega
     obtain ⟨L2, hL2⟩ : ∃ L2, L1 ++ widthB a3 a4 places = L2 := ⟨_, rfl⟩
     rw [hL2] at HSV hl2
     have HL2 := Lib.hid hL2
     clear hL2 HSW HK
     gi_step
     gi_step
     gi_cut [] from 6 (fun wc => Hid (Sh w xs (L2 ++ precB a5 a6 places) wc) ∧ Hid (wc.heap[D]? = some (.deferred (some []))))
     case first =>
      have hx6 := HSV.out.cell 6 (.int .i64 a6) (by rw [← HXS.out]; rfl)
      have hx5 := HSV.out.cell 5 (.int .i64 a5) (by rw [← HXS.out]; rfl)
      have hcs := HSV.out.scell
      have hcz := HSV.out.sfrz
      rw [hX] at hx6 hx5 hcs hcz
      have HSd := Lib.hid (HSV.out.step (Below.drew (Below.refl _ wc)))
      have hDlt : D < wc.heap.size := (Array.getElem?_eq_some_iff.1 HKV.out).1
      by_cases c6 : 0 < a6
      ·have hst := starB_length a6 places i6
       have hsz1 : 1 + (strOf (starB a6 places)).size ≤ 9223372036854775807 := by rw [strOf_size]; omega
       have hsz2 : (strOf L2).size + (1 + (strOf (starB a6 places)).size) ≤ 9223372036854775807 := by rw [strOf_size, strOf_size]; omega
       gi_upto_region 17 with fail
       first | gi_region_with (gi_at_call 73; refine (star_in (n - 1) a6 places wc.drew i6 (hLD.below HSd.out.b)).mono ?_; rintro e w2 ⟨rfl, hb⟩; have hs1 := HSd.out.step hb; have hs2 := hs1.scell; have hs3 := hs1.sfrz; rw [hX] at hs2 hs3) | fail
       all_goals
        gi_wp2
        gi_meet
        case rel =>
         rw [show (⟨#[46]⟩ : ByteArray) = strOf [46] from rfl, strOf_append, strOf_append, ← hX]
         refine ⟨Lib.hid ?_, Lib.hid (set_other ((hb.block D hDlt).trans HKV.out) (by omega) _)⟩
         rw [show precB a5 a6 places = [46] ++ starB a6 places from if_pos c6]
         exact hs1.set _
      ·by_cases c5 : 0 < a5
       ·have hil5 := Lib.itoa_length_le a5 i5.1 i5.2
        have e : itsBytes [.str (strOf L2), .str ⟨#[46]⟩, .num a5] = L2 ++ precB a5 a6 places := by
         rw [show precB a5 a6 places = 46 :: Lib.itoa a5 from (if_neg c6).trans (if_pos c5)]
         simp [itsBytes, It.bytes, strOf_data]
        have he : (itsBytes [.str (strOf L2), .str ⟨#[46]⟩, .num a5]).length ≤ 200 := by
         have := precB_length a5 a6 places i5 i6
         rw [e, List.length_append]
         omega
        have HE := Lib.hid e
        clear e
        gi_wp2
        gi_at_call 71
        refine (written_at _ [.str (strOf L2), .str ⟨#[46]⟩, .num a5] _ (Nat.le_trans he (by omega)) (by simp) ?hok ?hld _ ?hg _).mono ?_
        case hg => rfl
        case hok => exact oks (by intro m hm; simp at hm; exact hm ▸ i5)
        case hld => exact hLD.below HSV.out.b
        rintro e w2 ⟨rfl, hb⟩
        have hs1 := HSV.out.step hb
        have hs2 := hs1.scell
        have hs3 := hs1.sfrz
        rw [hX] at hs2 hs3
        gi_wp2
        gi_meet
        case rel =>
         rw [HE.out, ← hX]
         exact ⟨Lib.hid (hs1.set _), Lib.hid (set_other ((hb.block D hDlt).trans HKV.out) (by omega) _)⟩
       ·by_cases c50 : a5 = 0
        ·subst c50
         have hsz1 : (strOf L2).size + 1 ≤ 9223372036854775807 := by rw [strOf_size]; omega
         have hp : precB 0 a6 places = [46] := by unfold precB; rw [if_neg c6, if_neg c5, if_pos rfl]
         have HP := Lib.hid hp
         clear hp
         gi_wp2
         gi_meet
         case rel =>
          rw [show (⟨#[46]⟩ : ByteArray) = strOf [46] from rfl, strOf_append, ← hX, HP.out]
          exact ⟨Lib.hid (HSV.out.set _), Lib.hid (set_other HKV.out (by omega) _)⟩
        ·have hp : precB a5 a6 places = [] := by unfold precB; rw [if_neg c6, if_neg c5, if_neg c50]
         have HP := Lib.hid hp
         clear hp
         gi_wp2
         gi_meet
         case rel =>
          rw [HP.out, List.append_nil]
          exact ⟨HSV, HKV⟩
     case rest =>
      obtain ⟨HSU, HKU⟩ := hcut
      have hl3 : (L2 ++ precB a5 a6 places).length ≤ 160 := by
       have := precB_length a5 a6 places i5 i6
       rw [List.length_append]
       omega
      obtain ⟨L3, hL3⟩ : ∃ L3, L2 ++ precB a5 a6 places = L3 := ⟨_, rfl⟩
      rw [hL3] at HSU hl3
      have HL3 := Lib.hid hL3
      have hx7 := HSU.out.cell 7 (.int .i64 a7) (by rw [← HXS.out]; rfl)
      have hx8 := HSU.out.cell 8 (.int .u8 a8) (by rw [← HXS.out]; rfl)
      have hcs := HSU.out.scell
      rw [hX] at hx7 hx8 hcs
      obtain ⟨j, rfl⟩ := Int.eq_ofNat_of_zero_le i70
      have hix := fun (W : World) => index_mod j (by omega) W
      obtain ⟨c, hc8⟩ : ∃ c : UInt8, a8.toNat.toUInt8 = c := ⟨_, rfl⟩
      have hc9 : a8 = (c.toNat : Int) := by
       rw [← hc8]
       simp only [Nat.toUInt8_eq, UInt8.toNat_ofNat']
       omega
      have hj2 : (modAt j).size ≤ 2 := by
       rw [modAt_size]
       exact mods_len j
      have hw71 : ∀ W, (∃ W1, W = World.drew W1 ∧ W1 = (wc.alloc (.cells modVals 109)).alloc (.cells #[.iface 9 (.string (strOf L3)), .iface 9 (.string (modAt j)), .iface 5 (.int .u8 a8)] 20)) → Calls Tryz.prog 71 #[.slice (some ⟨wc.heap.size + 1, 0, none⟩) 3 3] W fun e w' => e = .returned (.string (strOf (L3 ++ (modAt j).data.toList ++ [c]))) ∧ Below wc.heap.size wc w' := by
       rintro W ⟨W1, rfl, rfl⟩
       have hB0 : Below wc.heap.size wc (World.drew ((wc.alloc (.cells modVals 109)).alloc (.cells #[.iface 9 (.string (strOf L3)), .iface 9 (.string (modAt j)), .iface 5 (.int .u8 a8)] 20))) := (((Below.refl _ wc).alloc (Nat.le_refl _) _).alloc (by simp) _).drew
       refine (written_calls [.str (strOf L3), .str (modAt j), .byte c] (wc.heap.size + 1) 3 _ ?hg ?hlen (by simp) ?hok ?hld).mono ?_
       case hg =>
        have := World.alloc_heap_new (wc.alloc (.cells modVals 109)) (.cells #[.iface 9 (.string (strOf L3)), .iface 9 (.string (modAt j)), .iface 5 (.int .u8 a8)] 20)
        rw [show (wc.alloc (.cells modVals 109)).heap.size = wc.heap.size + 1 from by simp] at this
        refine Eq.trans this ?_
        simp [It.val, hc9]
       case hlen =>
        have : (modAt j).data.toList.length ≤ 2 := by rw [data_length]; exact hj2
        simp only [itsBytes, It.bytes, strOf_data, List.flatMap_cons, List.flatMap_nil, List.append_nil, List.length_append, List.length_cons, List.length_nil]
        omega
       case hok => exact oks (by intro m hm; simp at hm)
       case hld => exact (hLD.below HSU.out.b).below hB0
       rintro e w' ⟨rfl, hb⟩
       refine ⟨?_, hB0.trans (hb.mono (by simp; omega))⟩
       congr 3
       simp [itsBytes, It.bytes, strOf_data]
      have HW71 := Lib.hid hw71
      have HC9 := Lib.hid hc8
      clear hw71 hc9 hc8
      gi_upto_region 22 with fail
      refine wpIn_wide.2 ?_
      go_region_held3 (fun w' => w'.cell? ⟨X + 1, 0, none⟩ = some (.string (strOf L3)) ∧ w'.cell? ⟨X, 7, none⟩ = some (.int .i64 (j : Int)) ∧ w'.cell? ⟨X, 8, none⟩ = some (.int .u8 a8)) (go_keep)
       (first | (go_at_call 74; refine (modifiers_calls _).mono ?_; rintro e w' ⟨rfl, hw⟩; rw [← hw]; clear hw) | (go_at_call 71; refine (HW71.out _ ⟨_, rfl, rfl⟩).mono ?_; rintro e w2 ⟨rfl, hb⟩; have hs1 := HSU.out.step hb; have k1 := hs1.scell; have k2 := hs1.cell 7 (.int .i64 (j : Int)) (by rw [← HXS.out]; rfl); have k3 := hs1.cell 8 (.int .u8 a8) (by rw [← HXS.out]; rfl); rw [hX] at k1 k2 k3))
      have HB := Lib.hid hb
      have HS1 := Lib.hid hs1
      clear hb hs1 k1 k2 k3
      gi_wp2
      have hDlt : D < wc.heap.size := (Array.getElem?_eq_some_iff.1 HKU.out).1
      have hK2 := (HB.out.block D hDlt).trans HKU.out
      refine ⟨by simp, .inl ⟨_, _, rfl, run_takeDeferred hK2, ?_⟩⟩
      refine ⟨_, results_tmp rfl _ _ _, ?_, ?_⟩
      ·have e : shownB a1 a2 a3 a4 a5 a6 (j : Int) a8 places = L3 ++ ((modAt j).data.toList ++ [c]) := by
        unfold shownB
        rw [HL1.out, HL2.out, HL3.out, HC9.out, List.append_assoc, Int.toNat_natCast]
        rfl
       rw [e]
       rfl
      ·exact HS1.out.b.grown (grownBy_putObj' _ D _) HS1.out.b.size (fun k hk => by cases hk; omega)
   case stop =>
    intro D c pre W _ _ h _
    exact h.elim
 ·rw [if_neg c2] at h
  cases h
end Go.Proofs.YtnhbgahfmcicnaaGreatDoor.PA
end
