/- A part of the proof of SpecEscapesCardSaid: the law answers true at every text, with no condition. -/
import Derived.Test.YtnhbgahfmcicnaaGreatDoorEsShelf3
import Derived.Test.YtnhbgahfmcicnaaGreatDoorEsG1a
import Derived.RangeFuncRecord
import Derived.ShutString
import Derived.Outline
section
namespace Go.Proofs.YtnhbgahfmcicnaaGreatDoor.PA
set_option linter.unusedVariables false
set_option linter.unusedSimpArgs false
open Go.RowKit Go.Shelf Go.Proofs.YtnhbgahfmcicnaaGreatDoorW.PrintWords Go.Proofs.YtnhbgahfmcicnaaGreatDoorW.PrintLast Go.Proofs.YtnhbgahfmcicnaaGreatDoorW.PrintMore
def Bld (B b : Nat) (l : List UInt8) (w : World) : Prop := Lib.IsBuilderF 73 5 B b (Lib.byteCells l) w
theorem strCells_eq (s : ByteArray) : Lib.strCells s = Lib.byteCells s.data.toList := by
  rfl
theorem bld_str (B b : Nat) (l : List UInt8) (s : ByteArray) (w : World) (h : Bld B b l w) (hlen : l.length + s.size ≤ 140737488355328) (hB : B ≤ w.heap.size) :
    Calls Tryz.prog 40 #[.pointer (some ⟨b, 0, none⟩), .string s] w fun e w' => e = .returned (.tuple #[.int .i64 s.size, .nilIface]) ∧ Bld B b (l ++ s.data.toList) w' ∧ Below B w w' ∧ Lib.OthersKept 5 (some b) w w' := by
  refine (Any.Builder_WriteString_k Tryz.laysB166 Tryz.laysB_Extra B b (Lib.byteCells l) s w h (by rw [Lib.byteCells_length]; exact hlen) hB).mono ?_
  rintro e w' ⟨rfl, h1, h2, h3⟩
  refine ⟨rfl, ?_, h2, h3⟩
  refine Or.inr ?_
  have e1 : Lib.byteCells (l ++ s.data.toList) = Lib.byteCells l ++ Lib.strCells s := by rw [strCells_eq]; simp [Lib.byteCells]
  rw [e1]
  exact h1
theorem bld_byte (B b : Nat) (l : List UInt8) (c : UInt8) (w : World) (h : Bld B b l w) (hlen : l.length + 1 ≤ 140737488355328) (hB : B ≤ w.heap.size) :
    Calls Tryz.prog 108 #[.pointer (some ⟨b, 0, none⟩), .int .u8 c.toNat] w fun e w' => e = .returned .nilIface ∧ Bld B b (l ++ [c]) w' ∧ Below B w w' ∧ Lib.OthersKept 5 (some b) w w' := by
  refine (Any.Builder_WriteByte_k Tryz.laysB167 Tryz.laysB_Extra B b (Lib.byteCells l) c.toNat w h (by rw [Lib.byteCells_length]; exact hlen) hB).mono ?_
  rintro e w' ⟨rfl, h1, h2, h3⟩
  refine ⟨rfl, Or.inr ?_, h2, h3⟩
  have e1 : Lib.byteCells (l ++ [c]) = Lib.byteCells l ++ [.int .u8 c.toNat] := by simp [Lib.byteCells]
  rw [e1]
  exact h1
theorem bld_string (B b : Nat) (l : List UInt8) (w : World) (h : Bld B b l w) (hB : B ≤ w.heap.size) :
    Calls Tryz.prog 43 #[.pointer (some ⟨b, 0, none⟩)] w fun e w' => e = .returned (.string ⟨l.toArray⟩) ∧ Bld B b l w' ∧ Below B w w' ∧ Lib.OthersKept 5 (some b) w w' :=
  Any.Builder_String_any_k Tryz.laysB169 Tryz.laysB_Extra B b l w h hB
theorem bld_len (B b : Nat) (l : List UInt8) (w : World) (h : Bld B b l w) :
    Calls Tryz.prog 42 #[.pointer (some ⟨b, 0, none⟩)] w fun e w' => e = .returned (.int .i64 l.length) ∧ w' = w := by
  have := Any.Builder_Len_f Tryz.laysB170 B b (Lib.byteCells l) w h
  rw [Lib.byteCells_length] at this
  exact this
theorem bld_new (w : World) : Bld w.heap.size w.heap.size [] (w.alloc (.cells #[.pointer none, .slice none 0 0] 73)) :=
  Lib.IsBuilderF.of (Lib.fresh_isBuilder 73 5 w)
theorem Bld.below {B b : Nat} {l : List UInt8} {w w' : World} (h : Bld B b l w) (hb : Below w.heap.size w w') : Bld B b l w' := by
  have key : ∀ p, Lib.BuilderAtF 73 5 B b p (Lib.byteCells l) w → Lib.BuilderAtF 73 5 B b p (Lib.byteCells l) w' := by
    rintro p ⟨h1, v, h2, h3, h4⟩
    have hlt : b < w.heap.size := (Array.getElem?_eq_some_iff.1 h2).1
    refine ⟨h1, v, (hb.block b hlt).trans h2, ⟨h3.1, ?_⟩, h4⟩
    rcases h3.2 with hn | ⟨g, cap, cur, fz, hv, hbg, hg, rest⟩
    · exact .inl hn
    · exact .inr ⟨g, cap, cur, fz, hv, hbg, (hb.block g (Array.getElem?_eq_some_iff.1 hg).1).trans hg, rest⟩
  rcases h with h | h
  · exact .inl (key _ h)
  · exact .inr (key _ h)
inductive It where
  | str (s : ByteArray)
  | num (n : Int)
  | byte (c : UInt8)
def It.val : It → Value
  | .str s => .iface 9 (.string s)
  | .num n => .iface 3 (.int .i64 n)
  | .byte c => .iface 5 (.int .u8 c.toNat)
def It.bytes : It → List UInt8
  | .str s => s.data.toList
  | .num n => Lib.itoa n
  | .byte c => [c]
def It.ok : It → Prop
  | .num n => -9223372036854775808 ≤ n ∧ n ≤ 9223372036854775807
  | _ => True
def itsBytes (l : List It) : List UInt8 := l.flatMap It.bytes
theorem itsBytes_take (l : List It) (k : Nat) (h : k < l.length) : itsBytes (l.take (k + 1)) = itsBytes (l.take k) ++ (l[k]).bytes := by
  unfold itsBytes
  rw [List.take_succ_eq_append_getElem h, List.flatMap_append]
  simp
theorem itsBytes_le (l : List It) (k : Nat) : (itsBytes (l.take k)).length ≤ (itsBytes l).length := by
  have e : l = l.take k ++ l.drop k := (List.take_append_drop k l).symm
  have e2 : itsBytes l = itsBytes (l.take k) ++ itsBytes (l.drop k) := by
    unfold itsBytes
    rw [← List.flatMap_append, List.take_append_drop]
  rw [e2, List.length_append]
  omega
theorem itsCell (its : List It) (g : Nat) (w : World) (hg : w.heap[g]? = some (.cells (its.map It.val).toArray 20 (0, 0))) (k : Nat) (hk : k < its.length) : w.cell? ⟨g, k, none⟩ = some (its[k]).val := by
  unfold World.cell?
  rw [hg]
  simp [hk]
set_option maxRecDepth 100000 in
set_option maxHeartbeats 4000000 in
theorem written_calls (its : List It) (g c : Nat) (w : World) (hg : w.heap[g]? = some (.cells (its.map It.val).toArray 20 (0, 0))) (hlen : (itsBytes its).length ≤ 140737488355328) (hn : its.length ≤ 1000) (hok : ∀ x ∈ its, x.ok) (hLD : LD w) :
    Calls Tryz.prog 71 #[.slice (some ⟨g, 0, none⟩) its.length c] w fun e w' => e = .returned (.string ⟨(itsBytes its).toArray⟩) ∧ Below w.heap.size w w' := by
  have hglt : g < w.heap.size := (Array.getElem?_eq_some_iff.1 hg).1
  have HG := Lib.hid hg
  have HOK := Lib.hid hok
  have HLD := Lib.hid hLD
  have HLEN := Lib.hid hlen
  clear hg hok hLD hlen
  go_enter Tryz.func71, Tryz.ntmps71
  go_wp2_with fail
  go_loopw [11] (fun i wr => ∃ k : Nat, k ≤ its.length ∧ i = .int .i64 k ∧ Hid (Bld w.heap.size w.heap.size (itsBytes (its.take k)) wr) ∧ Hid (Below w.heap.size w wr)) (fun i _ => its.length - (intOf i).toNat)
  case atStart => exact ⟨0, Nat.zero_le _, rfl, by simpa [itsBytes] using Lib.hid (bld_new w), Lib.hid ((Below.refl _ _).alloc (Nat.le_refl _) _)⟩
  case round =>
    obtain ⟨k, hk, rfl, HBl, HB⟩ := hrel
    by_cases hlt : k < its.length
    · have hcell := itsCell its g wr (by rw [HB.out.block g hglt]; exact HG.out) k hlt
      have hoki := HOK.out its[k] (List.getElem_mem hlt)
      have htk := itsBytes_take its k hlt
      have hle := itsBytes_le its (k + 1)
      rw [htk, List.length_append] at hle
      obtain ⟨x, hx⟩ : ∃ x, its[k] = x := ⟨_, rfl⟩
      rw [hx] at hcell hoki htk hle
      have HTK := Lib.hid htk
      have HLE := Lib.hid hle
      clear htk hle hx
      cases x with
      | str s =>
        simp only [It.val] at hcell
        have hta : ∀ W, (Instr.typeAssert (.iface 9 (.string s)) 20 9 true).run Tryz.prog W = .ok (.tuple #[.string s, .bool true]) W := fun W => by rfl
        have hc := fun W => bld_str w.heap.size w.heap.size (itsBytes (its.take k)) s W
        have HC := Lib.hid hc
        clear hc
        go_wp2_with (go_at_call 40; refine (HC.out _ ?h1 ?h2 ?h3).mono ?_; (case h1 => exact HBl.out); (case h2 => have := HLE.out; have := HLEN.out; simp only [It.bytes, data_length] at *; omega); (case h3 => exact HB.out.size); rintro e w1 ⟨rfl, h1, h2, h3⟩)
        have H1 := Lib.hid h1
        have H2 := Lib.hid h2
        clear h1 h2 h3
        go_wp2
        go_roundw
        case rel => exact ⟨k + 1, by omega, by go_num, by rw [HTK.out]; exact H1, Lib.hid (HB.out.trans H2.out)⟩
        case measure => simp [intOf]; omega
      | num n =>
        simp only [It.val] at hcell
        have hta : ∀ W, (Instr.typeAssert (.iface 3 (.int .i64 n)) 20 9 true).run Tryz.prog W = .ok (.tuple #[.string ⟨#[]⟩, .bool false]) W := fun W => by rfl
        have htb : ∀ W, (Instr.typeAssert (.iface 3 (.int .i64 n)) 20 3 true).run Tryz.prog W = .ok (.tuple #[.int .i64 n, .bool true]) W := fun W => by rfl
        have hLDr := HLD.out.below HB.out
        have hi := fun W hW => strconv_Itoa.calls n ⟨(Lib.itoa n).toArray⟩ W hW (by unfold strconv_Itoa.f; rw [if_pos (show -9223372036854775808 ≤ n ∧ n ≤ 9223372036854775807 from hoki)])
        have HI := Lib.hid hi
        have HLDr := Lib.hid hLDr
        clear hi hLDr hoki
        have hsz : (⟨(Lib.itoa n).toArray⟩ : ByteArray).size = (Lib.itoa n).length := size_of_list _
        have hdt : (⟨(Lib.itoa n).toArray⟩ : ByteArray).data.toList = Lib.itoa n := by simp
        obtain ⟨t, ht⟩ : ∃ t, (⟨(Lib.itoa n).toArray⟩ : ByteArray) = t := ⟨_, rfl⟩
        rw [ht] at HI hsz hdt
        have HSZ := Lib.hid hsz
        have HDT := Lib.hid hdt
        clear hsz hdt ht
        go_wp2_with (first
          | (go_at_call 80; refine (HI.out _ HLDr.out).mono ?_; rintro e w1 ⟨rfl, hb1⟩)
          | (go_at_call 40; refine (bld_str w.heap.size w.heap.size (itsBytes (its.take k)) t _ ?h1 ?h2 ?h3).mono ?_; (case h1 => exact Bld.below HBl.out hb1); (case h2 => have := HLE.out; have := HLEN.out; have := HSZ.out; simp only [It.bytes] at *; omega); (case h3 => exact Nat.le_trans HB.out.size hb1.size); rintro e w2 ⟨rfl, h1, h2, h3⟩))
        have H1 := Lib.hid h1
        have H2 := Lib.hid h2
        have HB1 := Lib.hid hb1
        clear h1 h2 h3 hb1
        go_wp2
        go_roundw
        case rel => exact ⟨k + 1, by omega, by go_num, by rw [HTK.out]; simp only [It.bytes]; rw [← HDT.out]; exact H1, Lib.hid ((HB.out.trans (HB1.out.mono HB.out.size)).trans H2.out)⟩
        case measure => simp [intOf]; omega
      | byte b =>
        simp only [It.val] at hcell
        have hta : ∀ W, (Instr.typeAssert (.iface 5 (.int .u8 b.toNat)) 20 9 true).run Tryz.prog W = .ok (.tuple #[.string ⟨#[]⟩, .bool false]) W := fun W => by rfl
        have htb : ∀ W, (Instr.typeAssert (.iface 5 (.int .u8 b.toNat)) 20 3 true).run Tryz.prog W = .ok (.tuple #[.int .i64 0, .bool false]) W := fun W => by rfl
        have htc : ∀ W, (Instr.typeAssert (.iface 5 (.int .u8 b.toNat)) 20 5 true).run Tryz.prog W = .ok (.tuple #[.int .u8 b.toNat, .bool true]) W := fun W => by rfl
        go_wp2_with (go_at_call 108; refine (bld_byte w.heap.size w.heap.size (itsBytes (its.take k)) b _ ?h1 ?h2 ?h3).mono ?_; (case h1 => exact HBl.out); (case h2 => have := HLE.out; have := HLEN.out; simp only [It.bytes, List.length_singleton] at *; omega); (case h3 => exact HB.out.size); rintro e w1 ⟨rfl, h1, h2, h3⟩)
        have H1 := Lib.hid h1
        have H2 := Lib.hid h2
        clear h1 h2 h3
        go_wp2
        go_roundw
        case rel => exact ⟨k + 1, by omega, by go_num, by rw [HTK.out]; exact H1, Lib.hid (HB.out.trans H2.out)⟩
        case measure => simp [intOf]; omega
    · obtain rfl : k = its.length := by omega
      go_wp2_with (go_at_call 43; refine (bld_string w.heap.size w.heap.size (itsBytes (its.take its.length)) _ HBl.out HB.out.size).mono ?_; rintro e w1 ⟨rfl, h1, h2, h3⟩)
      go_ret
      exact ⟨rfl, HB.out.trans h2⟩
end Go.Proofs.YtnhbgahfmcicnaaGreatDoor.PA
end
