/- A part of the proof of the claim's statement. -/
import Derived.Lib.SlKeysI
import Derived.Test.YtnhbgahfmcicnaaGreatDoorPcG1b
section
namespace Go.Proofs.YtnhbgahfmcicnaaGreatDoor.PA
set_option linter.unusedVariables false
set_option linter.unusedSimpArgs false
open Go.RowKit Go.Shelf Go.Sort Go.Proofs.YtnhbgahfmcicnaaGreatDoorW.PrintWords Go.Proofs.YtnhbgahfmcicnaaGreatDoorW.PrintLast Go.Proofs.YtnhbgahfmcicnaaGreatDoorW.PrintMore
theorem ints_at {w : World} {k : IntKind} {A : Option Addr} {xs : List Int} (h : (Kd.int k).C w A xs.length xs) (hn : 0 < xs.length) :
  ∃ b off, A = some ⟨b, off, none⟩ ∧ b < w.heap.size ∧ ∀ j, j < xs.length → w.cell? ⟨b, off + j, none⟩ = some (.int k (xs[j]?.getD 0)) := by
 obtain ⟨ad, hA, hc⟩ := Kd.at_int h 0 (by omega) (by omega)
 have hspot : ad.spot = none := by
  cases hs : ad.spot with
  | none => rfl
  | some q =>
   exfalso
   simp only [Int.toNat_zero, Addr.add, if_true] at hc
   unfold World.cell? at hc
   rw [hs] at hc
   split at hc <;> simp at hc
 obtain ⟨b, off, sp⟩ := ad
 simp only at hspot
 subst hspot
 refine ⟨b, off, hA, ?_, ?_⟩
 ·have := World.block_lt_of_cell? w _ hc
  simpa [Addr.add] using this
 ·intro j hj
  obtain ⟨ad', hA', hc'⟩ := Kd.at_int h (j : Int) (by omega) (by omega)
  rw [hA] at hA'
  obtain rfl := Option.some.inj hA'
  have e : (⟨b, off, none⟩ : Addr).add (j : Int).toNat = ⟨b, off + j, none⟩ := by
   simp only [Int.toNat_natCast, Addr.add]
   split
   ·rename_i h0
    rw [h0, Nat.add_zero]
   ·rfl
  rw [e] at hc'
  rw [hc']
  simp [YtnhbgahfmcicnaaGreatDoorW.PrintWords.rd]
def slices_Max_int_int.f (l0 : List Int) : Option (Int) := if 0 < l0.length then some (Lib.maxOf l0) else none
theorem slices_Max_int_int.calls (A0 : Option Addr) (c0 : Nat) (l0 : List Int) (r : Int) (w : World) (hr0 : Kd.C (Kd.int .i64) w A0 l0.length l0) (hc0 : l0.length ≤ c0) (h : slices_Max_int_int.f l0 = some r) :
  Calls Tryz.prog 49 #[.slice A0 l0.length c0] w fun e w' => e = .returned (.int .i64 r) ∧ Drawn0 w w' := by
 unfold slices_Max_int_int.f at h
 by_cases c : 0 < l0.length
 ·rw [if_pos c] at h
  cases h
  obtain ⟨b, off, rfl, _, hcs⟩ := ints_at hr0 c
  refine (Tryz.slices_Max_int b off l0.length c0 l0 w c (Nat.le_refl _) (Kd.C_max hr0) (fun j hj => by rw [hcs j hj]; simp)).mono ?_
  rintro e w' ⟨rfl, rfl⟩
  rw [List.take_length]
  exact ⟨rfl, Drawn0.refl _⟩
 ·rw [if_neg c] at h
  cases h
def sortZ (l : List Int) : List Int := l.mergeSort fun x y => decide (x ≤ y)
theorem sortZ_length (l : List Int) : (sortZ l).length = l.length := by simp [sortZ]
set_option maxRecDepth 100000 in
set_option maxHeartbeats 2000000 in
theorem sorted_calls (Bs : Nat) (A : Option Addr) (cap : Nat) (zs : List Int) (hlen : zs.length ≤ maxLen) (hreach : zs.length * 8 ≤ 140737488351232) (w : World) (hBs : Bs < w.heap.size)
  (hc : w.cell? ⟨Bs, 0, none⟩ = some (.slice A zs.length cap)) (hI : 0 < zs.length → ∃ b off, A = some ⟨b, off, none⟩ ∧ b < w.heap.size ∧ ∀ j, j < zs.length → w.cell? ⟨b, off + j, none⟩ = some (.int .i64 (zs[j]?.getD 0))) :
  Calls Tryz.prog 58 #[.func (.func 98) #[] #[.pointer (some ⟨Bs, 0, none⟩)]] w fun e w' => ∃ v, e = .returned v ∧ w'.ownsRow w.heap.size 3 1 v zs.length ((sortZ zs).map (Value.int .i64)) ∧ Below w.heap.size w w' := by
 have hap := callsIn_wide.1 (appendSeq_in Fence.wide 3 trivial trivial rfl (by omega) Bs A cap zs hlen hreach w hBs hc hI)
 have HAP := Lib.hid hap
 clear hap hI hc
 have hcol : Calls Tryz.prog 96 #[.func (.func 98) #[] #[.pointer (some ⟨Bs, 0, none⟩)]] w fun e W' => ∃ v, e = .returned v ∧ W'.ownsRow w.heap.size 3 1 v zs.length (zs.map (Value.int .i64)) ∧ Below w.heap.size w W' := by
  go_enter Tryz.func96, Tryz.ntmps96
  go_wp2_with (go_at_call 118; refine HAP.out.mono ?_; rintro e w' ⟨v, rfl, hrow, hb⟩)
  go_ret
  exact ⟨v, rfl, hrow, hb⟩
 have HCOL := Lib.hid hcol
 clear hcol
 unfold maxLen at hlen
 go_enter Tryz.func58, Tryz.ntmps58
 go_wp2_with (go_at_call 96; refine HCOL.out.mono ?_; rintro e w1 ⟨v, rfl, hrow, hb⟩)
 rcases hrow.2 with ⟨rfl, hz⟩ | ⟨gb, cap', cur, rfl, hbase, hgb, r1, r2, r3, r4⟩
 ·have hss : zs = [] := List.eq_nil_of_length_eq_zero hz
  subst hss
  go_wp2_with (go_at_call 97; refine (Tryz.slices_Sort_int_none none 0 _).mono ?_; rintro e w' ⟨rfl, rfl⟩)
  go_ret
  exact ⟨_, rfl, by simpa [sortZ] using hrow, hb⟩
 ·have hH : Holds (Value.int .i64) w1 gb 0 zs.toArray := holds_of_block_i hgb (by simpa using r4)
  have hgl : gb < w1.heap.size := (Array.getElem?_eq_some_iff.1 hgb).1
  have cS := Tryz.slices_Sort_int gb 0 cap' zs w1 hH hgl (by omega)
  have HS := Lib.hid cS
  have HB := Lib.hid hb
  have HGB := Lib.hid hgb
  have HR3 := Lib.hid r3
  clear cS hb hgb r3 r4 hH hrow
  go_wp2_with (go_at_call 97; refine HS.out.mono ?_; rintro e w' ⟨rfl, nn, os, rfl⟩)
  go_ret
  exact ⟨_, rfl, ownsRow_sorted_i (by simp [sortZ]) hbase HGB.out r1 r2 HR3.out, HB.out.grown (grownBy_sorted_i _) HB.out.size (fun j hj => by cases hj; exact hbase)⟩
def oneUp (l : List Int) : Bool := l == (List.range l.length).map fun i : Nat => (i : Int) + 1
def spec_whole.f (l0 : List Int) : Option (Bool) := if l0.length * 8 ≤ 140737488351232 then some (oneUp (Lib.compact (sortZ l0))) else none
theorem oneUp_true {l : List Int} (h : ∀ j, j < l.length → l[j]?.getD 0 = (j : Int) + 1) : oneUp l = true := by
 unfold oneUp
 rw [beq_iff_eq]
 apply List.ext_getElem
 ·simp
 ·intro i h1 h2
  have := h i h1
  rw [List.getElem?_eq_getElem h1] at this
  simpa using this
theorem oneUp_false {l : List Int} {j : Nat} (hj : j < l.length) (h : l[j]?.getD 0 ≠ (j : Int) + 1) : oneUp l = false := by
 unfold oneUp
 rw [beq_eq_false_iff_ne]
 intro e
 apply h
 have e2 : l[j]?.getD 0 = ((List.range l.length).map fun i : Nat => (i : Int) + 1)[j]?.getD 0 := congrArg (fun z : List Int => z[j]?.getD 0) e
 rw [e2]
 simp [hj]
theorem compact_le (zs : List Int) : (Lib.compact zs).length ≤ zs.length := Lib.compact_length_le zs
theorem heap_putRow {w : World} {g n : Nat} {cur : Array Value} {e : TypeId} {fr : Nat × Nat} (d : Array Int) (hb : w.heap[g]? = some (.cells cur e fr)) :
  (putRow (Value.int .i64) (Sort.ahead w n) g 0 d).heap[g]? = some (.cells (putCells (Value.int .i64) 0 d cur) e fr) := by
 simp [putRow, mapBlock, Sort.ahead, Array.getElem?_modify, hb, onCells]
theorem grownBy_putRow {w : World} {g n : Nat} (d : Array Int) : w.grownBy (putRow (Value.int .i64) (Sort.ahead w n) g 0 d) (some g) := by
 refine ⟨rfl, rfl, rfl, by simp, fun k hk hne => ?_⟩
 have : g ≠ k := fun e => hne (by rw [e])
 simp [putRow, mapBlock, Sort.ahead, Array.getElem?_modify, this]
set_option maxRecDepth 100000 in
set_option maxHeartbeats 4000000 in
theorem spec_whole.calls (A0 : Option Addr) (c0 : Nat) (l0 : List Int) (r : Bool) (w : World) (hr0 : Kd.C (Kd.int .i64) w A0 l0.length l0) (hc0 : l0.length ≤ c0) (h : spec_whole.f l0 = some r) :
  Calls Tryz.prog 33 #[.slice A0 l0.length c0] w fun e w' => e = .returned (.bool r) ∧ Below w.heap.size w w' := by
 unfold spec_whole.f at h
 by_cases c : l0.length * 8 ≤ 140737488351232
 ·rw [if_pos c] at h
  have hr := Option.some.inj h
  clear h
  obtain ⟨cl, hcl⟩ : ∃ cl, Lib.compact (sortZ l0) = cl := ⟨_, rfl⟩
  rw [hcl] at hr
  have hcle : cl.length ≤ l0.length := by
   have := compact_le (sortZ l0)
   rw [hcl, sortZ_length] at this
   exact this
  have HR := Lib.hid hr
  clear hr
  -- the slice value, boxed
  have hB0 : Below w.heap.size w (w.alloc (.cells #[.slice A0 l0.length c0] 62)) := (Below.refl _ w).alloc (Nat.le_refl _) _
  have hval : Calls Tryz.prog 59 #[.slice A0 l0.length c0] w fun e w' => e = .returned (.func (.func 98) #[] #[.pointer (some ⟨w.heap.size, 0, none⟩)]) ∧ w.alloc (.cells #[.slice A0 l0.length c0] 62) = w' :=
   callsIn_wide.1 (values_in Fence.wide 3 trivial rfl A0 l0.length c0 w)
  have hsor := sorted_calls w.heap.size A0 c0 l0 (by unfold maxLen; omega) c (w.alloc (.cells #[.slice A0 l0.length c0] 62)) (by simp) (Boxed.new w 62 (.slice A0 l0.length c0)).cell (fun hl => by
   obtain ⟨b, off, hA, hb, hcs⟩ := ints_at hr0 hl
   exact ⟨b, off, hA, by simp; omega, fun j hj => (hB0.cell (p := ⟨b, off + j, none⟩) hb).trans (hcs j hj)⟩)
  have HV := Lib.hid hval
  have HS := Lib.hid hsor
  clear hval hsor hr0
  go_enter Tryz.func33, Tryz.ntmps33
  go_wp2_with (first
   | (go_at_call 59; refine HV.out.mono ?_; rintro e w1 ⟨rfl, hw1⟩; rw [← hw1]; clear hw1)
   | (go_at_call 58; refine HS.out.mono ?_; rintro e w2 ⟨v, rfl, hrow, hb⟩))
  have hbw : Below w.heap.size w w2 := hB0.trans (hb.mono (by simp))
  rcases hrow.2 with ⟨rfl, hz⟩ | ⟨gb, cap', cur, rfl, hbase, hgb, r1, r2, r3, r4⟩
  ·have hss : l0 = [] := List.eq_nil_of_length_eq_zero hz
   subst hss
   obtain rfl : cl = [] := by rw [← hcl]; simp [sortZ, Lib.compact, Lib.compactUpTo]
   have HBW := Lib.hid hbw
   clear hb hbw hrow hcle
   go_wp2_with (go_at_call 57; refine (Tryz.slices_Compact_int_empty none 0 _).mono ?_; rintro e w' ⟨rfl, hw⟩; rw [hw])
   go_loop [11] (fun i => i = .int .i64 0) (fun _ => 0)
   case atStart => rfl
   case round =>
    subst hrel
    go_wp2
    go_ret
    exact ⟨by rw [← HR.out]; rfl, HBW.out⟩
  ·have hH : Holds (Value.int .i64) w2 gb 0 (sortZ l0).toArray := holds_of_block_i hgb (by rw [sortZ_length]; simpa using r4)
   have cC := Tryz.slices_Compact_int gb 0 cap' (sortZ l0) w2 hH (by rw [sortZ_length]; omega) (by rw [sortZ_length]; exact r1)
   rw [sortZ_length, hcl] at cC
   have hkey : ∀ q, Below w.heap.size w (putRow (Value.int .i64) (Sort.ahead w2 q) gb 0 (cl ++ List.replicate (l0.length - cl.length) 0).toArray) ∧ ∀ j, j < cl.length → (putRow (Value.int .i64) (Sort.ahead w2 q) gb 0 (cl ++ List.replicate (l0.length - cl.length) 0).toArray).cell? ⟨gb, j, none⟩ = some (.int .i64 (cl[j]?.getD 0)) := by
    intro q
    refine ⟨hbw.grown (grownBy_putRow _) hbw.size (fun k hk => by cases hk; simp at hbase; omega), fun j hj => ?_⟩
    have hsz : cl.length ≤ cur.size := by
     have : l0.length ≤ cap' := r1
     omega
    have e := heap_putRow (n := q) (cl ++ List.replicate (l0.length - cl.length) 0).toArray hgb
    unfold World.cell?
    rw [e]
    simp only [Option.isSome_none, Bool.false_eq_true, if_false]
    have hj2 : j < cur.size := by omega
    simp only [putCells, Array.getElem?_mapIdx]
    simp [hj2, hj, List.getElem?_append_left hj]
    omega
   have HC := Lib.hid cC
   have HK := Lib.hid hkey
   clear cC hkey hH hgb r3 r4 hrow hb hbw r2
   go_wp2_with (go_at_call 57; refine HC.out.mono ?_; rintro e w' ⟨rfl, q, hw⟩; obtain ⟨w3, hw3⟩ : ∃ w3, putRow (Value.int .i64) (Sort.ahead w2 q) gb 0 (cl ++ List.replicate (l0.length - cl.length) 0).toArray = w3 := ⟨_, rfl⟩; have hb3 := HK.out q; rw [hw, hw3]; rw [hw3] at hb3; clear hw hw3)
   obtain ⟨hb3, hcs⟩ := hb3
   have HB3 := Lib.hid hb3
   have HCS := Lib.hid hcs
   clear hb3 hcs
   go_loop [11] (fun i => ∃ k : Nat, k ≤ cl.length ∧ i = .int .i64 k ∧ Hid (∀ j, j < k → cl[j]?.getD 0 = (j : Int) + 1)) (fun i => cl.length - (intOf i).toNat)
   case atStart => exact ⟨0, Nat.zero_le _, rfl, Lib.hid (fun j hj => absurd hj (Nat.not_lt_zero j))⟩
   case round =>
    obtain ⟨k, hk, rfl, hup⟩ := hrel
    by_cases hlt : k < cl.length
    ·have hck := HCS.out k hlt
     obtain ⟨x, hx⟩ : ∃ x, cl[k]?.getD 0 = x := ⟨_, rfl⟩
     rw [hx] at hck
     have HX := Lib.hid hx
     clear hx
     by_cases hxk : x = (k : Int) + 1
     ·have hne : (x != (k : Int) + 1) = false := by simp [hxk]
      have HXK := Lib.hid hxk
      clear hxk
      go_wp2
      go_round
      case rel => exact ⟨k + 1, by omega, by go_num, Lib.hid (fun j hj => by
       by_cases e : j = k
       ·subst e; rw [HX.out, HXK.out]
       ·exact hup.out j (by omega))⟩
      case measure => simp [intOf]; omega
     ·have hne : (x != (k : Int) + 1) = true := by simp [hxk]
      go_wp2
      go_ret
      exact ⟨by rw [← HR.out, oneUp_false hlt (by rw [HX.out]; exact hxk)]; rfl, HB3.out⟩
    ·obtain rfl : k = cl.length := by omega
     go_wp2
     go_ret
     exact ⟨by rw [← HR.out, oneUp_true hup.out]; rfl, HB3.out⟩
 ·rw [if_neg c] at h
  cases h
end Go.Proofs.YtnhbgahfmcicnaaGreatDoor.PA
end
