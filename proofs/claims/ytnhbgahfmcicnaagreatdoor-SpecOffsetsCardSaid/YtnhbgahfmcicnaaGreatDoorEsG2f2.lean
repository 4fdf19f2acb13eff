/- A part of the proof of SpecEscapesCardSaid: the law answers true at every text, with no condition. -/
import Derived.Test.YtnhbgahfmcicnaaGreatDoorEsPAx9
import Derived.Test.YtnhbgahfmcicnaaGreatDoorEsG2f1
import Derived.Test.YtnhbgahfmcicnaaGreatDoorEsG1b
import Derived.Test.YtnhbgahfmcicnaaGreatDoorEsG1d
import Derived.Lib.SlBytesConst
import Derived.Shelf.RegionOpen
import Derived.Stop.RegionWithIn
import Derived.Sort.QuietIn
import Derived.Sort.QuietTacIn
import Derived.Outline
section
namespace Go.Proofs.YtnhbgahfmcicnaaGreatDoor.PA
set_option linter.unusedVariables false
set_option linter.unusedSimpArgs false
open Go.RowKit Go.Shelf Go.Proofs.YtnhbgahfmcicnaaGreatDoorW.PrintWords Go.Proofs.YtnhbgahfmcicnaaGreatDoorW.PrintLast Go.Proofs.YtnhbgahfmcicnaaGreatDoorW.PrintMore
attribute [local go_sem] Oper.semAt_some
@[local go_sem] theorem wide_fn (f : FuncId) : Fence.wide.fn f = True := rfl
def flagMk : List UInt8 := [45, 43, 32, 35, 48, 39]
def mkAt (k : Nat) : UInt8 := flagMk.getD k 0
def flagVals : Array Value := #[.int .u8 45, .int .u8 43, .int .u8 32, .int .u8 35, .int .u8 48, .int .u8 39]
theorem flagVals_at (k : Nat) (hk : k < 6) : flagVals[k]? = some (.int .u8 ((mkAt k).toNat : Int)) := by
  rcases (by omega : k = 0 ∨ k = 1 ∨ k = 2 ∨ k = 3 ∨ k = 4 ∨ k = 5) with rfl | rfl | rfl | rfl | rfl | rfl <;> rfl
def markOn (a : Int) (b : UInt8) : Bool := Go.bits .and .i64 a (flagVal (b.toNat : Int)) != 0
def flagMarks (a : Int) : Nat → List UInt8
  | 0 => []
  | k + 1 => if markOn a (mkAt k) then flagMarks a k ++ [mkAt k] else flagMarks a k
theorem flagMarks_length (a : Int) : ∀ k, (flagMarks a k).length ≤ k
  | 0 => Nat.le_refl _
  | k + 1 => by
    have := flagMarks_length a k
    unfold flagMarks
    split
    · rw [List.length_append]
      simp only [List.length_cons, List.length_nil]
      omega
    · omega
def KBox (S : Nat) (W W' : World) : Prop := W.heap.size ≤ W'.heap.size ∧ ∀ k, k ≠ S → ∀ o, W.heap[k]? = some o → o.isCells = true → W'.heap[k]? = some o
theorem KBox.refl (S : Nat) (W : World) : KBox S W W := ⟨Nat.le_refl _, fun _ _ _ h _ => h⟩
theorem KBox.trans {S : Nat} {A B C : World} (h : KBox S A B) (k : KBox S B C) : KBox S A C :=
  ⟨Nat.le_trans h.1 k.1, fun i hi o ho hc => k.2 i hi o (h.2 i hi o ho hc) hc⟩
theorem KBox.put {S : Nat} (W : World) (l : Nat) (o o' : Obj) (h : W.heap[l]? = some o) (hc : o.isCells = false) : KBox S W (W.putObj l o') := by
  have hg := grownBy_putObj' W l o'
  refine ⟨hg.size, fun k hk x hx hxc => ?_⟩
  have hkl : k ≠ l := by
    rintro rfl
    rw [h] at hx
    cases hx
    rw [hc] at hxc
    cases hxc
  rw [hg.block k (Array.getElem?_eq_some_iff.1 hx).1 (fun e => hkl (by cases e; rfl))]
  exact hx
theorem grown_drew' (w : World) (row : Option Nat) : w.grownBy w.drew row := ⟨rfl, rfl, rfl, Nat.le_refl _, fun _ _ _ => rfl⟩
theorem flagsOf_calls (a : Int) (w : World) : Calls Tryz.prog 72 #[.int .i64 a] w fun e w' => e = .returned (.func (.func 109) #[] #[.pointer (some ⟨w.heap.size, 0, none⟩)]) ∧ w.alloc (.cells #[.int .i64 a] 3) = w' := by
  have hmf : ∀ (fn : Fn) (first cap : Array Value) (w : World), (Instr.makeFunc fn first cap).run Tryz.prog w = .ok (.func fn first cap) w := fun _ _ _ _ => rfl
  go_enter Tryz.func72, Tryz.ntmps72
  go_wp2
  go_ret
  exact ⟨rfl, rfl⟩
set_option maxRecDepth 100000 in
set_option maxHeartbeats 4000000 in
theorem marks1_in (n : Nat) (hn : 1 ≤ n) (l Bs S : Nat) (a : Int) (hS : S ≠ Bs) (J Jx : List UInt8 → World → Prop) (W : World) (hSlt : S < W.heap.size) (hJ : AbidesFrom W.heap.size J) (hJx : AbidesFrom W.heap.size Jx)
    (hY : ∀ pre x W1, J pre W1 → pre.length < 6 → YieldAt Fence.wide (n - 1) Tryz.prog l #[.int .u8 (x.toNat : Int)] W1 fun e W' =>
      (e = .returned (.bool true) ∧ J (pre ++ [x]) W' ∧ KBox S W1 W') ∨ (e = .returned (.bool false) ∧ Jx (pre ++ [x]) W'))
    (hBs : W.heap[Bs]? = some (.cells #[.int .i64 a] 3 (0, 0))) (h0 : J [] W) :
    CallsIn Fence.wide n Tryz.prog 109 #[.func (.yield l) #[] #[], .pointer (some ⟨Bs, 0, none⟩)] W fun e W' => (∃ v, e = .returned v) ∧
      ((∃ ys, ys = flagMarks a 6 ∧ J ys W') ∨ (∃ pre, (∃ k, k ≤ 6 ∧ pre = flagMarks a k) ∧ Jx pre W')) := by
  have hro : Fence.wide.round = none := rfl
  have HY := Lib.hid hY
  have HJ := Lib.hid hJ
  have HJx := Lib.hid hJx
  have hBlt : Bs < W.heap.size := (Array.getElem?_eq_some_iff.1 hBs).1
  obtain ⟨M, hM⟩ : ∃ M, W.heap.size = M := ⟨_, rfl⟩
  obtain ⟨W0, hW0⟩ : ∃ W0, W.alloc (.cells #[.int .u8 45, .int .u8 43, .int .u8 32, .int .u8 35, .int .u8 48, .int .u8 39] 5 (6, 7)) = W0 := ⟨_, rfl⟩
  have hJ0 : J [] W0 := by rw [← hW0]; exact hJ [] W _ none h0 (World.grownBy_alloc W _ none) (by simp)
  have hM0 : W0.heap[M]? = some (.cells flagVals 5 (6, 7)) := by rw [← hW0, ← hM]; exact World.alloc_heap_new W _
  have hB0 : W0.heap[Bs]? = some (.cells #[.int .i64 a] 3 (0, 0)) := by rw [← hW0, (World.grownBy_alloc W _ none).block Bs hBlt (by simp)]; exact hBs
  have HJ0 := Lib.hid hJ0
  have HM0 := Lib.hid hM0
  have HB0 := Lib.hid hB0
  clear hY hJ hJx hJ0 hM0 hB0 hBs
  refine callsIn_of_wp Tryz.func109 rfl trivial ?_ hro
  simp only [Tryz.ntmps109, List.size_toArray, List.length_cons, List.length_nil, Nat.reduceAdd, Nat.reduceSub, Array.replicate_succ, Array.replicate_zero, List.push_toArray, List.append_toArray, List.nil_append, List.cons_append]
  have kc : (convert 71 71 (.slice (some ⟨M, 0, none⟩) 6 6)).run Tryz.prog (W.alloc (.cells #[.int .u8 45, .int .u8 43, .int .u8 32, .int .u8 35, .int .u8 48, .int .u8 39] 5)) = .ok (.slice (some ⟨M, 0, none⟩) 6 6) W0 := by
    rw [← hM, ← hW0]
    exact Lib.run_convert_bytes_const (P := Tryz.prog) W 71 5 _ 6 6 Tryz.underlying71 Tryz.underlying5
  gi_wp2
  clear kc
  gi_loopw [8] (fun i wr => ∃ k : Nat, k ≤ 6 ∧ i = .int .i64 k ∧ Hid (J (flagMarks a k) wr) ∧ Hid (wr.heap[M]? = some (.cells flagVals 5 (6, 7))) ∧ Hid (wr.heap[Bs]? = some (.cells #[.int .i64 a] 3 (0, 0))))
    (fun i _ => 6 - (intOf i).toNat)
  case atStart => exact ⟨0, Nat.zero_le _, rfl, HJ0, HM0, HB0⟩
  case round =>
    obtain ⟨k, hk, rfl, HJs, HMr, HBr⟩ := hrel
    by_cases hlt : k < 6
    · have hcM : wr.cell? ⟨M, k, none⟩ = some (.int .u8 ((mkAt k).toNat : Int)) := by
        unfold World.cell?
        rw [HMr.out]
        exact flagVals_at k hlt
      have hcB : wr.cell? ⟨Bs, 0, none⟩ = some (.int .i64 a) := by
        unfold World.cell?
        rw [HBr.out]
        rfl
      obtain ⟨b, hb⟩ : ∃ b, mkAt k = b := ⟨_, rfl⟩
      have hbok : (0 : Int) ≤ (b.toNat : Int) ∧ (b.toNat : Int) < 256 := ⟨by omega, by have := b.toNat_lt; omega⟩
      have hlen := flagMarks_length a k
      have hmk : flagMarks a (k + 1) = if markOn a b then flagMarks a k ++ [b] else flagMarks a k := by rw [← hb]; rfl
      rw [hb] at hcM
      have HF := Lib.hid (fun W => callsIn_wide (n := n - 1).2 (flagOf_same (b.toNat : Int) (flagVal (b.toNat : Int)) W (by unfold spec_flagOf.f; rw [if_pos hbok])))
      have HMK := Lib.hid hmk
      clear hmk
      obtain ⟨on, hon⟩ : ∃ on, (Go.bits .and .i64 a (flagVal (b.toNat : Int)) != 0) = on := ⟨_, rfl⟩
      have HON := Lib.hid (show markOn a b = on from hon)
      have HJd := Lib.hid (HJ.out _ wr _ none HJs.out (grown_drew' wr none) (by simp))
      cases on
      · gi_wp2
        gi_quiet (((first | gi_at_call 110 | skip); exact CallsIn.quiet_of_same ((HF.out _).mono (fun e w' h => And.intro h.1 h.2.symm))))
        all_goals
          gi_wp2
          go_roundw
          case rel => exact ⟨k + 1, by omega, by simp, by rw [HMK.out, HON.out]; exact Lib.hid (HJ.out _ wr _ none HJs.out ⟨rfl, rfl, rfl, Nat.le_refl _, fun _ _ _ => rfl⟩ (by simp)), HMr, HBr⟩
          case measure => simp [intOf]; omega
      · obtain ⟨fn, tmps, assign, body, hy, hR⟩ := HY.out _ b wr.drew HJd.out (by omega)
        have hR2 := hR.mono (R' := fun e W' => ∃ t : Bool, e = .returned (.bool t) ∧ ((t = true ∧ J (flagMarks a k ++ [b]) W' ∧ KBox S wr.drew W') ∨ (t = false ∧ Jx (flagMarks a k ++ [b]) W'))) (by
          rintro e W' (⟨rfl, h1, h2⟩ | ⟨rfl, h1⟩)
          · exact ⟨true, rfl, .inl ⟨rfl, h1, h2⟩⟩
          · exact ⟨false, rfl, .inr ⟨rfl, h1⟩⟩)
        gi_wp2
        gi_region_with (first | (refine (HF.out _).mono ?_; rintro e w' ⟨rfl, rfl⟩) | (refine hR2.mono ?_; rintro e w1 ⟨t, rfl, ht⟩))
        all_goals
          rcases ht with ⟨rfl, h1, h2⟩ | ⟨rfl, h1⟩
          · have H1 := Lib.hid h1
            have H2 := Lib.hid h2
            clear h1 h2 hR2 hR hy
            gi_wp2
            go_roundw
            case rel => exact ⟨k + 1, by omega, by simp, by rw [HMK.out, HON.out]; exact H1, Lib.hid (H2.out.2 M (by omega) _ HMr.out rfl), Lib.hid (H2.out.2 Bs (fun e => hS e.symm) _ HBr.out rfl)⟩
            case measure => simp [intOf]; omega
          · gi_wp2
            refine bodyPost_ret (results_none rfl _ _ _) rfl ?_
            exact ⟨⟨_, rfl⟩, .inr ⟨_, ⟨k + 1, by omega, by rw [HMK.out, HON.out]; rfl⟩, h1⟩⟩
    · obtain rfl : k = 6 := by omega
      gi_wp2
      go_end0
      exact ⟨⟨_, rfl⟩, .inl ⟨_, rfl, HJs.out⟩⟩
theorem flags_stops (n : Nat) (hn : 1 ≤ n) (Bs S : Nat) (a : Int) (hS : S ≠ Bs) (w : World) (hSlt : S < w.heap.size) (hBs : w.heap[Bs]? = some (.cells #[.int .i64 a] 3 (0, 0))) :
    SeqStopsK Fence.wide n Tryz.prog 109 #[.pointer (some ⟨Bs, 0, none⟩)] (fun x : UInt8 => #[Value.int .u8 (x.toNat : Int)]) (KBox S) (fun ys => ys = flagMarks a 6) (fun pre => ∃ k, k ≤ 6 ∧ pre = flagMarks a k) 6 w := fun l J Jx W hW hJ hJx hY h0 => by
  have hBlt : Bs < w.heap.size := (Array.getElem?_eq_some_iff.1 hBs).1
  exact marks1_in n hn l Bs S a hS J Jx W (Nat.lt_of_lt_of_le hSlt hW.size) hJ hJx hY ((hW.block Bs hBlt).trans hBs) h0
end Go.Proofs.YtnhbgahfmcicnaaGreatDoor.PA
end
