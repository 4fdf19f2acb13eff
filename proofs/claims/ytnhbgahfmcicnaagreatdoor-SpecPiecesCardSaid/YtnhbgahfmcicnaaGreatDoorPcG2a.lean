/- A part of the proof of the claim's statement. -/
import Derived.Test.YtnhbgahfmcicnaaGreatDoorPcShelf
import Derived.Test.YtnhbgahfmcicnaaGreatDoorPcG1c
section
namespace Go.Proofs.YtnhbgahfmcicnaaGreatDoor.PA
set_option linter.unusedVariables false
set_option linter.unusedSimpArgs false
open Go.RowKit Go.Shelf Go.Sort Go.Proofs.YtnhbgahfmcicnaaGreatDoorW.PrintWords Go.Proofs.YtnhbgahfmcicnaaGreatDoorW.PrintLast Go.Proofs.YtnhbgahfmcicnaaGreatDoorW.PrintMore
theorem gives100 (x : Int) (W : World) : FnGives Tryz.prog 100 #[] #[.int .i64 x] (.bool (x == 0)) W := by
  show Calls Tryz.prog 100 #[.int .i64 x] W _
  go_enter Tryz.func100, Tryz.ntmps100
  go_wp2
  all_goals (go_ret; exact ⟨by simp_all, 0, rfl⟩)
theorem own_put {w : World} {g n base : Nat} {cur : Array Value} {ts : List Int} {m : Nat} (hb : w.heap[g]? = some (.cells cur 3 (0, 0))) (hbase : base ≤ g) (hsz : cur.size = ts.length) (hm : m ≤ ts.length) (hmax : ts.length ≤ maxLen) :
    (putRow (Value.int .i64) (Sort.ahead w n) g 0 ts.toArray).ownsRow base 3 1 (.slice (some ⟨g, 0, none⟩) m ts.length) m ((ts.take m).map (Value.int .i64)) := by
  refine ⟨by simp; omega, .inr ⟨g, ts.length, _, rfl, hbase, heap_putRow _ hb, hm, hmax, by simp [putCells, hsz], ?_⟩⟩
  rw [Nat.mul_one]
  have := take_putCells_i cur ts (by omega)
  apply List.ext_getElem?
  intro j
  by_cases hj : j < m
  · have e := congrArg (fun l : List Value => l[j]?) this
    rw [List.getElem?_take_of_lt (by omega)] at e
    rw [List.getElem?_take_of_lt hj]
    have e2 : (putCells (Value.int .i64) 0 ts.toArray cur).toList[j]? = (ts.map (Value.int .i64))[j]? := e
    rw [e2]
    simp [hj]
  · rw [List.getElem?_take_eq_none (by omega), List.getElem?_eq_none (by simp; omega)]
def nonzero (l : List Int) : List Int := l.filter fun x => !(x == 0)
def spec_numbers.f (a0_0 : ByteArray) (a0_1 : Int) (a0_2 : Int) (a0_3 : Int) (a0_4 : Int) (a0_5 : Int) (a0_6 : Int) (a0_7 : Int) (a0_8 : Int) : Option (List Int) := some (nonzero [a0_4, a0_6, a0_1])
set_option maxRecDepth 100000 in
set_option maxHeartbeats 4000000 in
theorem spec_numbers.calls (a0_0 : ByteArray) (a0_1 : Int) (a0_2 : Int) (a0_3 : Int) (a0_4 : Int) (a0_5 : Int) (a0_6 : Int) (a0_7 : Int) (a0_8 : Int) (r : List Int) (w : World) (h : spec_numbers.f a0_0 a0_1 a0_2 a0_3 a0_4 a0_5 a0_6 a0_7 a0_8 = some r) :
    Calls Tryz.prog 60 #[.agg #[.string a0_0, .int .i64 a0_1, .int .i64 a0_2, .int .i64 a0_3, .int .i64 a0_4, .int .i64 a0_5, .int .i64 a0_6, .int .i64 a0_7, .int .u8 a0_8]] w fun e w' => ∃ v0_ : Value, e = .returned (v0_) ∧ Kd.R (Kd.int .i64) 3 w' w.heap.size (fun _ => True) v0_ r ∧ Below w.heap.size w w' := by
  unfold spec_numbers.f at h
  obtain rfl := Option.some.inj h
  clear h
  have eg : ∀ args w, (callFunc 100 args).run Tryz.prog w = .ok (.enter 100 args) w := enters_of Tryz.func100 (by kernel_rfl) rfl
  obtain ⟨W, hW⟩ : ∃ W : World, (w.alloc (.cells #[.string a0_0, .int .i64 a0_1, .int .i64 a0_2, .int .i64 a0_3, .int .i64 a0_4, .int .i64 a0_5, .int .i64 a0_6, .int .i64 a0_7, .int .u8 a0_8] 35)).alloc (.cells #[.int .i64 a0_4, .int .i64 a0_6, .int .i64 a0_1] 3) = W := ⟨_, rfl⟩
  have hg : W.heap[w.heap.size + 1]? = some (.cells #[.int .i64 a0_4, .int .i64 a0_6, .int .i64 a0_1] 3 (0, 0)) := by
    rw [← hW]
    have := World.alloc_heap_new (w.alloc (.cells #[.string a0_0, .int .i64 a0_1, .int .i64 a0_2, .int .i64 a0_3, .int .i64 a0_4, .int .i64 a0_5, .int .i64 a0_6, .int .i64 a0_7, .int .u8 a0_8] 35)) (.cells #[.int .i64 a0_4, .int .i64 a0_6, .int .i64 a0_1] 3)
    rwa [World.size_alloc] at this
  have hB : Below w.heap.size w W := by
    rw [← hW]
    exact ((Below.refl _ _).alloc (Nat.le_refl _) _).alloc (by simp) _
  have hH : Holds (Value.int .i64) W (w.heap.size + 1) 0 [a0_4, a0_6, a0_1].toArray := holds_of_block_i hg (by simp)
  have hcon := AnyE.slices_DeleteFunc Tryz.l10 (Value.int .i64) (fun _ => rfl) (fun x => x == 0) 100 #[] eg 0 Tryz.zeroValue3 (w.heap.size + 1) 0 3 [a0_4, a0_6, a0_1].toArray W
    (fun W1 x _ => gives100 x W1) (fun n os dk x _ => gives100 x _) hH (by simp) (by simp)
  change Calls Tryz.prog 99 _ _ _ at hcon
  have hout : ∀ q, Kd.R (Kd.int .i64) 3 (putRow (Value.int .i64) (Sort.ahead W q) (w.heap.size + 1) 0 (nonzero [a0_4, a0_6, a0_1] ++ List.replicate (3 - (nonzero [a0_4, a0_6, a0_1]).length) 0).toArray) w.heap.size (fun _ => True) (.slice (some ⟨w.heap.size + 1, 0, none⟩) (nonzero [a0_4, a0_6, a0_1]).length 3) (nonzero [a0_4, a0_6, a0_1]) ∧ Below w.heap.size w (putRow (Value.int .i64) (Sort.ahead W q) (w.heap.size + 1) 0 (nonzero [a0_4, a0_6, a0_1] ++ List.replicate (3 - (nonzero [a0_4, a0_6, a0_1]).length) 0).toArray) := by
    intro q
    have hl : (nonzero [a0_4, a0_6, a0_1]).length ≤ 3 := List.length_filter_le _ _
    generalize nonzero [a0_4, a0_6, a0_1] = nz at hl ⊢
    have hlen : (nz ++ List.replicate (3 - nz.length) (0 : Int)).length = 3 := by simp; omega
    have h1 := own_put (n := q) (base := w.heap.size) (m := nz.length) (ts := nz ++ List.replicate (3 - nz.length) (0 : Int)) hg (by omega) (by rw [hlen]; rfl) (by omega) (by rw [hlen]; unfold maxLen; omega)
    rw [hlen, List.take_left] at h1
    exact ⟨Kd.R_of_own h1 (fun _ _ => trivial), hB.grown (grownBy_putRow _) hB.size (fun k hk => by cases hk; omega)⟩
  have HC := Lib.hid hcon
  have HO := Lib.hid hout
  clear hcon hout hH hB hg eg
  go_enter Tryz.func60, Tryz.ntmps60
  go_wp2_with (go_at_call 99; refine HC.out.mono ?_; rintro e w' ⟨rfl, q, rfl⟩)
  go_ret
  exact ⟨_, rfl, HO.out q⟩
end Go.Proofs.YtnhbgahfmcicnaaGreatDoor.PA
end
