/- A part of the proof of the claim's statement. -/
import Derived.Test.YtnhbgahfmcicnaaGreatDoorPtG1a
import Derived.RangeFuncRecord
section
namespace Go.Proofs.YtnhbgahfmcicnaaGreatDoor.PA
set_option linter.unusedVariables false
set_option linter.unusedSimpArgs false
open Go.RowKit Go.Shelf Go.Proofs.YtnhbgahfmcicnaaGreatDoorW.PrintWords Go.Proofs.YtnhbgahfmcicnaaGreatDoorW.PrintLast Go.Proofs.YtnhbgahfmcicnaaGreatDoorW.PrintMore
def ofWhole : List Int := [0, 1, 2, 3, 4, 5, 6, 7]
def ofReal : List Int := [0, 3, 8, 9, 10, 11]
def ofText : List Int := [0, 3]
def ofVal (b : Int) : ByteArray × List Int × Bool × Bool × Bool :=
  if b = 100 ∨ b = 105 then (⟨#[45, 43, 32, 48, 39]⟩, ofWhole, true, true, true)
  else if b = 117 then (⟨#[45, 48, 39]⟩, ofWhole, true, true, true)
  else if b = 111 ∨ b = 120 ∨ b = 88 ∨ b = 98 ∨ b = 66 then (⟨#[45, 35, 48]⟩, ofWhole, true, true, true)
  else if b = 101 ∨ b = 69 ∨ b = 97 ∨ b = 65 then (⟨#[45, 43, 32, 35, 48]⟩, ofReal, true, true, true)
  else if b = 102 ∨ b = 70 ∨ b = 103 ∨ b = 71 then (⟨#[45, 43, 32, 35, 48, 39]⟩, ofReal, true, true, true)
  else if b = 99 then (⟨#[45]⟩, ofText, true, false, true)
  else if b = 115 then (⟨#[45]⟩, ofText, true, true, true)
  else if b = 112 then (⟨#[45]⟩, [0], true, false, true)
  else if b = 110 then (⟨#[]⟩, ofWhole, false, false, true)
  else (⟨#[]⟩, [], false, false, false)
def sorobanref21_Of.f (a0 : Int) : Option (ByteArray × List Int × Bool × Bool × Bool) := some (ofVal a0)
def OfPost (w : World) (v : ByteArray × List Int × Bool × Bool × Bool) (e : Ending) (w' : World) : Prop :=
  ∃ v1_ : Value, e = .returned (.agg #[.string v.1, v1_, .bool v.2.2.1, .bool v.2.2.2.1, .bool v.2.2.2.2]) ∧ Kd.R (Kd.int .i64) 3 w' w.heap.size (fun _ => True) v1_ v.2.1 ∧ Below w.heap.size w w'
theorem of_row {w w' : World} {g n c : Nat} {cur : Array Value} {xs : List Int} (hb : w'.heap[g]? = some (.cells cur 3 (0, 0))) (hg : w.heap.size ≤ g) (hn : xs.length = n) (hc : n ≤ c) (hm : c ≤ maxLen) (hsz : cur.size = c) (ht : cur.toList.take n = xs.map (Value.int .i64)) :
    Kd.R (Kd.int .i64) 3 w' w.heap.size (fun _ => True) (.slice (some ⟨g, 0, none⟩) n c) xs := by
  subst hn
  exact Kd.R_of_own ⟨by simp [encs], .inr ⟨g, c, cur, rfl, hg, hb, hc, hm, by simp [hsz], by rw [Nat.mul_one]; exact ht⟩⟩ (fun _ _ => trivial)
theorem ofBlocks (w : World) (R A B C : Obj) :
    ((((w.alloc R).alloc A).alloc B).alloc C).heap[w.heap.size + 1]? = some A ∧ ((((w.alloc R).alloc A).alloc B).alloc C).heap[w.heap.size + 1 + 1]? = some B ∧ ((((w.alloc R).alloc A).alloc B).alloc C).heap[w.heap.size + 1 + 1 + 1]? = some C ∧ Below w.heap.size w ((((w.alloc R).alloc A).alloc B).alloc C) := by
  have e1 : (w.alloc R).heap.size = w.heap.size + 1 := World.size_alloc _ _
  have e2 : ((w.alloc R).alloc A).heap.size = w.heap.size + 1 + 1 := by rw [World.size_alloc, e1]
  have e3 : (((w.alloc R).alloc A).alloc B).heap.size = w.heap.size + 1 + 1 + 1 := by rw [World.size_alloc, e2]
  refine ⟨?_, ?_, ?_, below_alloc (below_alloc (below_alloc (below_alloc (Below.refl _ _) _) _) _) _⟩
  · rw [Below.heap_alloc _ _ _ (by rw [e3]; omega), Below.heap_alloc _ _ _ (by rw [e2]; omega), ← e1]
    exact World.alloc_heap_new _ _
  · rw [Below.heap_alloc _ _ _ (by rw [e3]; omega), ← e2]
    exact World.alloc_heap_new _ _
  · rw [← e3]
    exact World.alloc_heap_new _ _
set_option maxRecDepth 100000 in
set_option maxHeartbeats 4000000 in
theorem of_100 (w : World) : Calls Tryz.prog 101 #[.int .u8 100] w (OfPost w (ofVal 100)) := by
  go_enter Tryz.func101, Tryz.ntmps101
  go_wp2
  refine bodyPost_ret (v := .agg #[.string ⟨#[45, 43, 32, 48, 39]⟩, .slice (some ⟨w.heap.size + 1, 0, none⟩) 8 8, .bool true, .bool true, .bool true]) (by simp [results, Tryz.results101, go_sem]) rfl ⟨_, rfl, of_row (ofBlocks w _ _ _ _).1 (by omega) rfl (by decide) (by decide) rfl rfl, (ofBlocks w _ _ _ _).2.2.2⟩
set_option maxRecDepth 100000 in
set_option maxHeartbeats 4000000 in
theorem of_105 (w : World) : Calls Tryz.prog 101 #[.int .u8 105] w (OfPost w (ofVal 105)) := by
  go_enter Tryz.func101, Tryz.ntmps101
  go_wp2
  refine bodyPost_ret (v := .agg #[.string ⟨#[45, 43, 32, 48, 39]⟩, .slice (some ⟨w.heap.size + 1, 0, none⟩) 8 8, .bool true, .bool true, .bool true]) (by simp [results, Tryz.results101, go_sem]) rfl ⟨_, rfl, of_row (ofBlocks w _ _ _ _).1 (by omega) rfl (by decide) (by decide) rfl rfl, (ofBlocks w _ _ _ _).2.2.2⟩
set_option maxRecDepth 100000 in
set_option maxHeartbeats 4000000 in
theorem of_117 (w : World) : Calls Tryz.prog 101 #[.int .u8 117] w (OfPost w (ofVal 117)) := by
  go_enter Tryz.func101, Tryz.ntmps101
  go_wp2
  refine bodyPost_ret (v := .agg #[.string ⟨#[45, 48, 39]⟩, .slice (some ⟨w.heap.size + 1, 0, none⟩) 8 8, .bool true, .bool true, .bool true]) (by simp [results, Tryz.results101, go_sem]) rfl ⟨_, rfl, of_row (ofBlocks w _ _ _ _).1 (by omega) rfl (by decide) (by decide) rfl rfl, (ofBlocks w _ _ _ _).2.2.2⟩
set_option maxRecDepth 100000 in
set_option maxHeartbeats 4000000 in
theorem of_111 (w : World) : Calls Tryz.prog 101 #[.int .u8 111] w (OfPost w (ofVal 111)) := by
  go_enter Tryz.func101, Tryz.ntmps101
  go_wp2
  refine bodyPost_ret (v := .agg #[.string ⟨#[45, 35, 48]⟩, .slice (some ⟨w.heap.size + 1, 0, none⟩) 8 8, .bool true, .bool true, .bool true]) (by simp [results, Tryz.results101, go_sem]) rfl ⟨_, rfl, of_row (ofBlocks w _ _ _ _).1 (by omega) rfl (by decide) (by decide) rfl rfl, (ofBlocks w _ _ _ _).2.2.2⟩
set_option maxRecDepth 100000 in
set_option maxHeartbeats 4000000 in
theorem of_120 (w : World) : Calls Tryz.prog 101 #[.int .u8 120] w (OfPost w (ofVal 120)) := by
  go_enter Tryz.func101, Tryz.ntmps101
  go_wp2
  refine bodyPost_ret (v := .agg #[.string ⟨#[45, 35, 48]⟩, .slice (some ⟨w.heap.size + 1, 0, none⟩) 8 8, .bool true, .bool true, .bool true]) (by simp [results, Tryz.results101, go_sem]) rfl ⟨_, rfl, of_row (ofBlocks w _ _ _ _).1 (by omega) rfl (by decide) (by decide) rfl rfl, (ofBlocks w _ _ _ _).2.2.2⟩
set_option maxRecDepth 100000 in
set_option maxHeartbeats 4000000 in
theorem of_88 (w : World) : Calls Tryz.prog 101 #[.int .u8 88] w (OfPost w (ofVal 88)) := by
  go_enter Tryz.func101, Tryz.ntmps101
  go_wp2
  refine bodyPost_ret (v := .agg #[.string ⟨#[45, 35, 48]⟩, .slice (some ⟨w.heap.size + 1, 0, none⟩) 8 8, .bool true, .bool true, .bool true]) (by simp [results, Tryz.results101, go_sem]) rfl ⟨_, rfl, of_row (ofBlocks w _ _ _ _).1 (by omega) rfl (by decide) (by decide) rfl rfl, (ofBlocks w _ _ _ _).2.2.2⟩
set_option maxRecDepth 100000 in
set_option maxHeartbeats 4000000 in
theorem of_98 (w : World) : Calls Tryz.prog 101 #[.int .u8 98] w (OfPost w (ofVal 98)) := by
  go_enter Tryz.func101, Tryz.ntmps101
  go_wp2
  refine bodyPost_ret (v := .agg #[.string ⟨#[45, 35, 48]⟩, .slice (some ⟨w.heap.size + 1, 0, none⟩) 8 8, .bool true, .bool true, .bool true]) (by simp [results, Tryz.results101, go_sem]) rfl ⟨_, rfl, of_row (ofBlocks w _ _ _ _).1 (by omega) rfl (by decide) (by decide) rfl rfl, (ofBlocks w _ _ _ _).2.2.2⟩
set_option maxRecDepth 100000 in
set_option maxHeartbeats 4000000 in
theorem of_66 (w : World) : Calls Tryz.prog 101 #[.int .u8 66] w (OfPost w (ofVal 66)) := by
  go_enter Tryz.func101, Tryz.ntmps101
  go_wp2
  refine bodyPost_ret (v := .agg #[.string ⟨#[45, 35, 48]⟩, .slice (some ⟨w.heap.size + 1, 0, none⟩) 8 8, .bool true, .bool true, .bool true]) (by simp [results, Tryz.results101, go_sem]) rfl ⟨_, rfl, of_row (ofBlocks w _ _ _ _).1 (by omega) rfl (by decide) (by decide) rfl rfl, (ofBlocks w _ _ _ _).2.2.2⟩
set_option maxRecDepth 100000 in
set_option maxHeartbeats 4000000 in
theorem of_101 (w : World) : Calls Tryz.prog 101 #[.int .u8 101] w (OfPost w (ofVal 101)) := by
  go_enter Tryz.func101, Tryz.ntmps101
  go_wp2
  refine bodyPost_ret (v := .agg #[.string ⟨#[45, 43, 32, 35, 48]⟩, .slice (some ⟨w.heap.size + 1 + 1, 0, none⟩) 6 6, .bool true, .bool true, .bool true]) (by simp [results, Tryz.results101, go_sem]) rfl ⟨_, rfl, of_row (ofBlocks w _ _ _ _).2.1 (by omega) rfl (by decide) (by decide) rfl rfl, (ofBlocks w _ _ _ _).2.2.2⟩
set_option maxRecDepth 100000 in
set_option maxHeartbeats 4000000 in
theorem of_69 (w : World) : Calls Tryz.prog 101 #[.int .u8 69] w (OfPost w (ofVal 69)) := by
  go_enter Tryz.func101, Tryz.ntmps101
  go_wp2
  refine bodyPost_ret (v := .agg #[.string ⟨#[45, 43, 32, 35, 48]⟩, .slice (some ⟨w.heap.size + 1 + 1, 0, none⟩) 6 6, .bool true, .bool true, .bool true]) (by simp [results, Tryz.results101, go_sem]) rfl ⟨_, rfl, of_row (ofBlocks w _ _ _ _).2.1 (by omega) rfl (by decide) (by decide) rfl rfl, (ofBlocks w _ _ _ _).2.2.2⟩
set_option maxRecDepth 100000 in
set_option maxHeartbeats 4000000 in
theorem of_97 (w : World) : Calls Tryz.prog 101 #[.int .u8 97] w (OfPost w (ofVal 97)) := by
  go_enter Tryz.func101, Tryz.ntmps101
  go_wp2
  refine bodyPost_ret (v := .agg #[.string ⟨#[45, 43, 32, 35, 48]⟩, .slice (some ⟨w.heap.size + 1 + 1, 0, none⟩) 6 6, .bool true, .bool true, .bool true]) (by simp [results, Tryz.results101, go_sem]) rfl ⟨_, rfl, of_row (ofBlocks w _ _ _ _).2.1 (by omega) rfl (by decide) (by decide) rfl rfl, (ofBlocks w _ _ _ _).2.2.2⟩
set_option maxRecDepth 100000 in
set_option maxHeartbeats 4000000 in
theorem of_65 (w : World) : Calls Tryz.prog 101 #[.int .u8 65] w (OfPost w (ofVal 65)) := by
  go_enter Tryz.func101, Tryz.ntmps101
  go_wp2
  refine bodyPost_ret (v := .agg #[.string ⟨#[45, 43, 32, 35, 48]⟩, .slice (some ⟨w.heap.size + 1 + 1, 0, none⟩) 6 6, .bool true, .bool true, .bool true]) (by simp [results, Tryz.results101, go_sem]) rfl ⟨_, rfl, of_row (ofBlocks w _ _ _ _).2.1 (by omega) rfl (by decide) (by decide) rfl rfl, (ofBlocks w _ _ _ _).2.2.2⟩
set_option maxRecDepth 100000 in
set_option maxHeartbeats 4000000 in
theorem of_102 (w : World) : Calls Tryz.prog 101 #[.int .u8 102] w (OfPost w (ofVal 102)) := by
  go_enter Tryz.func101, Tryz.ntmps101
  go_wp2
  refine bodyPost_ret (v := .agg #[.string ⟨#[45, 43, 32, 35, 48, 39]⟩, .slice (some ⟨w.heap.size + 1 + 1, 0, none⟩) 6 6, .bool true, .bool true, .bool true]) (by simp [results, Tryz.results101, go_sem]) rfl ⟨_, rfl, of_row (ofBlocks w _ _ _ _).2.1 (by omega) rfl (by decide) (by decide) rfl rfl, (ofBlocks w _ _ _ _).2.2.2⟩
set_option maxRecDepth 100000 in
set_option maxHeartbeats 4000000 in
theorem of_70 (w : World) : Calls Tryz.prog 101 #[.int .u8 70] w (OfPost w (ofVal 70)) := by
  go_enter Tryz.func101, Tryz.ntmps101
  go_wp2
  refine bodyPost_ret (v := .agg #[.string ⟨#[45, 43, 32, 35, 48, 39]⟩, .slice (some ⟨w.heap.size + 1 + 1, 0, none⟩) 6 6, .bool true, .bool true, .bool true]) (by simp [results, Tryz.results101, go_sem]) rfl ⟨_, rfl, of_row (ofBlocks w _ _ _ _).2.1 (by omega) rfl (by decide) (by decide) rfl rfl, (ofBlocks w _ _ _ _).2.2.2⟩
set_option maxRecDepth 100000 in
set_option maxHeartbeats 4000000 in
theorem of_103 (w : World) : Calls Tryz.prog 101 #[.int .u8 103] w (OfPost w (ofVal 103)) := by
  go_enter Tryz.func101, Tryz.ntmps101
  go_wp2
  refine bodyPost_ret (v := .agg #[.string ⟨#[45, 43, 32, 35, 48, 39]⟩, .slice (some ⟨w.heap.size + 1 + 1, 0, none⟩) 6 6, .bool true, .bool true, .bool true]) (by simp [results, Tryz.results101, go_sem]) rfl ⟨_, rfl, of_row (ofBlocks w _ _ _ _).2.1 (by omega) rfl (by decide) (by decide) rfl rfl, (ofBlocks w _ _ _ _).2.2.2⟩
set_option maxRecDepth 100000 in
set_option maxHeartbeats 4000000 in
theorem of_71 (w : World) : Calls Tryz.prog 101 #[.int .u8 71] w (OfPost w (ofVal 71)) := by
  go_enter Tryz.func101, Tryz.ntmps101
  go_wp2
  refine bodyPost_ret (v := .agg #[.string ⟨#[45, 43, 32, 35, 48, 39]⟩, .slice (some ⟨w.heap.size + 1 + 1, 0, none⟩) 6 6, .bool true, .bool true, .bool true]) (by simp [results, Tryz.results101, go_sem]) rfl ⟨_, rfl, of_row (ofBlocks w _ _ _ _).2.1 (by omega) rfl (by decide) (by decide) rfl rfl, (ofBlocks w _ _ _ _).2.2.2⟩
set_option maxRecDepth 100000 in
set_option maxHeartbeats 4000000 in
theorem of_99 (w : World) : Calls Tryz.prog 101 #[.int .u8 99] w (OfPost w (ofVal 99)) := by
  go_enter Tryz.func101, Tryz.ntmps101
  go_wp2
  refine bodyPost_ret (v := .agg #[.string ⟨#[45]⟩, .slice (some ⟨w.heap.size + 1 + 1 + 1, 0, none⟩) 2 2, .bool true, .bool false, .bool true]) (by simp [results, Tryz.results101, go_sem]) rfl ⟨_, rfl, of_row (ofBlocks w _ _ _ _).2.2.1 (by omega) rfl (by decide) (by decide) rfl rfl, (ofBlocks w _ _ _ _).2.2.2⟩
set_option maxRecDepth 100000 in
set_option maxHeartbeats 4000000 in
theorem of_115 (w : World) : Calls Tryz.prog 101 #[.int .u8 115] w (OfPost w (ofVal 115)) := by
  go_enter Tryz.func101, Tryz.ntmps101
  go_wp2
  refine bodyPost_ret (v := .agg #[.string ⟨#[45]⟩, .slice (some ⟨w.heap.size + 1 + 1 + 1, 0, none⟩) 2 2, .bool true, .bool true, .bool true]) (by simp [results, Tryz.results101, go_sem]) rfl ⟨_, rfl, of_row (ofBlocks w _ _ _ _).2.2.1 (by omega) rfl (by decide) (by decide) rfl rfl, (ofBlocks w _ _ _ _).2.2.2⟩
set_option maxRecDepth 100000 in
set_option maxHeartbeats 4000000 in
theorem of_112 (w : World) : Calls Tryz.prog 101 #[.int .u8 112] w (OfPost w (ofVal 112)) := by
  go_enter Tryz.func101, Tryz.ntmps101
  go_wp2
  refine bodyPost_ret (v := .agg #[.string ⟨#[45]⟩, .slice (some ⟨w.heap.size + 1 + 1 + 1, 0, none⟩) 1 2, .bool true, .bool false, .bool true]) (by simp [results, Tryz.results101, go_sem]) rfl ⟨_, rfl, of_row (ofBlocks w _ _ _ _).2.2.1 (by omega) rfl (by decide) (by decide) rfl rfl, (ofBlocks w _ _ _ _).2.2.2⟩
set_option maxRecDepth 100000 in
set_option maxHeartbeats 4000000 in
theorem of_110 (w : World) : Calls Tryz.prog 101 #[.int .u8 110] w (OfPost w (ofVal 110)) := by
  go_enter Tryz.func101, Tryz.ntmps101
  go_wp2
  refine bodyPost_ret (v := .agg #[.string ⟨#[]⟩, .slice (some ⟨w.heap.size + 1, 0, none⟩) 8 8, .bool false, .bool false, .bool true]) (by simp [results, Tryz.results101, go_sem]) rfl ⟨_, rfl, of_row (ofBlocks w _ _ _ _).1 (by omega) rfl (by decide) (by decide) rfl rfl, (ofBlocks w _ _ _ _).2.2.2⟩
set_option maxRecDepth 100000 in
set_option maxHeartbeats 4000000 in
theorem of_none (a0 : Int) (w : World) (n100 : (a0 == 100) = false) (n105 : (a0 == 105) = false) (n117 : (a0 == 117) = false) (n111 : (a0 == 111) = false) (n120 : (a0 == 120) = false) (n88 : (a0 == 88) = false) (n98 : (a0 == 98) = false) (n66 : (a0 == 66) = false) (n101 : (a0 == 101) = false) (n69 : (a0 == 69) = false) (n97 : (a0 == 97) = false) (n65 : (a0 == 65) = false) (n102 : (a0 == 102) = false) (n70 : (a0 == 70) = false) (n103 : (a0 == 103) = false) (n71 : (a0 == 71) = false) (n99 : (a0 == 99) = false) (n115 : (a0 == 115) = false) (n112 : (a0 == 112) = false) (n110 : (a0 == 110) = false) : Calls Tryz.prog 101 #[.int .u8 a0] w fun e w' => e = .returned (.agg #[.string ⟨#[]⟩, .slice none 0 0, .bool false, .bool false, .bool false]) ∧ Below w.heap.size w w' := by
  go_enter Tryz.func101, Tryz.ntmps101
  go_wp2
  refine bodyPost_ret (v := .agg #[.string ⟨#[]⟩, .slice none 0 0, .bool false, .bool false, .bool false]) (by simp [results, Tryz.results101, go_sem]) rfl ⟨rfl, (ofBlocks w _ _ _ _).2.2.2⟩
theorem of_calls (a0 : Int) (w : World) : Calls Tryz.prog 101 #[.int .u8 a0] w (OfPost w (ofVal a0)) := by
  by_cases h100 : a0 = 100
  · rw [h100]; exact of_100 w
  by_cases h105 : a0 = 105
  · rw [h105]; exact of_105 w
  by_cases h117 : a0 = 117
  · rw [h117]; exact of_117 w
  by_cases h111 : a0 = 111
  · rw [h111]; exact of_111 w
  by_cases h120 : a0 = 120
  · rw [h120]; exact of_120 w
  by_cases h88 : a0 = 88
  · rw [h88]; exact of_88 w
  by_cases h98 : a0 = 98
  · rw [h98]; exact of_98 w
  by_cases h66 : a0 = 66
  · rw [h66]; exact of_66 w
  by_cases h101 : a0 = 101
  · rw [h101]; exact of_101 w
  by_cases h69 : a0 = 69
  · rw [h69]; exact of_69 w
  by_cases h97 : a0 = 97
  · rw [h97]; exact of_97 w
  by_cases h65 : a0 = 65
  · rw [h65]; exact of_65 w
  by_cases h102 : a0 = 102
  · rw [h102]; exact of_102 w
  by_cases h70 : a0 = 70
  · rw [h70]; exact of_70 w
  by_cases h103 : a0 = 103
  · rw [h103]; exact of_103 w
  by_cases h71 : a0 = 71
  · rw [h71]; exact of_71 w
  by_cases h99 : a0 = 99
  · rw [h99]; exact of_99 w
  by_cases h115 : a0 = 115
  · rw [h115]; exact of_115 w
  by_cases h112 : a0 = 112
  · rw [h112]; exact of_112 w
  by_cases h110 : a0 = 110
  · rw [h110]; exact of_110 w
  refine (of_none a0 w (beq_eq_false_iff_ne.2 h100) (beq_eq_false_iff_ne.2 h105) (beq_eq_false_iff_ne.2 h117) (beq_eq_false_iff_ne.2 h111) (beq_eq_false_iff_ne.2 h120) (beq_eq_false_iff_ne.2 h88) (beq_eq_false_iff_ne.2 h98) (beq_eq_false_iff_ne.2 h66) (beq_eq_false_iff_ne.2 h101) (beq_eq_false_iff_ne.2 h69) (beq_eq_false_iff_ne.2 h97) (beq_eq_false_iff_ne.2 h65) (beq_eq_false_iff_ne.2 h102) (beq_eq_false_iff_ne.2 h70) (beq_eq_false_iff_ne.2 h103) (beq_eq_false_iff_ne.2 h71) (beq_eq_false_iff_ne.2 h99) (beq_eq_false_iff_ne.2 h115) (beq_eq_false_iff_ne.2 h112) (beq_eq_false_iff_ne.2 h110)).mono ?_
  rintro e w' ⟨rfl, hb⟩
  have e0 : ofVal a0 = (⟨#[]⟩, [], false, false, false) := by
    unfold ofVal
    simp only [h100, h105, h117, h111, h120, h88, h98, h66, h101, h69, h97, h65, h102, h70, h103, h71, h99, h115, h112, h110, if_false, or_self]
  rw [e0]
  exact ⟨_, rfl, Kd.R_nil _ _ _ _ _, hb⟩
theorem sorobanref21_Of.calls (a0 : Int) (r1 : ByteArray) (r2 : List Int) (r3 : Bool) (r4 : Bool) (r5 : Bool) (w : World) (h : sorobanref21_Of.f a0 = some (r1, r2, r3, r4, r5)) :
    Calls Tryz.prog 101 #[.int .u8 a0] w fun e w' => ∃ v1_ : Value, e = .returned (.agg #[.string r1, v1_, .bool r3, .bool r4, .bool r5]) ∧ Kd.R (Kd.int .i64) 3 w' w.heap.size (fun _ => True) v1_ r2 ∧ Below w.heap.size w w' := by
  have e := Option.some.inj h
  have hc := of_calls a0 w
  rw [e] at hc
  exact hc
end Go.Proofs.YtnhbgahfmcicnaaGreatDoor.PA
end
