/- A part of the proof of SpecEscapesCardSaid: the law answers true at every text, with no condition. -/
import Derived.Test.YtnhbgahfmcicnaaGreatDoorEsPAx9
import Derived.Test.YtnhbgahfmcicnaaGreatDoorEsM1
import Derived.WalkLawsBesides
import Derived.Outline
section
namespace Go.Proofs.YtnhbgahfmcicnaaGreatDoor.PA
set_option linter.unusedVariables false
set_option linter.unusedSimpArgs false
open Go.RowKit Go.Shelf Go.Proofs.YtnhbgahfmcicnaaGreatDoorW.PrintWords Go.Proofs.YtnhbgahfmcicnaaGreatDoorW.PrintLast Go.Proofs.YtnhbgahfmcicnaaGreatDoorW.PrintMore
def failE (c a : Int) : Ending := .panicked [{ v := .iface 53 (.agg #[.int .i64 c, .int .i64 a]), recovered := false }]
set_option maxRecDepth 100000 in
theorem need_yes (g : Nat) (w : World) : Calls Tryz.prog 93 #[.pointer (some ⟨g, 0, none⟩), .bool true] w fun e w' => e = .returned (.tuple #[]) ∧ w' = w := by
  go_enter Tryz.func93, Tryz.ntmps93
  go_wp2
  go_end0
  exact ⟨rfl, rfl⟩
set_option maxRecDepth 100000 in
theorem need_no (g : Nat) (s0_0 : Int) (s0_1 : ByteArray) (s0_2 : Int) (s0_3 : Int) (s0_4 : Int) (s0_5 : Bool) (s0_6 : SlV) (w0 w : World) (hI : IsS59 w0 w g s0_0 s0_1 s0_2 s0_3 s0_4 s0_5 s0_6) :
    Calls Tryz.prog 93 #[.pointer (some ⟨g, 0, none⟩), .bool false] w fun e w' => e = failE 6 s0_2 ∧ w' = w := by
  obtain ⟨A6, c6, HG, hg, HS⟩ := hI
  have hc2 := cellS59_2 HG
  clear HG HS
  go_enter Tryz.func93, Tryz.ntmps93
  go_wp2
  exact ⟨rfl, rfl, rfl⟩
set_option maxRecDepth 100000 in
theorem room_calls (g : Nat) (s0_0 : Int) (s0_1 : ByteArray) (s0_2 : Int) (s0_3 : Int) (s0_4 : Int) (s0_5 : Bool) (s0_6 : SlV) (w0 w : World) (hI : IsS59 w0 w g s0_0 s0_1 s0_2 s0_3 s0_4 s0_5 s0_6) :
    Calls Tryz.prog 32 #[.pointer (some ⟨g, 0, none⟩)] w fun e w' => e = (if s0_6.length = 500 then failE 2 s0_2 else .returned (.tuple #[])) ∧ w' = w := by
  obtain ⟨A6, c6, HG, hg, HS⟩ := hI
  have hc2 := cellS59_2 HG
  have hc6 := cellS59_6 HG
  clear HG HS
  by_cases c : s0_6.length = 500
  · rw [if_pos c]
    have c1 : (s0_6.length : Int) = 500 := by omega
    go_enter Tryz.func32, Tryz.ntmps32
    go_wp2
    exact ⟨rfl, rfl, rfl⟩
  · rw [if_neg c]
    have c1 : ¬ (s0_6.length : Int) = 500 := by omega
    go_enter Tryz.func32, Tryz.ntmps32
    go_wp2
    go_end0
    exact ⟨rfl, rfl⟩
set_option maxRecDepth 100000 in
set_option maxHeartbeats 1000000 in
theorem mode_yes (g : Nat) (placed : Bool) (s0_0 : Int) (s0_1 : ByteArray) (s0_2 : Int) (s0_3 : Int) (s0_4 : Int) (s0_5 : Bool) (s0_6 : SlV) (w0 w : World) (hI : IsS59 w0 w g s0_0 s0_1 s0_2 s0_3 s0_4 s0_5 s0_6) (hB : Below w0.heap.size w0 w) (h : s0_4 = 0 ∨ s0_4 = modeOf placed) :
    Calls Tryz.prog 94 #[.pointer (some ⟨g, 0, none⟩), .bool placed] w fun e w' => e = .returned (.tuple #[]) ∧ IsS59 w0 w' g s0_0 s0_1 s0_2 s0_3 (modeOf placed) s0_5 s0_6 ∧ Below w0.heap.size w0 w' ∧ KeepBut w w' g none := by
  have HI := Lib.hid hI
  have HB := Lib.hid hB
  obtain ⟨A6, c6, HG, hg, HS⟩ := hI
  have hc4 := cellS59_4 HG
  have hf4 := blk_frozen HG 4
  clear HG HS hB
  rcases h with rfl | rfl
  · cases placed
    · go_enter Tryz.func94, Tryz.ntmps94
      go_wp2_with (go_at_call 93; refine (need_yes g _).mono ?_; rintro e w' ⟨rfl, rfl⟩)
      go_end0
      exact ⟨rfl, HI.out.set_4 _, below_set HB.out (IsS59.ge HI.out), KeepBut.set_ (KeepBut.refl _ _ _) _ _⟩
    · go_enter Tryz.func94, Tryz.ntmps94
      go_wp2_with (go_at_call 93; refine (need_yes g _).mono ?_; rintro e w' ⟨rfl, rfl⟩)
      go_end0
      exact ⟨rfl, HI.out.set_4 _, below_set HB.out (IsS59.ge HI.out), KeepBut.set_ (KeepBut.refl _ _ _) _ _⟩
  · cases placed
    · rw [show modeOf false = 2 from rfl] at hc4 HI ⊢
      go_enter Tryz.func94, Tryz.ntmps94
      go_wp2_with (go_at_call 93; refine (need_yes g _).mono ?_; rintro e w' ⟨rfl, rfl⟩)
      go_end0
      exact ⟨rfl, HI.out.set_4 _, below_set HB.out (IsS59.ge HI.out), KeepBut.set_ (KeepBut.refl _ _ _) _ _⟩
    · rw [show modeOf true = 1 from rfl] at hc4 HI ⊢
      go_enter Tryz.func94, Tryz.ntmps94
      go_wp2_with (go_at_call 93; refine (need_yes g _).mono ?_; rintro e w' ⟨rfl, rfl⟩)
      go_end0
      exact ⟨rfl, HI.out.set_4 _, below_set HB.out (IsS59.ge HI.out), KeepBut.set_ (KeepBut.refl _ _ _) _ _⟩
set_option maxRecDepth 100000 in
set_option maxHeartbeats 1000000 in
theorem mode_no (g : Nat) (placed : Bool) (s0_0 : Int) (s0_1 : ByteArray) (s0_2 : Int) (s0_3 : Int) (s0_4 : Int) (s0_5 : Bool) (s0_6 : SlV) (w0 w : World) (hI : IsS59 w0 w g s0_0 s0_1 s0_2 s0_3 s0_4 s0_5 s0_6) (hB : Below w0.heap.size w0 w) (h : ¬ (s0_4 = 0 ∨ s0_4 = modeOf placed)) :
    Calls Tryz.prog 94 #[.pointer (some ⟨g, 0, none⟩), .bool placed] w fun e w' => e = failE 6 s0_2 ∧ Below w0.heap.size w0 w' := by
  have hn := need_no g s0_0 s0_1 s0_2 s0_3 s0_4 s0_5 s0_6 w0 w hI
  unfold failE at hn ⊢
  have HN := Lib.hid hn
  clear hn
  have HB := Lib.hid hB
  obtain ⟨A6, c6, HG, hg, HS⟩ := hI
  have hc4 := cellS59_4 HG
  clear HG HS hB
  have h0 : ¬ s0_4 = 0 := fun e => h (Or.inl e)
  cases placed
  · have h1 : ¬ s0_4 = 2 := fun e => h (Or.inr e)
    have e0 : (s0_4 == 0) = false := beq_eq_false_iff_ne.2 h0
    have e1 : (s0_4 == 2) = false := beq_eq_false_iff_ne.2 h1
    clear h
    go_enter Tryz.func94, Tryz.ntmps94
    go_wp2_with (go_at_call 93; refine HN.out.mono ?_; rintro e w' ⟨rfl, rfl⟩)
    exact ⟨rfl, rfl, HB.out⟩
  · have h1 : ¬ s0_4 = 1 := fun e => h (Or.inr e)
    have e0 : (s0_4 == 0) = false := beq_eq_false_iff_ne.2 h0
    have e1 : (s0_4 == 1) = false := beq_eq_false_iff_ne.2 h1
    clear h
    go_enter Tryz.func94, Tryz.ntmps94
    go_wp2_with (go_at_call 93; refine HN.out.mono ?_; rintro e w' ⟨rfl, rfl⟩)
    exact ⟨rfl, rfl, HB.out⟩
end Go.Proofs.YtnhbgahfmcicnaaGreatDoor.PA
end
