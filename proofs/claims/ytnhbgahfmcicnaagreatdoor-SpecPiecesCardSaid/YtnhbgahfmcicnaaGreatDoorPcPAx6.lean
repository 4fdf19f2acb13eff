/- A part of the proof of the claim's statement. -/
import Derived.Test.YtnhbgahfmcicnaaGreatDoorPcK0
import Derived.Test.YtnhbgahfmcicnaaGreatDoorPcPAx0
import Derived.Test.YtnhbgahfmcicnaaGreatDoorPcPAx1
import Derived.Test.YtnhbgahfmcicnaaGreatDoorPcPAx3
import Derived.Test.YtnhbgahfmcicnaaGreatDoorPcPAx4
import Derived.Test.YtnhbgahfmcicnaaGreatDoorPcPAx5
import Derived.Test.YtnhbgahfmcicnaaGreatDoorPcG1a
section
namespace Go.Proofs.YtnhbgahfmcicnaaGreatDoor.PA
open Go.RowKit Go.Proofs.YtnhbgahfmcicnaaGreatDoorW.PrintWords Go.Proofs.YtnhbgahfmcicnaaGreatDoorW.PrintLast Go.Proofs.YtnhbgahfmcicnaaGreatDoorW.PrintMore
attribute [local go_sem] max2_int min2_int max_two min_two max_three min_three max_four min_four   -- for this text's walks alone
set_option linter.unusedVariables false
set_option linter.unusedSimpArgs false
attribute [local go_sem high] eqA35
mutual
def spec_fits.j0 : Nat → Bool → ByteArray → Int → Int → Int → Int → Int → Int → Int → Int → Int → ByteArray → Bool → Bool → Option (Bool)
 | 0, _, _, _, _, _, _, _, _, _, _, _, _, _, _ => none
 | k + 1, x67, x136000, x136001, x136002, x136003, x136004, x136005, x136006, x136007, x136008, x143000, x143001, x143002, x143003 => if x67 = true then (some false) else ((spec_within.f x136003 1).bind fun t144 => (if t144 = true then ((spec_within.f x136005 0).bind fun t145 => (if t145 = true then (if x136004 < 0 then (spec_fits.j1 k true x136000 x136001 x136002 x136003 x136004 x136005 x136006 x136007 x136008 x143000 x143001 x143002 x143003) else (if x136004 > 64 then (spec_fits.j1 k true x136000 x136001 x136002 x136003 x136004 x136005 x136006 x136007 x136008 x143000 x143001 x143002 x143003) else (if x136006 < 0 then (spec_fits.j1 k true x136000 x136001 x136002 x136003 x136004 x136005 x136006 x136007 x136008 x143000 x143001 x143002 x143003) else (spec_fits.j1 k (decide (x136006 > 64)) x136000 x136001 x136002 x136003 x136004 x136005 x136006 x136007 x136008 x143000 x143001 x143002 x143003)))) else (spec_fits.j1 k true x136000 x136001 x136002 x136003 x136004 x136005 x136006 x136007 x136008 x143000 x143001 x143002 x143003))) else (spec_fits.j1 k true x136000 x136001 x136002 x136003 x136004 x136005 x136006 x136007 x136008 x143000 x143001 x143002 x143003)))
def spec_fits.j1 : Nat → Bool → ByteArray → Int → Int → Int → Int → Int → Int → Int → Int → Int → ByteArray → Bool → Bool → Option (Bool)
 | 0, _, _, _, _, _, _, _, _, _, _, _, _, _, _ => none
 | k + 1, x97, x136000, x136001, x136002, x136003, x136004, x136005, x136006, x136007, x136008, x143000, x143001, x143002, x143003 => if x97 = true then (some false) else (if x136004 = 0 then (if x136006 = 0 then (if x143002 = true then (if x143003 = true then (some true) else (if x136005 = (-1) then (some (x136006 == 0)) else (some false))) else (if x136003 = (-1) then (if x143003 = true then (some true) else (if x136005 = (-1) then (some (x136006 == 0)) else (some false))) else (some false))) else (if x136005 = (-1) then (if x143002 = true then (if x143003 = true then (some true) else (some (x136006 == 0))) else (if x136003 = (-1) then (if x143003 = true then (some true) else (some (x136006 == 0))) else (some false))) else (some false))) else (if x136003 = (-1) then (if x136006 = 0 then (if x143002 = true then (if x143003 = true then (some true) else (if x136005 = (-1) then (some (x136006 == 0)) else (some false))) else (some false)) else (if x136005 = (-1) then (if x143002 = true then (if x143003 = true then (some true) else (some (x136006 == 0))) else (some false)) else (some false))) else (some false)))
end
def spec_fits.f (k : Nat) (a0_0 : ByteArray) (a0_1 : Int) (a0_2 : Int) (a0_3 : Int) (a0_4 : Int) (a0_5 : Int) (a0_6 : Int) (a0_7 : Int) (a0_8 : Int) : Option (Bool) := if a0_8 = 0 then (if (a0_1 == 0 && (a0_2 == 0 && (a0_3 == (-1) && (a0_4 == 0 && (a0_5 == (-1) && (a0_6 == 0 && (a0_7 == 0 && (a0_8 == 0)))))))) = true then (if a0_0.toList = ([] : List UInt8) then (some false) else ((strings_ContainsAny.f a0_0 (⟨#[37, 0]⟩ : ByteArray)).bind fun t136 => (some (!t136)))) else (some false)) else (if a0_8 = 37 then (some (a0_0.toList == ([] : List UInt8) && (a0_1 == 0 && (a0_2 == 0 && (a0_3 == (-1) && (a0_4 == 0 && (a0_5 == (-1) && (a0_6 == 0 && (a0_7 == 0 && (a0_8 == 37)))))))))) else ((spec_ruleOf.f k a0_8).bind fun bt137 => (if bt137.2.2.2.2 = true then (if a0_0.toList = ([] : List UInt8) then (if a0_1 < 1 then (spec_fits.j0 k true a0_0 a0_1 a0_2 a0_3 a0_4 a0_5 a0_6 a0_7 a0_8 bt137.1 bt137.2.1 bt137.2.2.1 bt137.2.2.2.1) else (if a0_1 > 64 then (spec_fits.j0 k true a0_0 a0_1 a0_2 a0_3 a0_4 a0_5 a0_6 a0_7 a0_8 bt137.1 bt137.2.1 bt137.2.2.1 bt137.2.2.2.1) else (if (Go.bits .andNot .i64 a0_2 bt137.1) = 0 then ((spec_rule_allows.f bt137.1 bt137.2.1 bt137.2.2.1 bt137.2.2.2.1 a0_7).bind fun t143 => (spec_fits.j0 k (!t143) a0_0 a0_1 a0_2 a0_3 a0_4 a0_5 a0_6 a0_7 a0_8 bt137.1 bt137.2.1 bt137.2.2.1 bt137.2.2.2.1)) else (spec_fits.j0 k true a0_0 a0_1 a0_2 a0_3 a0_4 a0_5 a0_6 a0_7 a0_8 bt137.1 bt137.2.1 bt137.2.2.1 bt137.2.2.2.1)))) else (spec_fits.j0 k true a0_0 a0_1 a0_2 a0_3 a0_4 a0_5 a0_6 a0_7 a0_8 bt137.1 bt137.2.1 bt137.2.2.1 bt137.2.2.2.1)) else (spec_fits.j0 k true a0_0 a0_1 a0_2 a0_3 a0_4 a0_5 a0_6 a0_7 a0_8 bt137.1 bt137.2.1 bt137.2.2.1 bt137.2.2.2.1))))
set_option maxHeartbeats 8000000 in
set_option maxRecDepth 100000 in
theorem spec_fits.calls (k : Nat) (a0_0 : ByteArray) (a0_1 : Int) (a0_2 : Int) (a0_3 : Int) (a0_4 : Int) (a0_5 : Int) (a0_6 : Int) (a0_7 : Int) (a0_8 : Int) (r : Bool) (w : World) (h : spec_fits.f k a0_0 a0_1 a0_2 a0_3 a0_4 a0_5 a0_6 a0_7 a0_8 = some r) :
  Calls Tryz.prog 44 #[.agg #[.string a0_0, .int .i64 a0_1, .int .i64 a0_2, .int .i64 a0_3, .int .i64 a0_4, .int .i64 a0_5, .int .i64 a0_6, .int .i64 a0_7, .int .u8 a0_8]] w fun e w' => e = .returned (.bool r) ∧ Below w.heap.size w w' := by
 have hu35 := Tryz.underlying35
 have hu85 := Tryz.underlying85
 have HB := Aside0.mk (Below.refl w.heap.size w)
 have H : (if a0_8 = 0 then (if (a0_1 == 0 && (a0_2 == 0 && (a0_3 == (-1) && (a0_4 == 0 && (a0_5 == (-1) && (a0_6 == 0 && (a0_7 == 0 && (a0_8 == 0)))))))) = true then (if a0_0.toList = ([] : List UInt8) then (some false) else ((strings_ContainsAny.f a0_0 (⟨#[37, 0]⟩ : ByteArray)).bind fun t136 => (some (!t136)))) else (some false)) else (if a0_8 = 37 then (some (a0_0.toList == ([] : List UInt8) && (a0_1 == 0 && (a0_2 == 0 && (a0_3 == (-1) && (a0_4 == 0 && (a0_5 == (-1) && (a0_6 == 0 && (a0_7 == 0 && (a0_8 == 37)))))))))) else ((spec_ruleOf.f k a0_8).bind fun bt137 => (if bt137.2.2.2.2 = true then (if a0_0.toList = ([] : List UInt8) then (if a0_1 < 1 then (spec_fits.j0 k true a0_0 a0_1 a0_2 a0_3 a0_4 a0_5 a0_6 a0_7 a0_8 bt137.1 bt137.2.1 bt137.2.2.1 bt137.2.2.2.1) else (if a0_1 > 64 then (spec_fits.j0 k true a0_0 a0_1 a0_2 a0_3 a0_4 a0_5 a0_6 a0_7 a0_8 bt137.1 bt137.2.1 bt137.2.2.1 bt137.2.2.2.1) else (if (Go.bits .andNot .i64 a0_2 bt137.1) = 0 then ((spec_rule_allows.f bt137.1 bt137.2.1 bt137.2.2.1 bt137.2.2.2.1 a0_7).bind fun t143 => (spec_fits.j0 k (!t143) a0_0 a0_1 a0_2 a0_3 a0_4 a0_5 a0_6 a0_7 a0_8 bt137.1 bt137.2.1 bt137.2.2.1 bt137.2.2.2.1)) else (spec_fits.j0 k true a0_0 a0_1 a0_2 a0_3 a0_4 a0_5 a0_6 a0_7 a0_8 bt137.1 bt137.2.1 bt137.2.2.1 bt137.2.2.2.1)))) else (spec_fits.j0 k true a0_0 a0_1 a0_2 a0_3 a0_4 a0_5 a0_6 a0_7 a0_8 bt137.1 bt137.2.1 bt137.2.2.1 bt137.2.2.2.1)) else (spec_fits.j0 k true a0_0 a0_1 a0_2 a0_3 a0_4 a0_5 a0_6 a0_7 a0_8 bt137.1 bt137.2.1 bt137.2.2.1 bt137.2.2.2.1))))) = some r := h
 clear h
 by_cases c2 : a0_8 = 0
 ·rw [if_pos c2] at H
  have c2b0 : (a0_8 == 0) = true := beq_iff_eq.mpr c2
  have c2b1 : (a0_8 != 0) = false := bne_eq_false_iff_eq.mpr c2
  clear c2
  by_cases c3 : (a0_1 == 0 && (a0_2 == 0 && (a0_3 == (-1) && (a0_4 == 0 && (a0_5 == (-1) && (a0_6 == 0 && (a0_7 == 0 && (a0_8 == 0)))))))) = true
  ·rw [if_pos c3] at H
   have c3b0 : (a0_1 == 0 && (a0_2 == 0 && (a0_3 == (-1) && (a0_4 == 0 && (a0_5 == (-1) && (a0_6 == 0 && (a0_7 == 0 && (a0_8 == 0)))))))) = true := c3
   have c3n := c3b0
   try simp only [c2b0, Bool.and_true, Bool.true_and] at c3n
   (try (have c3b1 : decide (a0_1 = 0 && (a0_2 == 0 && (a0_3 == (-1) && (a0_4 == 0 && (a0_5 == (-1) && (a0_6 == 0 && (a0_7 == 0 && (a0_8 == 0)))))))) = true := by simpa using c3))
   (try (have c3b2 : (a0_1 == 0 && (a0_2 == 0 && (a0_3 == (-1) && (a0_4 == 0 && (a0_5 == (-1) && (a0_6 == 0 && (a0_7 == 0 && (a0_8 == 0)))))))) = true := by simpa using c3))
   clear c3
   by_cases c4 : a0_0.toList = ([] : List UInt8)
   ·rw [if_pos c4] at H
    have c4b0 : (a0_0.toList == ([] : List UInt8)) = true := beq_iff_eq.mpr c4
    have c4b1 : (a0_0.toList != ([] : List UInt8)) = false := bne_eq_false_iff_eq.mpr c4
    clear c4
    obtain rfl := Option.some.inj H
    go_enter Tryz.func44, Tryz.ntmps44
    go_wp2_with (first | ((with_reducible refine gate_dst (N := 1) rfl ?_); refine box_event ?hg (N := 1) ?hd (cs := #[.string a0_0, .int .i64 a0_1, .int .i64 a0_2, .int .i64 a0_3, .int .i64 a0_4, .int .i64 a0_5, .int .i64 a0_6, .int .i64 a0_7, .int .u8 a0_8]) (t := 35) ?hr ?_; (case hd => rfl); (case hg => rfl); (case hr => first | (go_simp; done) | (go_simp; rfl)); intro gb135 hg w5 hbox hb; have n0_ := Aside0.mk (below_step (by exact yB_ HB.out) hb); have n1_ := Aside0.mk (hbox); have n2_ := Aside0.mk ((by rw [hg]; exact (below_size (by exact yB_ HB.out)) : w.heap.size ≤ gb135)); have n3_ := n2_; clear HB; have HB := n0_; have BK135 := n1_; have GW135 := n2_; have GE135 := n3_; clear n0_ n1_ n2_ n3_; clear hb hbox hg; obtain ⟨hcz6_0, hcz6_1, hcz6_2, hcz6_3, hcz6_4, hcz6_5, hcz6_6, hcz6_7, hcz6_8, hfz6_0, hfz6_1, hfz6_2, hfz6_3, hfz6_4, hfz6_5, hfz6_6, hfz6_7, hfz6_8⟩ : At9 w5 gb135 (.string a0_0) (.int .i64 a0_1) (.int .i64 a0_2) (.int .i64 a0_3) (.int .i64 a0_4) (.int .i64 a0_5) (.int .i64 a0_6) (.int .i64 a0_7) (.int .u8 a0_8) := at9 BK135.out rfl))
    go_ret
    exact ⟨yE_, by exact yS_ HB.out GE135.out⟩
   ·rw [if_neg c4] at H
    have c4b0 : (a0_0.toList == ([] : List UInt8)) = false := beq_eq_false_iff_ne.mpr c4
    have c4b1 : (a0_0.toList != ([] : List UInt8)) = true := bne_iff_ne.mpr c4
    replace H := Option.bind_eq_some_iff.mp H
    obtain ⟨t136, A70, H⟩ := H
    replace H : (some (!t136)) = some r := H
    have A7 := Aside0.mk A70
    clear A70
    obtain rfl := Option.some.inj H
    go_enter Tryz.func44, Tryz.ntmps44
    go_wp2_with (first | ((with_reducible refine gate_dst (N := 1) rfl ?_); refine box_event ?hg (N := 1) ?hd (cs := #[.string a0_0, .int .i64 a0_1, .int .i64 a0_2, .int .i64 a0_3, .int .i64 a0_4, .int .i64 a0_5, .int .i64 a0_6, .int .i64 a0_7, .int .u8 a0_8]) (t := 35) ?hr ?_; (case hd => rfl); (case hg => rfl); (case hr => first | (go_simp; done) | (go_simp; rfl)); intro gb135 hg w8 hbox hb; have n0_ := Aside0.mk (below_step (by exact yB_ HB.out) hb); have n1_ := Aside0.mk (hbox); have n2_ := Aside0.mk ((by rw [hg]; exact (below_size (by exact yB_ HB.out)) : w.heap.size ≤ gb135)); have n3_ := n2_; clear HB; have HB := n0_; have BK135 := n1_; have GW135 := n2_; have GE135 := n3_; clear n0_ n1_ n2_ n3_; clear hb hbox hg; obtain ⟨hcz9_0, hcz9_1, hcz9_2, hcz9_3, hcz9_4, hcz9_5, hcz9_6, hcz9_7, hcz9_8, hfz9_0, hfz9_1, hfz9_2, hfz9_3, hfz9_4, hfz9_5, hfz9_6, hfz9_7, hfz9_8⟩ : At9 w8 gb135 (.string a0_0) (.int .i64 a0_1) (.int .i64 a0_2) (.int .i64 a0_3) (.int .i64 a0_4) (.int .i64 a0_5) (.int .i64 a0_6) (.int .i64 a0_7) (.int .u8 a0_8) := at9 BK135.out rfl) | (go_at_call 75; (with_reducible refine (strings_ContainsAny.calls a0_0 (⟨#[37, 0]⟩ : ByteArray) t136 _ A7.out).mono ?_); rintro e w10 ⟨rfl, hb⟩; replace BK135 := Aside0.mk (blk_below (g := gb135) (o := .cells #[.string a0_0, .int .i64 a0_1, .int .i64 a0_2, .int .i64 a0_3, .int .i64 a0_4, .int .i64 a0_5, .int .i64 a0_6, .int .i64 a0_7, .int .u8 a0_8] 35 (0, 0)) (by exact yK_ BK135.out) hb); replace HB := Aside0.mk (below_step (by exact yS_ HB.out GE135.out) hb); (try clear hb)))
    go_ret
    exact ⟨yE_, by exact yS_ HB.out GE135.out⟩
  ·rw [if_neg c3] at H
   have c3b0 : (a0_1 == 0 && (a0_2 == 0 && (a0_3 == (-1) && (a0_4 == 0 && (a0_5 == (-1) && (a0_6 == 0 && (a0_7 == 0 && (a0_8 == 0)))))))) = false := by simpa using c3
   have c3n := c3b0
   try simp only [c2b0, Bool.and_true, Bool.true_and] at c3n
   (try (have c3b1 : decide (a0_1 = 0 && (a0_2 == 0 && (a0_3 == (-1) && (a0_4 == 0 && (a0_5 == (-1) && (a0_6 == 0 && (a0_7 == 0 && (a0_8 == 0)))))))) = false := by simpa using c3))
   (try (have c3b2 : (a0_1 == 0 && (a0_2 == 0 && (a0_3 == (-1) && (a0_4 == 0 && (a0_5 == (-1) && (a0_6 == 0 && (a0_7 == 0 && (a0_8 == 0)))))))) = false := by simpa using c3))
   (try (have c3b3 : ¬ (a0_1 = 0 && (a0_2 == 0 && (a0_3 == (-1) && (a0_4 == 0 && (a0_5 == (-1) && (a0_6 == 0 && (a0_7 == 0 && (a0_8 == 0)))))))) := by simpa using c3))
   clear c3
   obtain rfl := Option.some.inj H
   go_enter Tryz.func44, Tryz.ntmps44
   go_wp2_with (first | ((with_reducible refine gate_dst (N := 1) rfl ?_); refine box_event ?hg (N := 1) ?hd (cs := #[.string a0_0, .int .i64 a0_1, .int .i64 a0_2, .int .i64 a0_3, .int .i64 a0_4, .int .i64 a0_5, .int .i64 a0_6, .int .i64 a0_7, .int .u8 a0_8]) (t := 35) ?hr ?_; (case hd => rfl); (case hg => rfl); (case hr => first | (go_simp; done) | (go_simp; rfl)); intro gb135 hg w11 hbox hb; have n0_ := Aside0.mk (below_step (by exact yB_ HB.out) hb); have n1_ := Aside0.mk (hbox); have n2_ := Aside0.mk ((by rw [hg]; exact (below_size (by exact yB_ HB.out)) : w.heap.size ≤ gb135)); have n3_ := n2_; clear HB; have HB := n0_; have BK135 := n1_; have GW135 := n2_; have GE135 := n3_; clear n0_ n1_ n2_ n3_; clear hb hbox hg; obtain ⟨hcz12_0, hcz12_1, hcz12_2, hcz12_3, hcz12_4, hcz12_5, hcz12_6, hcz12_7, hcz12_8, hfz12_0, hfz12_1, hfz12_2, hfz12_3, hfz12_4, hfz12_5, hfz12_6, hfz12_7, hfz12_8⟩ : At9 w11 gb135 (.string a0_0) (.int .i64 a0_1) (.int .i64 a0_2) (.int .i64 a0_3) (.int .i64 a0_4) (.int .i64 a0_5) (.int .i64 a0_6) (.int .i64 a0_7) (.int .u8 a0_8) := at9 BK135.out rfl))
   go_ret
   exact ⟨yE_, by exact yS_ HB.out GE135.out⟩
 ·rw [if_neg c2] at H
  have c2b0 : (a0_8 == 0) = false := beq_eq_false_iff_ne.mpr c2
  have c2b1 : (a0_8 != 0) = true := bne_iff_ne.mpr c2
  by_cases c13 : a0_8 = 37
  ·rw [if_pos c13] at H
   have c13b0 : (a0_8 == 37) = true := beq_iff_eq.mpr c13
   have c13b1 : (a0_8 != 37) = false := bne_eq_false_iff_eq.mpr c13
   clear c13
   obtain rfl := Option.some.inj H
   go_enter Tryz.func44, Tryz.ntmps44
   go_wp2_with (first | ((with_reducible refine gate_dst (N := 1) rfl ?_); refine box_event ?hg (N := 1) ?hd (cs := #[.string a0_0, .int .i64 a0_1, .int .i64 a0_2, .int .i64 a0_3, .int .i64 a0_4, .int .i64 a0_5, .int .i64 a0_6, .int .i64 a0_7, .int .u8 a0_8]) (t := 35) ?hr ?_; (case hd => rfl); (case hg => rfl); (case hr => first | (go_simp; done) | (go_simp; rfl)); intro gb135 hg w14 hbox hb; have n0_ := Aside0.mk (below_step (by exact yB_ HB.out) hb); have n1_ := Aside0.mk (hbox); have n2_ := Aside0.mk ((by rw [hg]; exact (below_size (by exact yB_ HB.out)) : w.heap.size ≤ gb135)); have n3_ := n2_; clear HB; have HB := n0_; have BK135 := n1_; have GW135 := n2_; have GE135 := n3_; clear n0_ n1_ n2_ n3_; clear hb hbox hg; obtain ⟨hcz15_0, hcz15_1, hcz15_2, hcz15_3, hcz15_4, hcz15_5, hcz15_6, hcz15_7, hcz15_8, hfz15_0, hfz15_1, hfz15_2, hfz15_3, hfz15_4, hfz15_5, hfz15_6, hfz15_7, hfz15_8⟩ : At9 w14 gb135 (.string a0_0) (.int .i64 a0_1) (.int .i64 a0_2) (.int .i64 a0_3) (.int .i64 a0_4) (.int .i64 a0_5) (.int .i64 a0_6) (.int .i64 a0_7) (.int .u8 a0_8) := at9 BK135.out rfl))
   go_ret
   exact ⟨yE_, by exact yS_ HB.out GE135.out⟩
  ·rw [if_neg c13] at H
   have c13b0 : (a0_8 == 37) = false := beq_eq_false_iff_ne.mpr c13
   have c13b1 : (a0_8 != 37) = true := bne_iff_ne.mpr c13
   replace H := Option.bind_eq_some_iff.mp H
   obtain ⟨⟨t137, t138, t139, t140, t141⟩, A160, H⟩ := H
   replace H : (if t141 = true then (if a0_0.toList = ([] : List UInt8) then (if a0_1 < 1 then (spec_fits.j0 k true a0_0 a0_1 a0_2 a0_3 a0_4 a0_5 a0_6 a0_7 a0_8 t137 t138 t139 t140) else (if a0_1 > 64 then (spec_fits.j0 k true a0_0 a0_1 a0_2 a0_3 a0_4 a0_5 a0_6 a0_7 a0_8 t137 t138 t139 t140) else (if (Go.bits .andNot .i64 a0_2 t137) = 0 then ((spec_rule_allows.f t137 t138 t139 t140 a0_7).bind fun t143 => (spec_fits.j0 k (!t143) a0_0 a0_1 a0_2 a0_3 a0_4 a0_5 a0_6 a0_7 a0_8 t137 t138 t139 t140)) else (spec_fits.j0 k true a0_0 a0_1 a0_2 a0_3 a0_4 a0_5 a0_6 a0_7 a0_8 t137 t138 t139 t140)))) else (spec_fits.j0 k true a0_0 a0_1 a0_2 a0_3 a0_4 a0_5 a0_6 a0_7 a0_8 t137 t138 t139 t140)) else (spec_fits.j0 k true a0_0 a0_1 a0_2 a0_3 a0_4 a0_5 a0_6 a0_7 a0_8 t137 t138 t139 t140)) = some r := H
   have A16 := Aside0.mk A160
   clear A160
   have HC17 := Aside0.mk H
   clear H
   go_enter Tryz.func44, Tryz.ntmps44
   go_upto_region 7 with (first | ((with_reducible refine gate_dst (N := 1) rfl ?_); refine box_event ?hg (N := 1) ?hd (cs := #[.string a0_0, .int .i64 a0_1, .int .i64 a0_2, .int .i64 a0_3, .int .i64 a0_4, .int .i64 a0_5, .int .i64 a0_6, .int .i64 a0_7, .int .u8 a0_8]) (t := 35) ?hr ?_; (case hd => rfl); (case hg => rfl); (case hr => first | (go_simp; done) | (go_simp; rfl)); intro gb135 hg w18 hbox hb; have n0_ := Aside0.mk (below_step (by exact yB_ HB.out) hb); have n1_ := Aside0.mk (hbox); have n2_ := Aside0.mk ((by rw [hg]; exact (below_size (by exact yB_ HB.out)) : w.heap.size ≤ gb135)); have n3_ := n2_; clear HB; have HB := n0_; have BK135 := n1_; have GW135 := n2_; have GE135 := n3_; clear n0_ n1_ n2_ n3_; clear hb hbox hg; obtain ⟨hcz19_0, hcz19_1, hcz19_2, hcz19_3, hcz19_4, hcz19_5, hcz19_6, hcz19_7, hcz19_8, hfz19_0, hfz19_1, hfz19_2, hfz19_3, hfz19_4, hfz19_5, hfz19_6, hfz19_7, hfz19_8⟩ : At9 w18 gb135 (.string a0_0) (.int .i64 a0_1) (.int .i64 a0_2) (.int .i64 a0_3) (.int .i64 a0_4) (.int .i64 a0_5) (.int .i64 a0_6) (.int .i64 a0_7) (.int .u8 a0_8) := at9 BK135.out rfl) | ((with_reducible refine gate_callee (f := 46) rfl ?_); refine gL_ (some 33) rfl rfl Tryz.func46 rfl #[.int .u8 a0_8] rfl ?_; (with_reducible refine (spec_ruleOf.calls k a0_8 t137 t138 t139 t140 t141 _ A16.out).mono ?_); rintro e w20 ⟨rfl, hb⟩; refine ⟨_, rfl, ?_⟩; replace BK135 := Aside0.mk (blk_below (g := gb135) (o := .cells #[.string a0_0, .int .i64 a0_1, .int .i64 a0_2, .int .i64 a0_3, .int .i64 a0_4, .int .i64 a0_5, .int .i64 a0_6, .int .i64 a0_7, .int .u8 a0_8] 35 (0, 0)) (by exact yK_ BK135.out) hb); replace HB := Aside0.mk (below_step (by exact yS_ HB.out GE135.out) hb); (try clear hb)) | ((with_reducible refine gate_dst (N := 3) rfl ?_); refine box_event ?hg (N := 3) ?hd (cs := #[.int .i64 0, .string (⟨#[]⟩ : ByteArray), .bool false, .bool false]) (t := 85) ?hr ?_; (case hd => rfl); (case hg => rfl); (case hr => first | (go_simp; done) | (go_simp; rfl)); intro gb142 hg w21 hbox hb; have n0_ := Aside0.mk (blk_below (g := gb135) (o := .cells #[.string a0_0, .int .i64 a0_1, .int .i64 a0_2, .int .i64 a0_3, .int .i64 a0_4, .int .i64 a0_5, .int .i64 a0_6, .int .i64 a0_7, .int .u8 a0_8] 35 (0, 0)) (by exact yK_ BK135.out) hb); have n1_ := Aside0.mk (below_step (by exact yS_ HB.out GE135.out) hb); have n2_ := Aside0.mk (hbox); have n3_ := Aside0.mk ((by rw [hg]; exact (below_size (by exact yS_ HB.out GE135.out)) : w.heap.size ≤ gb142)); have n4_ := Aside0.mk ((by rw [hg]; exact (below_size (by exact yS_ HB.out GE135.out)) : w.heap.size ≤ gb142)); have n5_ := Aside0.mk ((by rw [hg]; exact Nat.ne_of_lt (blk_lt (g := gb135) (o := .cells #[.string a0_0, .int .i64 a0_1, .int .i64 a0_2, .int .i64 a0_3, .int .i64 a0_4, .int .i64 a0_5, .int .i64 a0_6, .int .i64 a0_7, .int .u8 a0_8] 35 (0, 0)) (by exact yK_ BK135.out)) : gb135 ≠ gb142)); have n6_ := Aside0.mk ((by rw [hg]; exact Nat.ne_of_gt (blk_lt (g := gb135) (o := .cells #[.string a0_0, .int .i64 a0_1, .int .i64 a0_2, .int .i64 a0_3, .int .i64 a0_4, .int .i64 a0_5, .int .i64 a0_6, .int .i64 a0_7, .int .u8 a0_8] 35 (0, 0)) (by exact yK_ BK135.out)) : gb142 ≠ gb135)); clear BK135; clear HB; have BK135 := n0_; have HB := n1_; have BK142 := n2_; have GW142 := n3_; have GE142 := n4_; have NB135_142 := n5_; have NB142_135 := n6_; clear n0_ n1_ n2_ n3_ n4_ n5_ n6_; clear hb hbox hg; have hnb22 := NB142_135.out; have hnc22 := NB135_142.out; have hcz23_0 : w21.cell? ⟨gb142, 0, none⟩ = some (.int .i64 0) := (blk_cell BK142.out 0).trans rfl; have hcz23_1 : w21.cell? ⟨gb142, 1, none⟩ = some (.string (⟨#[]⟩ : ByteArray)) := (blk_cell BK142.out 1).trans rfl; have hcz23_2 : w21.cell? ⟨gb142, 2, none⟩ = some (.bool false) := (blk_cell BK142.out 2).trans rfl; have hcz23_3 : w21.cell? ⟨gb142, 3, none⟩ = some (.bool false) := (blk_cell BK142.out 3).trans rfl; have hfz23_0 := blk_frozen BK142.out 0; have hfz23_1 := blk_frozen BK142.out 1; have hfz23_2 := blk_frozen BK142.out 2; have hfz23_3 := blk_frozen BK142.out 3))
   (try simp only [Act.put, List.setIfInBounds_toArray, List.set_cons_zero, List.set_cons_succ])
   go_cut [67] (fun v67 wc => ∃ (kq : Nat) (x67_16 : Bool), v67 = .bool x67_16 ∧ Aside0 (spec_fits.j0 kq x67_16 a0_0 a0_1 a0_2 a0_3 a0_4 a0_5 a0_6 a0_7 a0_8 t137 t138 t139 t140 = some r) ∧ Aside0 (kq ≤ k) ∧ Aside0 (wc.heap[gb135]? = some (.cells #[.string a0_0, .int .i64 a0_1, .int .i64 a0_2, .int .i64 a0_3, .int .i64 a0_4, .int .i64 a0_5, .int .i64 a0_6, .int .i64 a0_7, .int .u8 a0_8] 35 (0, 0))) ∧ Aside0 (wc.heap[gb142]? = some (.cells #[.int .i64 t137, .string t138, .bool t139, .bool t140] 85 (0, 0))) ∧ Aside0 (Below w.heap.size w wc))
   case first =>
    have H := HC17.out
    clear HC17
    by_cases c24 : t141 = true
    ·subst c24
     have H1 : (if a0_0.toList = ([] : List UInt8) then (if a0_1 < 1 then (spec_fits.j0 k true a0_0 a0_1 a0_2 a0_3 a0_4 a0_5 a0_6 a0_7 a0_8 t137 t138 t139 t140) else (if a0_1 > 64 then (spec_fits.j0 k true a0_0 a0_1 a0_2 a0_3 a0_4 a0_5 a0_6 a0_7 a0_8 t137 t138 t139 t140) else (if (Go.bits .andNot .i64 a0_2 t137) = 0 then ((spec_rule_allows.f t137 t138 t139 t140 a0_7).bind fun t143 => (spec_fits.j0 k (!t143) a0_0 a0_1 a0_2 a0_3 a0_4 a0_5 a0_6 a0_7 a0_8 t137 t138 t139 t140)) else (spec_fits.j0 k true a0_0 a0_1 a0_2 a0_3 a0_4 a0_5 a0_6 a0_7 a0_8 t137 t138 t139 t140)))) else (spec_fits.j0 k true a0_0 a0_1 a0_2 a0_3 a0_4 a0_5 a0_6 a0_7 a0_8 t137 t138 t139 t140)) = some r := by rw [if_pos rfl] at H; exact H
     clear H
     have H := H1
     clear H1
     by_cases c25 : a0_0.toList = ([] : List UInt8)
     ·rw [if_pos c25] at H
      have c25b0 : (a0_0.toList == ([] : List UInt8)) = true := beq_iff_eq.mpr c25
      have c25b1 : (a0_0.toList != ([] : List UInt8)) = false := bne_eq_false_iff_eq.mpr c25
      clear c25
      (first | rw [c25b0] | (simp only [i64_w, i32_w]; rw [c25b0]) | skip)
      by_cases c26 : a0_1 < 1
      ·rw [if_pos c26] at H
       have c26b0 : decide (a0_1 < 1) = true := decide_eq_true c26
       clear c26
       have H' := Aside0.mk H
       clear H
       have hnb27 := NB135_142.out
       have hnc27 := NB142_135.out
       obtain ⟨hcz28_0, hcz28_1, hcz28_2, hcz28_3, hcz28_4, hcz28_5, hcz28_6, hcz28_7, hcz28_8, hfz28_0, hfz28_1, hfz28_2, hfz28_3, hfz28_4, hfz28_5, hfz28_6, hfz28_7, hfz28_8⟩ : At9 w21 gb135 (.string a0_0) (.int .i64 a0_1) (.int .i64 a0_2) (.int .i64 a0_3) (.int .i64 a0_4) (.int .i64 a0_5) (.int .i64 a0_6) (.int .i64 a0_7) (.int .u8 a0_8) := at9 BK135.out rfl
       go_wp2
       go_meet
       case rel => exact ⟨_, (true), (by first | rfl | (simp; done) | (simp [*]; done)), H', ⟨by first | omega | exact Nat.le_refl _⟩, ⟨by (with_reducible repeat (first | refine blk_drewN ?_ _ | refine blk_drew ?_ | refine blk_alloc ?_ _)); refine blk_far ?_ NB135_142.out _; (with_reducible repeat (first | refine blk_drewN ?_ _ | refine blk_drew ?_ | refine blk_alloc ?_ _)); refine blk_far ?_ NB135_142.out _; (with_reducible repeat (first | refine blk_drewN ?_ _ | refine blk_drew ?_ | refine blk_alloc ?_ _)); refine blk_far ?_ NB135_142.out _; (with_reducible repeat (first | refine blk_drewN ?_ _ | refine blk_drew ?_ | refine blk_alloc ?_ _)); refine blk_far ?_ NB135_142.out _; exact yK_ BK135.out⟩, ⟨by (with_reducible repeat (first | refine blk_drewN ?_ _ | refine blk_drew ?_ | refine blk_alloc ?_ _)); refine blk_put (cs := #[.int .i64 t137, .string t138, .bool t139, .bool false]) ?_ 3 _ rfl; (with_reducible repeat (first | refine blk_drewN ?_ _ | refine blk_drew ?_ | refine blk_alloc ?_ _)); refine blk_put (cs := #[.int .i64 t137, .string t138, .bool false, .bool false]) ?_ 2 _ rfl; (with_reducible repeat (first | refine blk_drewN ?_ _ | refine blk_drew ?_ | refine blk_alloc ?_ _)); refine blk_put (cs := #[.int .i64 t137, .string (⟨#[]⟩ : ByteArray), .bool false, .bool false]) ?_ 1 _ rfl; (with_reducible repeat (first | refine blk_drewN ?_ _ | refine blk_drew ?_ | refine blk_alloc ?_ _)); refine blk_put (cs := #[.int .i64 0, .string (⟨#[]⟩ : ByteArray), .bool false, .bool false]) ?_ 0 _ rfl; exact yK_ BK142.out⟩, ⟨by repeat (first | (with_reducible first | exact HB.out | apply bA_ | apply bN_ | apply bD_ | refine below_set ?_ GE135.out | refine below_set ?_ GE142.out) | exact HB.out)⟩⟩
      ·rw [if_neg c26] at H
       have c26b0 : decide (a0_1 < 1) = false := decide_eq_false c26
       clear c26
       by_cases c29 : a0_1 > 64
       ·rw [if_pos c29] at H
        have c29b0 : decide (64 < a0_1) = true := decide_eq_true c29
        clear c29
        have H' := Aside0.mk H
        clear H
        have hnb30 := NB135_142.out
        have hnc30 := NB142_135.out
        obtain ⟨hcz31_0, hcz31_1, hcz31_2, hcz31_3, hcz31_4, hcz31_5, hcz31_6, hcz31_7, hcz31_8, hfz31_0, hfz31_1, hfz31_2, hfz31_3, hfz31_4, hfz31_5, hfz31_6, hfz31_7, hfz31_8⟩ : At9 w21 gb135 (.string a0_0) (.int .i64 a0_1) (.int .i64 a0_2) (.int .i64 a0_3) (.int .i64 a0_4) (.int .i64 a0_5) (.int .i64 a0_6) (.int .i64 a0_7) (.int .u8 a0_8) := at9 BK135.out rfl
        go_wp2
        go_meet
        case rel => exact ⟨_, (true), (by first | rfl | (simp; done) | (simp [*]; done)), H', ⟨by first | omega | exact Nat.le_refl _⟩, ⟨by (with_reducible repeat (first | refine blk_drewN ?_ _ | refine blk_drew ?_ | refine blk_alloc ?_ _)); refine blk_far ?_ NB135_142.out _; (with_reducible repeat (first | refine blk_drewN ?_ _ | refine blk_drew ?_ | refine blk_alloc ?_ _)); refine blk_far ?_ NB135_142.out _; (with_reducible repeat (first | refine blk_drewN ?_ _ | refine blk_drew ?_ | refine blk_alloc ?_ _)); refine blk_far ?_ NB135_142.out _; (with_reducible repeat (first | refine blk_drewN ?_ _ | refine blk_drew ?_ | refine blk_alloc ?_ _)); refine blk_far ?_ NB135_142.out _; exact yK_ BK135.out⟩, ⟨by (with_reducible repeat (first | refine blk_drewN ?_ _ | refine blk_drew ?_ | refine blk_alloc ?_ _)); refine blk_put (cs := #[.int .i64 t137, .string t138, .bool t139, .bool false]) ?_ 3 _ rfl; (with_reducible repeat (first | refine blk_drewN ?_ _ | refine blk_drew ?_ | refine blk_alloc ?_ _)); refine blk_put (cs := #[.int .i64 t137, .string t138, .bool false, .bool false]) ?_ 2 _ rfl; (with_reducible repeat (first | refine blk_drewN ?_ _ | refine blk_drew ?_ | refine blk_alloc ?_ _)); refine blk_put (cs := #[.int .i64 t137, .string (⟨#[]⟩ : ByteArray), .bool false, .bool false]) ?_ 1 _ rfl; (with_reducible repeat (first | refine blk_drewN ?_ _ | refine blk_drew ?_ | refine blk_alloc ?_ _)); refine blk_put (cs := #[.int .i64 0, .string (⟨#[]⟩ : ByteArray), .bool false, .bool false]) ?_ 0 _ rfl; exact yK_ BK142.out⟩, ⟨by repeat (first | (with_reducible first | exact HB.out | apply bA_ | apply bN_ | apply bD_ | refine below_set ?_ GE135.out | refine below_set ?_ GE142.out) | exact HB.out)⟩⟩
       ·rw [if_neg c29] at H
        have c29b0 : decide (64 < a0_1) = false := decide_eq_false c29
        clear c29
        by_cases c32 : (Go.bits .andNot .i64 a0_2 t137) = 0
        ·rw [if_pos c32] at H
         have c32b0 : ((Go.bits .andNot .i64 a0_2 t137) == 0) = true := beq_iff_eq.mpr c32
         have c32b1 : ((Go.bits .andNot .i64 a0_2 t137) != 0) = false := bne_eq_false_iff_eq.mpr c32
         clear c32
         replace H := Option.bind_eq_some_iff.mp H
         obtain ⟨t143, A330, H⟩ := H
         replace H : (spec_fits.j0 k (!t143) a0_0 a0_1 a0_2 a0_3 a0_4 a0_5 a0_6 a0_7 a0_8 t137 t138 t139 t140) = some r := H
         have A33 := Aside0.mk A330
         clear A330
         have H' := Aside0.mk H
         clear H
         have hnb34 := NB135_142.out
         have hnc34 := NB142_135.out
         obtain ⟨hcz35_0, hcz35_1, hcz35_2, hcz35_3, hcz35_4, hcz35_5, hcz35_6, hcz35_7, hcz35_8, hfz35_0, hfz35_1, hfz35_2, hfz35_3, hfz35_4, hfz35_5, hfz35_6, hfz35_7, hfz35_8⟩ : At9 w21 gb135 (.string a0_0) (.int .i64 a0_1) (.int .i64 a0_2) (.int .i64 a0_3) (.int .i64 a0_4) (.int .i64 a0_5) (.int .i64 a0_6) (.int .i64 a0_7) (.int .u8 a0_8) := at9 BK135.out rfl
         have hcz36_0 : w21.cell? ⟨gb142, 0, none⟩ = some (.int .i64 0) := (blk_cell BK142.out 0).trans rfl
         have hcz36_1 : w21.cell? ⟨gb142, 1, none⟩ = some (.string (⟨#[]⟩ : ByteArray)) := (blk_cell BK142.out 1).trans rfl
         have hcz36_2 : w21.cell? ⟨gb142, 2, none⟩ = some (.bool false) := (blk_cell BK142.out 2).trans rfl
         have hcz36_3 : w21.cell? ⟨gb142, 3, none⟩ = some (.bool false) := (blk_cell BK142.out 3).trans rfl
         have hfz36_0 := blk_frozen BK142.out 0
         have hfz36_1 := blk_frozen BK142.out 1
         have hfz36_2 := blk_frozen BK142.out 2
         have hfz36_3 := blk_frozen BK142.out 3
         go_wp2_with (first | (go_at_call 76; (with_reducible refine (spec_rule_allows.calls t137 t138 t139 t140 a0_7 t143 _ A33.out).mono ?_); rintro e w37 ⟨rfl, hb⟩; replace BK135 := Aside0.mk (blk_below (g := gb135) (o := .cells #[.string a0_0, .int .i64 a0_1, .int .i64 a0_2, .int .i64 a0_3, .int .i64 a0_4, .int .i64 a0_5, .int .i64 a0_6, .int .i64 a0_7, .int .u8 a0_8] 35 (0, 0)) (by (with_reducible repeat (first | refine blk_drewN ?_ _ | refine blk_drew ?_ | refine blk_alloc ?_ _)); refine blk_far ?_ NB135_142.out _; (with_reducible repeat (first | refine blk_drewN ?_ _ | refine blk_drew ?_ | refine blk_alloc ?_ _)); refine blk_far ?_ NB135_142.out _; (with_reducible repeat (first | refine blk_drewN ?_ _ | refine blk_drew ?_ | refine blk_alloc ?_ _)); refine blk_far ?_ NB135_142.out _; (with_reducible repeat (first | refine blk_drewN ?_ _ | refine blk_drew ?_ | refine blk_alloc ?_ _)); refine blk_far ?_ NB135_142.out _; exact yK_ BK135.out) hb); replace BK142 := Aside0.mk (blk_below (g := gb142) (o := .cells #[.int .i64 t137, .string t138, .bool t139, .bool t140] 85 (0, 0)) (by (with_reducible repeat (first | refine blk_drewN ?_ _ | refine blk_drew ?_ | refine blk_alloc ?_ _)); refine blk_put (cs := #[.int .i64 t137, .string t138, .bool t139, .bool false]) ?_ 3 _ rfl; (with_reducible repeat (first | refine blk_drewN ?_ _ | refine blk_drew ?_ | refine blk_alloc ?_ _)); refine blk_put (cs := #[.int .i64 t137, .string t138, .bool false, .bool false]) ?_ 2 _ rfl; (with_reducible repeat (first | refine blk_drewN ?_ _ | refine blk_drew ?_ | refine blk_alloc ?_ _)); refine blk_put (cs := #[.int .i64 t137, .string (⟨#[]⟩ : ByteArray), .bool false, .bool false]) ?_ 1 _ rfl; (with_reducible repeat (first | refine blk_drewN ?_ _ | refine blk_drew ?_ | refine blk_alloc ?_ _)); refine blk_put (cs := #[.int .i64 0, .string (⟨#[]⟩ : ByteArray), .bool false, .bool false]) ?_ 0 _ rfl; exact yK_ BK142.out) hb); replace HB := Aside0.mk (below_step (by repeat (first | (with_reducible first | exact HB.out | apply bA_ | apply bN_ | apply bD_ | refine below_set ?_ GE135.out | refine below_set ?_ GE142.out) | exact HB.out)) hb); (try clear hb)))
         go_meet
         case rel => exact ⟨_, (!t143), (by first | rfl | (simp; done) | (simp [*]; done)), H', ⟨by first | omega | exact Nat.le_refl _⟩, ⟨by exact yK_ BK135.out⟩, ⟨by exact yK_ BK142.out⟩, ⟨by repeat (first | (with_reducible first | exact HB.out | apply bA_ | apply bN_ | apply bD_ | refine below_set ?_ GE135.out | refine below_set ?_ GE142.out) | exact HB.out)⟩⟩
        ·rw [if_neg c32] at H
         have c32b0 : ((Go.bits .andNot .i64 a0_2 t137) == 0) = false := beq_eq_false_iff_ne.mpr c32
         have c32b1 : ((Go.bits .andNot .i64 a0_2 t137) != 0) = true := bne_iff_ne.mpr c32
         have H' := Aside0.mk H
         clear H
         have hnb38 := NB135_142.out
         have hnc38 := NB142_135.out
         obtain ⟨hcz39_0, hcz39_1, hcz39_2, hcz39_3, hcz39_4, hcz39_5, hcz39_6, hcz39_7, hcz39_8, hfz39_0, hfz39_1, hfz39_2, hfz39_3, hfz39_4, hfz39_5, hfz39_6, hfz39_7, hfz39_8⟩ : At9 w21 gb135 (.string a0_0) (.int .i64 a0_1) (.int .i64 a0_2) (.int .i64 a0_3) (.int .i64 a0_4) (.int .i64 a0_5) (.int .i64 a0_6) (.int .i64 a0_7) (.int .u8 a0_8) := at9 BK135.out rfl
         have hcz40_0 : w21.cell? ⟨gb142, 0, none⟩ = some (.int .i64 0) := (blk_cell BK142.out 0).trans rfl
         have hcz40_1 : w21.cell? ⟨gb142, 1, none⟩ = some (.string (⟨#[]⟩ : ByteArray)) := (blk_cell BK142.out 1).trans rfl
         have hcz40_2 : w21.cell? ⟨gb142, 2, none⟩ = some (.bool false) := (blk_cell BK142.out 2).trans rfl
         have hcz40_3 : w21.cell? ⟨gb142, 3, none⟩ = some (.bool false) := (blk_cell BK142.out 3).trans rfl
         have hfz40_0 := blk_frozen BK142.out 0
         have hfz40_1 := blk_frozen BK142.out 1
         have hfz40_2 := blk_frozen BK142.out 2
         have hfz40_3 := blk_frozen BK142.out 3
         go_wp2
         go_meet
         case rel => exact ⟨_, (true), (by first | rfl | (simp; done) | (simp [*]; done)), H', ⟨by first | omega | exact Nat.le_refl _⟩, ⟨by (with_reducible repeat (first | refine blk_drewN ?_ _ | refine blk_drew ?_ | refine blk_alloc ?_ _)); refine blk_far ?_ NB135_142.out _; (with_reducible repeat (first | refine blk_drewN ?_ _ | refine blk_drew ?_ | refine blk_alloc ?_ _)); refine blk_far ?_ NB135_142.out _; (with_reducible repeat (first | refine blk_drewN ?_ _ | refine blk_drew ?_ | refine blk_alloc ?_ _)); refine blk_far ?_ NB135_142.out _; (with_reducible repeat (first | refine blk_drewN ?_ _ | refine blk_drew ?_ | refine blk_alloc ?_ _)); refine blk_far ?_ NB135_142.out _; exact yK_ BK135.out⟩, ⟨by (with_reducible repeat (first | refine blk_drewN ?_ _ | refine blk_drew ?_ | refine blk_alloc ?_ _)); refine blk_put (cs := #[.int .i64 t137, .string t138, .bool t139, .bool false]) ?_ 3 _ rfl; (with_reducible repeat (first | refine blk_drewN ?_ _ | refine blk_drew ?_ | refine blk_alloc ?_ _)); refine blk_put (cs := #[.int .i64 t137, .string t138, .bool false, .bool false]) ?_ 2 _ rfl; (with_reducible repeat (first | refine blk_drewN ?_ _ | refine blk_drew ?_ | refine blk_alloc ?_ _)); refine blk_put (cs := #[.int .i64 t137, .string (⟨#[]⟩ : ByteArray), .bool false, .bool false]) ?_ 1 _ rfl; (with_reducible repeat (first | refine blk_drewN ?_ _ | refine blk_drew ?_ | refine blk_alloc ?_ _)); refine blk_put (cs := #[.int .i64 0, .string (⟨#[]⟩ : ByteArray), .bool false, .bool false]) ?_ 0 _ rfl; exact yK_ BK142.out⟩, ⟨by repeat (first | (with_reducible first | exact HB.out | apply bA_ | apply bN_ | apply bD_ | refine below_set ?_ GE135.out | refine below_set ?_ GE142.out) | exact HB.out)⟩⟩
     ·rw [if_neg c25] at H
      have c25b0 : (a0_0.toList == ([] : List UInt8)) = false := beq_eq_false_iff_ne.mpr c25
      have c25b1 : (a0_0.toList != ([] : List UInt8)) = true := bne_iff_ne.mpr c25
      (first | rw [c25b0] | (simp only [i64_w, i32_w]; rw [c25b0]) | skip)
      have H' := Aside0.mk H
      clear H
      have hnb41 := NB135_142.out
      have hnc41 := NB142_135.out
      obtain ⟨hcz42_0, hcz42_1, hcz42_2, hcz42_3, hcz42_4, hcz42_5, hcz42_6, hcz42_7, hcz42_8, hfz42_0, hfz42_1, hfz42_2, hfz42_3, hfz42_4, hfz42_5, hfz42_6, hfz42_7, hfz42_8⟩ : At9 w21 gb135 (.string a0_0) (.int .i64 a0_1) (.int .i64 a0_2) (.int .i64 a0_3) (.int .i64 a0_4) (.int .i64 a0_5) (.int .i64 a0_6) (.int .i64 a0_7) (.int .u8 a0_8) := at9 BK135.out rfl
      go_wp2
      go_meet
      case rel => exact ⟨_, (true), (by first | rfl | (simp; done) | (simp [*]; done)), H', ⟨by first | omega | exact Nat.le_refl _⟩, ⟨by (with_reducible repeat (first | refine blk_drewN ?_ _ | refine blk_drew ?_ | refine blk_alloc ?_ _)); refine blk_far ?_ NB135_142.out _; (with_reducible repeat (first | refine blk_drewN ?_ _ | refine blk_drew ?_ | refine blk_alloc ?_ _)); refine blk_far ?_ NB135_142.out _; (with_reducible repeat (first | refine blk_drewN ?_ _ | refine blk_drew ?_ | refine blk_alloc ?_ _)); refine blk_far ?_ NB135_142.out _; (with_reducible repeat (first | refine blk_drewN ?_ _ | refine blk_drew ?_ | refine blk_alloc ?_ _)); refine blk_far ?_ NB135_142.out _; exact yK_ BK135.out⟩, ⟨by (with_reducible repeat (first | refine blk_drewN ?_ _ | refine blk_drew ?_ | refine blk_alloc ?_ _)); refine blk_put (cs := #[.int .i64 t137, .string t138, .bool t139, .bool false]) ?_ 3 _ rfl; (with_reducible repeat (first | refine blk_drewN ?_ _ | refine blk_drew ?_ | refine blk_alloc ?_ _)); refine blk_put (cs := #[.int .i64 t137, .string t138, .bool false, .bool false]) ?_ 2 _ rfl; (with_reducible repeat (first | refine blk_drewN ?_ _ | refine blk_drew ?_ | refine blk_alloc ?_ _)); refine blk_put (cs := #[.int .i64 t137, .string (⟨#[]⟩ : ByteArray), .bool false, .bool false]) ?_ 1 _ rfl; (with_reducible repeat (first | refine blk_drewN ?_ _ | refine blk_drew ?_ | refine blk_alloc ?_ _)); refine blk_put (cs := #[.int .i64 0, .string (⟨#[]⟩ : ByteArray), .bool false, .bool false]) ?_ 0 _ rfl; exact yK_ BK142.out⟩, ⟨by repeat (first | (with_reducible first | exact HB.out | apply bA_ | apply bN_ | apply bD_ | refine below_set ?_ GE135.out | refine below_set ?_ GE142.out) | exact HB.out)⟩⟩
    ·replace c24 := Bool.eq_false_iff.mpr c24
     subst c24
     have H1 : (spec_fits.j0 k true a0_0 a0_1 a0_2 a0_3 a0_4 a0_5 a0_6 a0_7 a0_8 t137 t138 t139 t140) = some r := by rw [if_neg (show ¬ (false = true) by decide)] at H; exact H
     clear H
     have H := H1
     clear H1
     have H' := Aside0.mk H
     clear H
     go_wp2
     go_meet
     case rel => exact ⟨_, (true), (by first | rfl | (simp; done) | (simp [*]; done)), H', ⟨by first | omega | exact Nat.le_refl _⟩, ⟨by (with_reducible repeat (first | refine blk_drewN ?_ _ | refine blk_drew ?_ | refine blk_alloc ?_ _)); refine blk_far ?_ NB135_142.out _; (with_reducible repeat (first | refine blk_drewN ?_ _ | refine blk_drew ?_ | refine blk_alloc ?_ _)); refine blk_far ?_ NB135_142.out _; (with_reducible repeat (first | refine blk_drewN ?_ _ | refine blk_drew ?_ | refine blk_alloc ?_ _)); refine blk_far ?_ NB135_142.out _; (with_reducible repeat (first | refine blk_drewN ?_ _ | refine blk_drew ?_ | refine blk_alloc ?_ _)); refine blk_far ?_ NB135_142.out _; exact yK_ BK135.out⟩, ⟨by (with_reducible repeat (first | refine blk_drewN ?_ _ | refine blk_drew ?_ | refine blk_alloc ?_ _)); refine blk_put (cs := #[.int .i64 t137, .string t138, .bool t139, .bool false]) ?_ 3 _ rfl; (with_reducible repeat (first | refine blk_drewN ?_ _ | refine blk_drew ?_ | refine blk_alloc ?_ _)); refine blk_put (cs := #[.int .i64 t137, .string t138, .bool false, .bool false]) ?_ 2 _ rfl; (with_reducible repeat (first | refine blk_drewN ?_ _ | refine blk_drew ?_ | refine blk_alloc ?_ _)); refine blk_put (cs := #[.int .i64 t137, .string (⟨#[]⟩ : ByteArray), .bool false, .bool false]) ?_ 1 _ rfl; (with_reducible repeat (first | refine blk_drewN ?_ _ | refine blk_drew ?_ | refine blk_alloc ?_ _)); refine blk_put (cs := #[.int .i64 0, .string (⟨#[]⟩ : ByteArray), .bool false, .bool false]) ?_ 0 _ rfl; exact yK_ BK142.out⟩, ⟨by repeat (first | (with_reducible first | exact HB.out | apply bA_ | apply bN_ | apply bD_ | refine below_set ?_ GE135.out | refine below_set ?_ GE142.out) | exact HB.out)⟩⟩
   case rest =>
    clear HC17
    try clear c1
    try clear c2
    try clear c2b0
    try clear c2b1
    try clear p2
    try clear c3
    try clear c3b0
    try clear c3b1
    try clear c3b2
    try clear c4
    try clear c4b0
    try clear c4b1
    try clear c13
    try clear c13b0
    try clear c13b1
    try clear c22
    try clear c24
    try clear c25
    try clear c25b0
    try clear c25b1
    try clear c26
    try clear c26b0
    try clear c27
    try clear c29
    try clear c29b0
    try clear c30
    try clear c32
    try clear c32b0
    try clear c32b1
    try clear c34
    try clear c38
    try clear c41
    try clear hcz12_0
    try clear hcz12_1
    try clear hcz12_2
    try clear hcz12_3
    try clear hcz12_4
    try clear hcz12_5
    try clear hcz12_6
    try clear hcz12_7
    try clear hcz12_8
    try clear hcz15_0
    try clear hcz15_1
    try clear hcz15_2
    try clear hcz15_3
    try clear hcz15_4
    try clear hcz15_5
    try clear hcz15_6
    try clear hcz15_7
    try clear hcz15_8
    try clear hcz19_0
    try clear hcz19_1
    try clear hcz19_2
    try clear hcz19_3
    try clear hcz19_4
    try clear hcz19_5
    try clear hcz19_6
    try clear hcz19_7
    try clear hcz19_8
    try clear hcz23_0
    try clear hcz23_1
    try clear hcz23_2
    try clear hcz23_3
    try clear hcz28_0
    try clear hcz28_1
    try clear hcz28_2
    try clear hcz28_3
    try clear hcz28_4
    try clear hcz28_5
    try clear hcz28_6
    try clear hcz28_7
    try clear hcz28_8
    try clear hcz31_0
    try clear hcz31_1
    try clear hcz31_2
    try clear hcz31_3
    try clear hcz31_4
    try clear hcz31_5
    try clear hcz31_6
    try clear hcz31_7
    try clear hcz31_8
    try clear hcz35_0
    try clear hcz35_1
    try clear hcz35_2
    try clear hcz35_3
    try clear hcz35_4
    try clear hcz35_5
    try clear hcz35_6
    try clear hcz35_7
    try clear hcz35_8
    try clear hcz36_0
    try clear hcz36_1
    try clear hcz36_2
    try clear hcz36_3
    try clear hcz39_0
    try clear hcz39_1
    try clear hcz39_2
    try clear hcz39_3
    try clear hcz39_4
    try clear hcz39_5
    try clear hcz39_6
    try clear hcz39_7
    try clear hcz39_8
    try clear hcz40_0
    try clear hcz40_1
    try clear hcz40_2
    try clear hcz40_3
    try clear hcz42_0
    try clear hcz42_1
    try clear hcz42_2
    try clear hcz42_3
    try clear hcz42_4
    try clear hcz42_5
    try clear hcz42_6
    try clear hcz42_7
    try clear hcz42_8
    try clear hcz6_0
    try clear hcz6_1
    try clear hcz6_2
    try clear hcz6_3
    try clear hcz6_4
    try clear hcz6_5
    try clear hcz6_6
    try clear hcz6_7
    try clear hcz6_8
    try clear hcz9_0
    try clear hcz9_1
    try clear hcz9_2
    try clear hcz9_3
    try clear hcz9_4
    try clear hcz9_5
    try clear hcz9_6
    try clear hcz9_7
    try clear hcz9_8
    try clear hfz12_0
    try clear hfz12_1
    try clear hfz12_2
    try clear hfz12_3
    try clear hfz12_4
    try clear hfz12_5
    try clear hfz12_6
    try clear hfz12_7
    try clear hfz12_8
    try clear hfz15_0
    try clear hfz15_1
    try clear hfz15_2
    try clear hfz15_3
    try clear hfz15_4
    try clear hfz15_5
    try clear hfz15_6
    try clear hfz15_7
    try clear hfz15_8
    try clear hfz19_0
    try clear hfz19_1
    try clear hfz19_2
    try clear hfz19_3
    try clear hfz19_4
    try clear hfz19_5
    try clear hfz19_6
    try clear hfz19_7
    try clear hfz19_8
    try clear hfz23_0
    try clear hfz23_1
    try clear hfz23_2
    try clear hfz23_3
    try clear hfz28_0
    try clear hfz28_1
    try clear hfz28_2
    try clear hfz28_3
    try clear hfz28_4
    try clear hfz28_5
    try clear hfz28_6
    try clear hfz28_7
    try clear hfz28_8
    try clear hfz31_0
    try clear hfz31_1
    try clear hfz31_2
    try clear hfz31_3
    try clear hfz31_4
    try clear hfz31_5
    try clear hfz31_6
    try clear hfz31_7
    try clear hfz31_8
    try clear hfz35_0
    try clear hfz35_1
    try clear hfz35_2
    try clear hfz35_3
    try clear hfz35_4
    try clear hfz35_5
    try clear hfz35_6
    try clear hfz35_7
    try clear hfz35_8
    try clear hfz36_0
    try clear hfz36_1
    try clear hfz36_2
    try clear hfz36_3
    try clear hfz39_0
    try clear hfz39_1
    try clear hfz39_2
    try clear hfz39_3
    try clear hfz39_4
    try clear hfz39_5
    try clear hfz39_6
    try clear hfz39_7
    try clear hfz39_8
    try clear hfz40_0
    try clear hfz40_1
    try clear hfz40_2
    try clear hfz40_3
    try clear hfz42_0
    try clear hfz42_1
    try clear hfz42_2
    try clear hfz42_3
    try clear hfz42_4
    try clear hfz42_5
    try clear hfz42_6
    try clear hfz42_7
    try clear hfz42_8
    try clear hfz6_0
    try clear hfz6_1
    try clear hfz6_2
    try clear hfz6_3
    try clear hfz6_4
    try clear hfz6_5
    try clear hfz6_6
    try clear hfz6_7
    try clear hfz6_8
    try clear hfz9_0
    try clear hfz9_1
    try clear hfz9_2
    try clear hfz9_3
    try clear hfz9_4
    try clear hfz9_5
    try clear hfz9_6
    try clear hfz9_7
    try clear hfz9_8
    obtain ⟨kq, x67_16, rfl, HA, HJ16, BK135, BK142, HB⟩ := hcut
    cases kq with
    | zero => exact absurd HA.out (by simp [spec_fits.j0])
    | succ kj16 =>
     have H := HA.out
     clear HA
     simp only [spec_fits.j0] at H
     by_cases c43 : x67_16 = true
     ·subst c43
      have H1 : (some false) = some r := by rw [if_pos rfl] at H; exact H
      clear H
      have H := H1
      clear H1
      obtain rfl := Option.some.inj H
      go_wp2
      go_ret
      exact ⟨yE_, by repeat (first | (with_reducible first | exact HB.out | apply bA_ | apply bN_ | apply bD_ | refine below_set ?_ GE135.out | refine below_set ?_ GE142.out) | exact HB.out)⟩
     ·replace c43 := Bool.eq_false_iff.mpr c43
      subst c43
      have H1 : ((spec_within.f a0_3 1).bind fun t144 => (if t144 = true then ((spec_within.f a0_5 0).bind fun t145 => (if t145 = true then (if a0_4 < 0 then (spec_fits.j1 kj16 true a0_0 a0_1 a0_2 a0_3 a0_4 a0_5 a0_6 a0_7 a0_8 t137 t138 t139 t140) else (if a0_4 > 64 then (spec_fits.j1 kj16 true a0_0 a0_1 a0_2 a0_3 a0_4 a0_5 a0_6 a0_7 a0_8 t137 t138 t139 t140) else (if a0_6 < 0 then (spec_fits.j1 kj16 true a0_0 a0_1 a0_2 a0_3 a0_4 a0_5 a0_6 a0_7 a0_8 t137 t138 t139 t140) else (spec_fits.j1 kj16 (decide (a0_6 > 64)) a0_0 a0_1 a0_2 a0_3 a0_4 a0_5 a0_6 a0_7 a0_8 t137 t138 t139 t140)))) else (spec_fits.j1 kj16 true a0_0 a0_1 a0_2 a0_3 a0_4 a0_5 a0_6 a0_7 a0_8 t137 t138 t139 t140))) else (spec_fits.j1 kj16 true a0_0 a0_1 a0_2 a0_3 a0_4 a0_5 a0_6 a0_7 a0_8 t137 t138 t139 t140))) = some r := by rw [if_neg (show ¬ (false = true) by decide)] at H; exact H
      clear H
      have H := H1
      clear H1
      have HC44 := Aside0.mk H
      clear H
      go_upto_region 9 with (fail)
      go_cut [97] (fun v97 wc => ∃ (kq : Nat) (x97_43 : Bool), v97 = .bool x97_43 ∧ Aside0 (spec_fits.j1 kq x97_43 a0_0 a0_1 a0_2 a0_3 a0_4 a0_5 a0_6 a0_7 a0_8 t137 t138 t139 t140 = some r) ∧ Aside0 (kq ≤ kj16) ∧ Aside0 (wc.heap[gb135]? = some (.cells #[.string a0_0, .int .i64 a0_1, .int .i64 a0_2, .int .i64 a0_3, .int .i64 a0_4, .int .i64 a0_5, .int .i64 a0_6, .int .i64 a0_7, .int .u8 a0_8] 35 (0, 0))) ∧ Aside0 (wc.heap[gb142]? = some (.cells #[.int .i64 t137, .string t138, .bool t139, .bool t140] 85 (0, 0))) ∧ Aside0 (Below w.heap.size w wc))
      case first =>
       have H := HC44.out
       clear HC44
       replace H := Option.bind_eq_some_iff.mp H
       obtain ⟨t144, A450, H⟩ := H
       replace H : (if t144 = true then ((spec_within.f a0_5 0).bind fun t145 => (if t145 = true then (if a0_4 < 0 then (spec_fits.j1 kj16 true a0_0 a0_1 a0_2 a0_3 a0_4 a0_5 a0_6 a0_7 a0_8 t137 t138 t139 t140) else (if a0_4 > 64 then (spec_fits.j1 kj16 true a0_0 a0_1 a0_2 a0_3 a0_4 a0_5 a0_6 a0_7 a0_8 t137 t138 t139 t140) else (if a0_6 < 0 then (spec_fits.j1 kj16 true a0_0 a0_1 a0_2 a0_3 a0_4 a0_5 a0_6 a0_7 a0_8 t137 t138 t139 t140) else (spec_fits.j1 kj16 (decide (a0_6 > 64)) a0_0 a0_1 a0_2 a0_3 a0_4 a0_5 a0_6 a0_7 a0_8 t137 t138 t139 t140)))) else (spec_fits.j1 kj16 true a0_0 a0_1 a0_2 a0_3 a0_4 a0_5 a0_6 a0_7 a0_8 t137 t138 t139 t140))) else (spec_fits.j1 kj16 true a0_0 a0_1 a0_2 a0_3 a0_4 a0_5 a0_6 a0_7 a0_8 t137 t138 t139 t140)) = some r := H
       have A45 := Aside0.mk A450
       clear A450
       by_cases c46 : t144 = true
       ·subst c46
        have H1 : ((spec_within.f a0_5 0).bind fun t145 => (if t145 = true then (if a0_4 < 0 then (spec_fits.j1 kj16 true a0_0 a0_1 a0_2 a0_3 a0_4 a0_5 a0_6 a0_7 a0_8 t137 t138 t139 t140) else (if a0_4 > 64 then (spec_fits.j1 kj16 true a0_0 a0_1 a0_2 a0_3 a0_4 a0_5 a0_6 a0_7 a0_8 t137 t138 t139 t140) else (if a0_6 < 0 then (spec_fits.j1 kj16 true a0_0 a0_1 a0_2 a0_3 a0_4 a0_5 a0_6 a0_7 a0_8 t137 t138 t139 t140) else (spec_fits.j1 kj16 (decide (a0_6 > 64)) a0_0 a0_1 a0_2 a0_3 a0_4 a0_5 a0_6 a0_7 a0_8 t137 t138 t139 t140)))) else (spec_fits.j1 kj16 true a0_0 a0_1 a0_2 a0_3 a0_4 a0_5 a0_6 a0_7 a0_8 t137 t138 t139 t140))) = some r := by rw [if_pos rfl] at H; exact H
        clear H
        have H := H1
        clear H1
        replace H := Option.bind_eq_some_iff.mp H
        obtain ⟨t145, A470, H⟩ := H
        replace H : (if t145 = true then (if a0_4 < 0 then (spec_fits.j1 kj16 true a0_0 a0_1 a0_2 a0_3 a0_4 a0_5 a0_6 a0_7 a0_8 t137 t138 t139 t140) else (if a0_4 > 64 then (spec_fits.j1 kj16 true a0_0 a0_1 a0_2 a0_3 a0_4 a0_5 a0_6 a0_7 a0_8 t137 t138 t139 t140) else (if a0_6 < 0 then (spec_fits.j1 kj16 true a0_0 a0_1 a0_2 a0_3 a0_4 a0_5 a0_6 a0_7 a0_8 t137 t138 t139 t140) else (spec_fits.j1 kj16 (decide (a0_6 > 64)) a0_0 a0_1 a0_2 a0_3 a0_4 a0_5 a0_6 a0_7 a0_8 t137 t138 t139 t140)))) else (spec_fits.j1 kj16 true a0_0 a0_1 a0_2 a0_3 a0_4 a0_5 a0_6 a0_7 a0_8 t137 t138 t139 t140)) = some r := H
        have A47 := Aside0.mk A470
        clear A470
        by_cases c48 : t145 = true
        ·subst c48
         have H1 : (if a0_4 < 0 then (spec_fits.j1 kj16 true a0_0 a0_1 a0_2 a0_3 a0_4 a0_5 a0_6 a0_7 a0_8 t137 t138 t139 t140) else (if a0_4 > 64 then (spec_fits.j1 kj16 true a0_0 a0_1 a0_2 a0_3 a0_4 a0_5 a0_6 a0_7 a0_8 t137 t138 t139 t140) else (if a0_6 < 0 then (spec_fits.j1 kj16 true a0_0 a0_1 a0_2 a0_3 a0_4 a0_5 a0_6 a0_7 a0_8 t137 t138 t139 t140) else (spec_fits.j1 kj16 (decide (a0_6 > 64)) a0_0 a0_1 a0_2 a0_3 a0_4 a0_5 a0_6 a0_7 a0_8 t137 t138 t139 t140)))) = some r := by rw [if_pos rfl] at H; exact H
         clear H
         have H := H1
         clear H1
         by_cases c49 : a0_4 < 0
         ·rw [if_pos c49] at H
          have c49b0 : decide (a0_4 < 0) = true := decide_eq_true c49
          clear c49
          (first | rw [c49b0] | (simp only [i64_w, i32_w]; rw [c49b0]) | skip)
          have H' := Aside0.mk H
          clear H
          have hnb50 := NB135_142.out
          have hnc50 := NB142_135.out
          obtain ⟨hcz51_0, hcz51_1, hcz51_2, hcz51_3, hcz51_4, hcz51_5, hcz51_6, hcz51_7, hcz51_8, hfz51_0, hfz51_1, hfz51_2, hfz51_3, hfz51_4, hfz51_5, hfz51_6, hfz51_7, hfz51_8⟩ : At9 wc gb135 (.string a0_0) (.int .i64 a0_1) (.int .i64 a0_2) (.int .i64 a0_3) (.int .i64 a0_4) (.int .i64 a0_5) (.int .i64 a0_6) (.int .i64 a0_7) (.int .u8 a0_8) := at9 BK135.out rfl
          go_wp2_with (first | ((with_reducible refine gate_callee (f := 77) rfl ?_); refine gL_ (some 70) rfl rfl Tryz.func77 rfl #[.int .i64 a0_3, .int .i64 1] rfl ?_; (with_reducible refine (spec_within.calls a0_3 1 true _ A45.out).mono ?_); rintro e w' ⟨rfl, ⟨nd, rfl⟩⟩; refine ⟨_, rfl, ?_⟩) | (go_at_call 77; (with_reducible refine (spec_within.calls a0_5 0 true _ A47.out).mono ?_); rintro e w' ⟨rfl, ⟨nd, rfl⟩⟩))
          go_meet
          case rel => exact ⟨_, (true), (by first | rfl | (simp; done) | (simp [*]; done)), H', ⟨by have := HJ16.out; first | omega | exact Nat.le_refl _⟩, ⟨by exact yK_ BK135.out⟩, ⟨by exact yK_ BK142.out⟩, ⟨by repeat (first | (with_reducible first | exact HB.out | apply bA_ | apply bN_ | apply bD_ | refine below_set ?_ GE135.out | refine below_set ?_ GE142.out) | exact HB.out)⟩⟩
         ·rw [if_neg c49] at H
          have c49b0 : decide (a0_4 < 0) = false := decide_eq_false c49
          clear c49
          (first | rw [c49b0] | (simp only [i64_w, i32_w]; rw [c49b0]) | skip)
          by_cases c52 : a0_4 > 64
          ·rw [if_pos c52] at H
           have c52b0 : decide (64 < a0_4) = true := decide_eq_true c52
           clear c52
           have H' := Aside0.mk H
           clear H
           have hnb53 := NB135_142.out
           have hnc53 := NB142_135.out
           obtain ⟨hcz54_0, hcz54_1, hcz54_2, hcz54_3, hcz54_4, hcz54_5, hcz54_6, hcz54_7, hcz54_8, hfz54_0, hfz54_1, hfz54_2, hfz54_3, hfz54_4, hfz54_5, hfz54_6, hfz54_7, hfz54_8⟩ : At9 wc gb135 (.string a0_0) (.int .i64 a0_1) (.int .i64 a0_2) (.int .i64 a0_3) (.int .i64 a0_4) (.int .i64 a0_5) (.int .i64 a0_6) (.int .i64 a0_7) (.int .u8 a0_8) := at9 BK135.out rfl
           go_wp2_with (first | ((with_reducible refine gate_callee (f := 77) rfl ?_); refine gL_ (some 70) rfl rfl Tryz.func77 rfl #[.int .i64 a0_3, .int .i64 1] rfl ?_; (with_reducible refine (spec_within.calls a0_3 1 true _ A45.out).mono ?_); rintro e w' ⟨rfl, ⟨nd, rfl⟩⟩; refine ⟨_, rfl, ?_⟩) | (go_at_call 77; (with_reducible refine (spec_within.calls a0_5 0 true _ A47.out).mono ?_); rintro e w' ⟨rfl, ⟨nd, rfl⟩⟩))
           go_meet
           case rel => exact ⟨_, (true), (by first | rfl | (simp; done) | (simp [*]; done)), H', ⟨by have := HJ16.out; first | omega | exact Nat.le_refl _⟩, ⟨by exact yK_ BK135.out⟩, ⟨by exact yK_ BK142.out⟩, ⟨by repeat (first | (with_reducible first | exact HB.out | apply bA_ | apply bN_ | apply bD_ | refine below_set ?_ GE135.out | refine below_set ?_ GE142.out) | exact HB.out)⟩⟩
          ·rw [if_neg c52] at H
           have c52b0 : decide (64 < a0_4) = false := decide_eq_false c52
           clear c52
           by_cases c55 : a0_6 < 0
           ·rw [if_pos c55] at H
            have c55b0 : decide (a0_6 < 0) = true := decide_eq_true c55
            clear c55
            have H' := Aside0.mk H
            clear H
            have hnb56 := NB135_142.out
            have hnc56 := NB142_135.out
            obtain ⟨hcz57_0, hcz57_1, hcz57_2, hcz57_3, hcz57_4, hcz57_5, hcz57_6, hcz57_7, hcz57_8, hfz57_0, hfz57_1, hfz57_2, hfz57_3, hfz57_4, hfz57_5, hfz57_6, hfz57_7, hfz57_8⟩ : At9 wc gb135 (.string a0_0) (.int .i64 a0_1) (.int .i64 a0_2) (.int .i64 a0_3) (.int .i64 a0_4) (.int .i64 a0_5) (.int .i64 a0_6) (.int .i64 a0_7) (.int .u8 a0_8) := at9 BK135.out rfl
            go_wp2_with (first | ((with_reducible refine gate_callee (f := 77) rfl ?_); refine gL_ (some 70) rfl rfl Tryz.func77 rfl #[.int .i64 a0_3, .int .i64 1] rfl ?_; (with_reducible refine (spec_within.calls a0_3 1 true _ A45.out).mono ?_); rintro e w' ⟨rfl, ⟨nd, rfl⟩⟩; refine ⟨_, rfl, ?_⟩) | (go_at_call 77; (with_reducible refine (spec_within.calls a0_5 0 true _ A47.out).mono ?_); rintro e w' ⟨rfl, ⟨nd, rfl⟩⟩))
            go_meet
            case rel => exact ⟨_, (true), (by first | rfl | (simp; done) | (simp [*]; done)), H', ⟨by have := HJ16.out; first | omega | exact Nat.le_refl _⟩, ⟨by exact yK_ BK135.out⟩, ⟨by exact yK_ BK142.out⟩, ⟨by repeat (first | (with_reducible first | exact HB.out | apply bA_ | apply bN_ | apply bD_ | refine below_set ?_ GE135.out | refine below_set ?_ GE142.out) | exact HB.out)⟩⟩
           ·rw [if_neg c55] at H
            have c55b0 : decide (a0_6 < 0) = false := decide_eq_false c55
            clear c55
            have H' := Aside0.mk H
            clear H
            have hnb58 := NB135_142.out
            have hnc58 := NB142_135.out
            obtain ⟨hcz59_0, hcz59_1, hcz59_2, hcz59_3, hcz59_4, hcz59_5, hcz59_6, hcz59_7, hcz59_8, hfz59_0, hfz59_1, hfz59_2, hfz59_3, hfz59_4, hfz59_5, hfz59_6, hfz59_7, hfz59_8⟩ : At9 wc gb135 (.string a0_0) (.int .i64 a0_1) (.int .i64 a0_2) (.int .i64 a0_3) (.int .i64 a0_4) (.int .i64 a0_5) (.int .i64 a0_6) (.int .i64 a0_7) (.int .u8 a0_8) := at9 BK135.out rfl
            go_wp2_with (first | ((with_reducible refine gate_callee (f := 77) rfl ?_); refine gL_ (some 70) rfl rfl Tryz.func77 rfl #[.int .i64 a0_3, .int .i64 1] rfl ?_; (with_reducible refine (spec_within.calls a0_3 1 true _ A45.out).mono ?_); rintro e w' ⟨rfl, ⟨nd, rfl⟩⟩; refine ⟨_, rfl, ?_⟩) | (go_at_call 77; (with_reducible refine (spec_within.calls a0_5 0 true _ A47.out).mono ?_); rintro e w' ⟨rfl, ⟨nd, rfl⟩⟩))
            go_meet
            case rel => exact ⟨_, (decide (a0_6 > 64)), (by first | rfl | (simp; done) | (simp [*]; done)), H', ⟨by have := HJ16.out; first | omega | exact Nat.le_refl _⟩, ⟨by exact yK_ BK135.out⟩, ⟨by exact yK_ BK142.out⟩, ⟨by repeat (first | (with_reducible first | exact HB.out | apply bA_ | apply bN_ | apply bD_ | refine below_set ?_ GE135.out | refine below_set ?_ GE142.out) | exact HB.out)⟩⟩
        ·replace c48 := Bool.eq_false_iff.mpr c48
         subst c48
         have H1 : (spec_fits.j1 kj16 true a0_0 a0_1 a0_2 a0_3 a0_4 a0_5 a0_6 a0_7 a0_8 t137 t138 t139 t140) = some r := by rw [if_neg (show ¬ (false = true) by decide)] at H; exact H
         clear H
         have H := H1
         clear H1
         have H' := Aside0.mk H
         clear H
         have hnb60 := NB135_142.out
         have hnc60 := NB142_135.out
         obtain ⟨hcz61_0, hcz61_1, hcz61_2, hcz61_3, hcz61_4, hcz61_5, hcz61_6, hcz61_7, hcz61_8, hfz61_0, hfz61_1, hfz61_2, hfz61_3, hfz61_4, hfz61_5, hfz61_6, hfz61_7, hfz61_8⟩ : At9 wc gb135 (.string a0_0) (.int .i64 a0_1) (.int .i64 a0_2) (.int .i64 a0_3) (.int .i64 a0_4) (.int .i64 a0_5) (.int .i64 a0_6) (.int .i64 a0_7) (.int .u8 a0_8) := at9 BK135.out rfl
         go_wp2_with (first | ((with_reducible refine gate_callee (f := 77) rfl ?_); refine gL_ (some 70) rfl rfl Tryz.func77 rfl #[.int .i64 a0_3, .int .i64 1] rfl ?_; (with_reducible refine (spec_within.calls a0_3 1 true _ A45.out).mono ?_); rintro e w' ⟨rfl, ⟨nd, rfl⟩⟩; refine ⟨_, rfl, ?_⟩) | (go_at_call 77; (with_reducible refine (spec_within.calls a0_5 0 false _ A47.out).mono ?_); rintro e w' ⟨rfl, ⟨nd, rfl⟩⟩))
         go_meet
         case rel => exact ⟨_, (true), (by first | rfl | (simp; done) | (simp [*]; done)), H', ⟨by have := HJ16.out; first | omega | exact Nat.le_refl _⟩, ⟨by exact yK_ BK135.out⟩, ⟨by exact yK_ BK142.out⟩, ⟨by repeat (first | (with_reducible first | exact HB.out | apply bA_ | apply bN_ | apply bD_ | refine below_set ?_ GE135.out | refine below_set ?_ GE142.out) | exact HB.out)⟩⟩
       ·replace c46 := Bool.eq_false_iff.mpr c46
        subst c46
        have H1 : (spec_fits.j1 kj16 true a0_0 a0_1 a0_2 a0_3 a0_4 a0_5 a0_6 a0_7 a0_8 t137 t138 t139 t140) = some r := by rw [if_neg (show ¬ (false = true) by decide)] at H; exact H
        clear H
        have H := H1
        clear H1
        have H' := Aside0.mk H
        clear H
        have hnb62 := NB135_142.out
        have hnc62 := NB142_135.out
        obtain ⟨hcz63_0, hcz63_1, hcz63_2, hcz63_3, hcz63_4, hcz63_5, hcz63_6, hcz63_7, hcz63_8, hfz63_0, hfz63_1, hfz63_2, hfz63_3, hfz63_4, hfz63_5, hfz63_6, hfz63_7, hfz63_8⟩ : At9 wc gb135 (.string a0_0) (.int .i64 a0_1) (.int .i64 a0_2) (.int .i64 a0_3) (.int .i64 a0_4) (.int .i64 a0_5) (.int .i64 a0_6) (.int .i64 a0_7) (.int .u8 a0_8) := at9 BK135.out rfl
        go_wp2_with (first | ((with_reducible refine gate_callee (f := 77) rfl ?_); refine gL_ (some 70) rfl rfl Tryz.func77 rfl #[.int .i64 a0_3, .int .i64 1] rfl ?_; (with_reducible refine (spec_within.calls a0_3 1 false _ A45.out).mono ?_); rintro e w' ⟨rfl, ⟨nd, rfl⟩⟩; refine ⟨_, rfl, ?_⟩))
        go_meet
        case rel => exact ⟨_, (true), (by first | rfl | (simp; done) | (simp [*]; done)), H', ⟨by have := HJ16.out; first | omega | exact Nat.le_refl _⟩, ⟨by exact yK_ BK135.out⟩, ⟨by exact yK_ BK142.out⟩, ⟨by repeat (first | (with_reducible first | exact HB.out | apply bA_ | apply bN_ | apply bD_ | refine below_set ?_ GE135.out | refine below_set ?_ GE142.out) | exact HB.out)⟩⟩
      case rest =>
       clear HC44
       try clear c1
       try clear c2
       try clear c2b0
       try clear c2b1
       try clear p2
       try clear c3
       try clear c3b0
       try clear c3b1
       try clear c3b2
       try clear c4
       try clear c4b0
       try clear c4b1
       try clear c5
       try clear c6
       try clear c7
       try clear c13
       try clear c13b0
       try clear c13b1
       try clear c22
       try clear c24
       try clear c25
       try clear c25b0
       try clear c25b1
       try clear c26
       try clear c26b0
       try clear c27
       try clear c29
       try clear c29b0
       try clear c30
       try clear c32
       try clear c32b0
       try clear c32b1
       try clear c34
       try clear c38
       try clear c41
       try clear c43
       try clear c46
       try clear c48
       try clear c49
       try clear c49b0
       try clear c50
       try clear c52
       try clear c52b0
       try clear c53
       try clear c55
       try clear c55b0
       try clear c56
       try clear c58
       try clear c60
       try clear c62
       try clear hcz12_0
       try clear hcz12_1
       try clear hcz12_2
       try clear hcz12_3
       try clear hcz12_4
       try clear hcz12_5
       try clear hcz12_6
       try clear hcz12_7
       try clear hcz12_8
       try clear hcz15_0
       try clear hcz15_1
       try clear hcz15_2
       try clear hcz15_3
       try clear hcz15_4
       try clear hcz15_5
       try clear hcz15_6
       try clear hcz15_7
       try clear hcz15_8
       try clear hcz19_0
       try clear hcz19_1
       try clear hcz19_2
       try clear hcz19_3
       try clear hcz19_4
       try clear hcz19_5
       try clear hcz19_6
       try clear hcz19_7
       try clear hcz19_8
       try clear hcz23_0
       try clear hcz23_1
       try clear hcz23_2
       try clear hcz23_3
       try clear hcz28_0
       try clear hcz28_1
       try clear hcz28_2
       try clear hcz28_3
       try clear hcz28_4
       try clear hcz28_5
       try clear hcz28_6
       try clear hcz28_7
       try clear hcz28_8
       try clear hcz31_0
       try clear hcz31_1
       try clear hcz31_2
       try clear hcz31_3
       try clear hcz31_4
       try clear hcz31_5
       try clear hcz31_6
       try clear hcz31_7
       try clear hcz31_8
       try clear hcz35_0
       try clear hcz35_1
       try clear hcz35_2
       try clear hcz35_3
       try clear hcz35_4
       try clear hcz35_5
       try clear hcz35_6
       try clear hcz35_7
       try clear hcz35_8
       try clear hcz36_0
       try clear hcz36_1
       try clear hcz36_2
       try clear hcz36_3
       try clear hcz39_0
       try clear hcz39_1
       try clear hcz39_2
       try clear hcz39_3
       try clear hcz39_4
       try clear hcz39_5
       try clear hcz39_6
       try clear hcz39_7
       try clear hcz39_8
       try clear hcz40_0
       try clear hcz40_1
       try clear hcz40_2
       try clear hcz40_3
       try clear hcz42_0
       try clear hcz42_1
       try clear hcz42_2
       try clear hcz42_3
       try clear hcz42_4
       try clear hcz42_5
       try clear hcz42_6
       try clear hcz42_7
       try clear hcz42_8
       try clear hcz51_0
       try clear hcz51_1
       try clear hcz51_2
       try clear hcz51_3
       try clear hcz51_4
       try clear hcz51_5
       try clear hcz51_6
       try clear hcz51_7
       try clear hcz51_8
       try clear hcz54_0
       try clear hcz54_1
       try clear hcz54_2
       try clear hcz54_3
       try clear hcz54_4
       try clear hcz54_5
       try clear hcz54_6
       try clear hcz54_7
       try clear hcz54_8
       try clear hcz57_0
       try clear hcz57_1
       try clear hcz57_2
       try clear hcz57_3
       try clear hcz57_4
       try clear hcz57_5
       try clear hcz57_6
       try clear hcz57_7
       try clear hcz57_8
       try clear hcz59_0
       try clear hcz59_1
       try clear hcz59_2
       try clear hcz59_3
       try clear hcz59_4
       try clear hcz59_5
       try clear hcz59_6
       try clear hcz59_7
       try clear hcz59_8
       try clear hcz61_0
       try clear hcz61_1
       try clear hcz61_2
       try clear hcz61_3
       try clear hcz61_4
       try clear hcz61_5
       try clear hcz61_6
       try clear hcz61_7
       try clear hcz61_8
       try clear hcz63_0
       try clear hcz63_1
       try clear hcz63_2
       try clear hcz63_3
       try clear hcz63_4
       try clear hcz63_5
       try clear hcz63_6
       try clear hcz63_7
       try clear hcz63_8
       try clear hcz6_0
       try clear hcz6_1
       try clear hcz6_2
       try clear hcz6_3
       try clear hcz6_4
       try clear hcz6_5
       try clear hcz6_6
       try clear hcz6_7
       try clear hcz6_8
       try clear hcz9_0
       try clear hcz9_1
       try clear hcz9_2
       try clear hcz9_3
       try clear hcz9_4
       try clear hcz9_5
       try clear hcz9_6
       try clear hcz9_7
       try clear hcz9_8
       try clear hfz12_0
       try clear hfz12_1
       try clear hfz12_2
       try clear hfz12_3
       try clear hfz12_4
       try clear hfz12_5
       try clear hfz12_6
       try clear hfz12_7
       try clear hfz12_8
       try clear hfz15_0
       try clear hfz15_1
       try clear hfz15_2
       try clear hfz15_3
       try clear hfz15_4
       try clear hfz15_5
       try clear hfz15_6
       try clear hfz15_7
       try clear hfz15_8
       try clear hfz19_0
       try clear hfz19_1
       try clear hfz19_2
       try clear hfz19_3
       try clear hfz19_4
       try clear hfz19_5
       try clear hfz19_6
       try clear hfz19_7
       try clear hfz19_8
       try clear hfz23_0
       try clear hfz23_1
       try clear hfz23_2
       try clear hfz23_3
       try clear hfz28_0
       try clear hfz28_1
       try clear hfz28_2
       try clear hfz28_3
       try clear hfz28_4
       try clear hfz28_5
       try clear hfz28_6
       try clear hfz28_7
       try clear hfz28_8
       try clear hfz31_0
       try clear hfz31_1
       try clear hfz31_2
       try clear hfz31_3
       try clear hfz31_4
       try clear hfz31_5
       try clear hfz31_6
       try clear hfz31_7
       try clear hfz31_8
       try clear hfz35_0
       try clear hfz35_1
       try clear hfz35_2
       try clear hfz35_3
       try clear hfz35_4
       try clear hfz35_5
       try clear hfz35_6
       try clear hfz35_7
       try clear hfz35_8
       try clear hfz36_0
       try clear hfz36_1
       try clear hfz36_2
       try clear hfz36_3
       try clear hfz39_0
       try clear hfz39_1
       try clear hfz39_2
       try clear hfz39_3
       try clear hfz39_4
       try clear hfz39_5
       try clear hfz39_6
       try clear hfz39_7
       try clear hfz39_8
       try clear hfz40_0
       try clear hfz40_1
       try clear hfz40_2
       try clear hfz40_3
       try clear hfz42_0
       try clear hfz42_1
       try clear hfz42_2
       try clear hfz42_3
       try clear hfz42_4
       try clear hfz42_5
       try clear hfz42_6
       try clear hfz42_7
       try clear hfz42_8
       try clear hfz51_0
       try clear hfz51_1
       try clear hfz51_2
       try clear hfz51_3
       try clear hfz51_4
       try clear hfz51_5
       try clear hfz51_6
       try clear hfz51_7
       try clear hfz51_8
       try clear hfz54_0
       try clear hfz54_1
       try clear hfz54_2
       try clear hfz54_3
       try clear hfz54_4
       try clear hfz54_5
       try clear hfz54_6
       try clear hfz54_7
       try clear hfz54_8
       try clear hfz57_0
       try clear hfz57_1
       try clear hfz57_2
       try clear hfz57_3
       try clear hfz57_4
       try clear hfz57_5
       try clear hfz57_6
       try clear hfz57_7
       try clear hfz57_8
       try clear hfz59_0
       try clear hfz59_1
       try clear hfz59_2
       try clear hfz59_3
       try clear hfz59_4
       try clear hfz59_5
       try clear hfz59_6
       try clear hfz59_7
       try clear hfz59_8
       try clear hfz61_0
       try clear hfz61_1
       try clear hfz61_2
       try clear hfz61_3
       try clear hfz61_4
       try clear hfz61_5
       try clear hfz61_6
       try clear hfz61_7
       try clear hfz61_8
       try clear hfz63_0
       try clear hfz63_1
       try clear hfz63_2
       try clear hfz63_3
       try clear hfz63_4
       try clear hfz63_5
       try clear hfz63_6
       try clear hfz63_7
       try clear hfz63_8
       try clear hfz6_0
       try clear hfz6_1
       try clear hfz6_2
       try clear hfz6_3
       try clear hfz6_4
       try clear hfz6_5
       try clear hfz6_6
       try clear hfz6_7
       try clear hfz6_8
       try clear hfz9_0
       try clear hfz9_1
       try clear hfz9_2
       try clear hfz9_3
       try clear hfz9_4
       try clear hfz9_5
       try clear hfz9_6
       try clear hfz9_7
       try clear hfz9_8
       try clear p2
       obtain ⟨kq, x97_43, rfl, HA, HJ43, BK135, BK142, HB⟩ := hcut
       cases kq with
       | zero => exact absurd HA.out (by simp [spec_fits.j1])
       | succ kj43 =>
        have H := HA.out
        clear HA
        simp only [spec_fits.j1] at H
        by_cases c64 : x97_43 = true
        ·subst c64
         have H1 : (some false) = some r := by rw [if_pos rfl] at H; exact H
         clear H
         have H := H1
         clear H1
         obtain rfl := Option.some.inj H
         go_wp2
         go_ret
         exact ⟨yE_, by repeat (first | (with_reducible first | exact HB.out | apply bA_ | apply bN_ | apply bD_ | refine below_set ?_ GE135.out | refine below_set ?_ GE142.out) | exact HB.out)⟩
        ·replace c64 := Bool.eq_false_iff.mpr c64
         subst c64
         have H1 : (if a0_4 = 0 then (if a0_6 = 0 then (if t139 = true then (if t140 = true then (some true) else (if a0_5 = (-1) then (some (a0_6 == 0)) else (some false))) else (if a0_3 = (-1) then (if t140 = true then (some true) else (if a0_5 = (-1) then (some (a0_6 == 0)) else (some false))) else (some false))) else (if a0_5 = (-1) then (if t139 = true then (if t140 = true then (some true) else (some (a0_6 == 0))) else (if a0_3 = (-1) then (if t140 = true then (some true) else (some (a0_6 == 0))) else (some false))) else (some false))) else (if a0_3 = (-1) then (if a0_6 = 0 then (if t139 = true then (if t140 = true then (some true) else (if a0_5 = (-1) then (some (a0_6 == 0)) else (some false))) else (some false)) else (if a0_5 = (-1) then (if t139 = true then (if t140 = true then (some true) else (some (a0_6 == 0))) else (some false)) else (some false))) else (some false))) = some r := by rw [if_neg (show ¬ (false = true) by decide)] at H; exact H
         clear H
         have H := H1
         clear H1
         by_cases c65 : a0_4 = 0
         ·rw [if_pos c65] at H
          have c65b0 : (a0_4 == 0) = true := beq_iff_eq.mpr c65
          have c65b1 : (a0_4 != 0) = false := bne_eq_false_iff_eq.mpr c65
          clear c65
          by_cases c66 : a0_6 = 0
          ·rw [if_pos c66] at H
           have c66b0 : (a0_6 == 0) = true := beq_iff_eq.mpr c66
           have c66b1 : (a0_6 != 0) = false := bne_eq_false_iff_eq.mpr c66
           clear c66
           by_cases c67 : t139 = true
           ·subst c67
            have H1 : (if t140 = true then (some true) else (if a0_5 = (-1) then (some (a0_6 == 0)) else (some false))) = some r := by rw [if_pos rfl] at H; exact H
            clear H
            have H := H1
            clear H1
            by_cases c68 : t140 = true
            ·subst c68
             have H1 : (some true) = some r := by rw [if_pos rfl] at H; exact H
             clear H
             have H := H1
             clear H1
             obtain rfl := Option.some.inj H
             have hnb69 := NB135_142.out
             have hnc69 := NB142_135.out
             obtain ⟨hcz70_0, hcz70_1, hcz70_2, hcz70_3, hcz70_4, hcz70_5, hcz70_6, hcz70_7, hcz70_8, hfz70_0, hfz70_1, hfz70_2, hfz70_3, hfz70_4, hfz70_5, hfz70_6, hfz70_7, hfz70_8⟩ : At9 wc gb135 (.string a0_0) (.int .i64 a0_1) (.int .i64 a0_2) (.int .i64 a0_3) (.int .i64 a0_4) (.int .i64 a0_5) (.int .i64 a0_6) (.int .i64 a0_7) (.int .u8 a0_8) := at9 BK135.out rfl
             have hcz71_0 : wc.cell? ⟨gb142, 0, none⟩ = some (.int .i64 t137) := (blk_cell BK142.out 0).trans rfl
             have hcz71_1 : wc.cell? ⟨gb142, 1, none⟩ = some (.string t138) := (blk_cell BK142.out 1).trans rfl
             have hcz71_2 : wc.cell? ⟨gb142, 2, none⟩ = some (.bool true) := (blk_cell BK142.out 2).trans rfl
             have hcz71_3 : wc.cell? ⟨gb142, 3, none⟩ = some (.bool true) := (blk_cell BK142.out 3).trans rfl
             have hfz71_0 := blk_frozen BK142.out 0
             have hfz71_1 := blk_frozen BK142.out 1
             have hfz71_2 := blk_frozen BK142.out 2
             have hfz71_3 := blk_frozen BK142.out 3
             go_wp2
             go_ret
             exact ⟨yE_, by repeat (first | (with_reducible first | exact HB.out | apply bA_ | apply bN_ | apply bD_ | refine below_set ?_ GE135.out | refine below_set ?_ GE142.out) | exact HB.out)⟩
            ·replace c68 := Bool.eq_false_iff.mpr c68
             subst c68
             have H1 : (if a0_5 = (-1) then (some (a0_6 == 0)) else (some false)) = some r := by rw [if_neg (show ¬ (false = true) by decide)] at H; exact H
             clear H
             have H := H1
             clear H1
             by_cases c72 : a0_5 = (-1)
             ·rw [if_pos c72] at H
              have c72b0 : (a0_5 == (-1)) = true := beq_iff_eq.mpr c72
              have c72b1 : (a0_5 != (-1)) = false := bne_eq_false_iff_eq.mpr c72
              clear c72
              obtain rfl := Option.some.inj H
              have hnb73 := NB135_142.out
              have hnc73 := NB142_135.out
              obtain ⟨hcz74_0, hcz74_1, hcz74_2, hcz74_3, hcz74_4, hcz74_5, hcz74_6, hcz74_7, hcz74_8, hfz74_0, hfz74_1, hfz74_2, hfz74_3, hfz74_4, hfz74_5, hfz74_6, hfz74_7, hfz74_8⟩ : At9 wc gb135 (.string a0_0) (.int .i64 a0_1) (.int .i64 a0_2) (.int .i64 a0_3) (.int .i64 a0_4) (.int .i64 a0_5) (.int .i64 a0_6) (.int .i64 a0_7) (.int .u8 a0_8) := at9 BK135.out rfl
              have hcz75_0 : wc.cell? ⟨gb142, 0, none⟩ = some (.int .i64 t137) := (blk_cell BK142.out 0).trans rfl
              have hcz75_1 : wc.cell? ⟨gb142, 1, none⟩ = some (.string t138) := (blk_cell BK142.out 1).trans rfl
              have hcz75_2 : wc.cell? ⟨gb142, 2, none⟩ = some (.bool true) := (blk_cell BK142.out 2).trans rfl
              have hcz75_3 : wc.cell? ⟨gb142, 3, none⟩ = some (.bool false) := (blk_cell BK142.out 3).trans rfl
              have hfz75_0 := blk_frozen BK142.out 0
              have hfz75_1 := blk_frozen BK142.out 1
              have hfz75_2 := blk_frozen BK142.out 2
              have hfz75_3 := blk_frozen BK142.out 3
              go_wp2
              go_ret
              exact ⟨yE_, by repeat (first | (with_reducible first | exact HB.out | apply bA_ | apply bN_ | apply bD_ | refine below_set ?_ GE135.out | refine below_set ?_ GE142.out) | exact HB.out)⟩
             ·rw [if_neg c72] at H
              have c72b0 : (a0_5 == (-1)) = false := beq_eq_false_iff_ne.mpr c72
              have c72b1 : (a0_5 != (-1)) = true := bne_iff_ne.mpr c72
              obtain rfl := Option.some.inj H
              have hnb76 := NB135_142.out
              have hnc76 := NB142_135.out
              obtain ⟨hcz77_0, hcz77_1, hcz77_2, hcz77_3, hcz77_4, hcz77_5, hcz77_6, hcz77_7, hcz77_8, hfz77_0, hfz77_1, hfz77_2, hfz77_3, hfz77_4, hfz77_5, hfz77_6, hfz77_7, hfz77_8⟩ : At9 wc gb135 (.string a0_0) (.int .i64 a0_1) (.int .i64 a0_2) (.int .i64 a0_3) (.int .i64 a0_4) (.int .i64 a0_5) (.int .i64 a0_6) (.int .i64 a0_7) (.int .u8 a0_8) := at9 BK135.out rfl
              have hcz78_0 : wc.cell? ⟨gb142, 0, none⟩ = some (.int .i64 t137) := (blk_cell BK142.out 0).trans rfl
              have hcz78_1 : wc.cell? ⟨gb142, 1, none⟩ = some (.string t138) := (blk_cell BK142.out 1).trans rfl
              have hcz78_2 : wc.cell? ⟨gb142, 2, none⟩ = some (.bool true) := (blk_cell BK142.out 2).trans rfl
              have hcz78_3 : wc.cell? ⟨gb142, 3, none⟩ = some (.bool false) := (blk_cell BK142.out 3).trans rfl
              have hfz78_0 := blk_frozen BK142.out 0
              have hfz78_1 := blk_frozen BK142.out 1
              have hfz78_2 := blk_frozen BK142.out 2
              have hfz78_3 := blk_frozen BK142.out 3
              go_wp2
              go_ret
              exact ⟨yE_, by repeat (first | (with_reducible first | exact HB.out | apply bA_ | apply bN_ | apply bD_ | refine below_set ?_ GE135.out | refine below_set ?_ GE142.out) | exact HB.out)⟩
           ·replace c67 := Bool.eq_false_iff.mpr c67
            subst c67
            have H1 : (if a0_3 = (-1) then (if t140 = true then (some true) else (if a0_5 = (-1) then (some (a0_6 == 0)) else (some false))) else (some false)) = some r := by rw [if_neg (show ¬ (false = true) by decide)] at H; exact H
            clear H
            have H := H1
            clear H1
            by_cases c79 : a0_3 = (-1)
            ·rw [if_pos c79] at H
             have c79b0 : (a0_3 == (-1)) = true := beq_iff_eq.mpr c79
             have c79b1 : (a0_3 != (-1)) = false := bne_eq_false_iff_eq.mpr c79
             clear c79
             by_cases c80 : t140 = true
             ·subst c80
              have H1 : (some true) = some r := by rw [if_pos rfl] at H; exact H
              clear H
              have H := H1
              clear H1
              obtain rfl := Option.some.inj H
              have hnb81 := NB135_142.out
              have hnc81 := NB142_135.out
              obtain ⟨hcz82_0, hcz82_1, hcz82_2, hcz82_3, hcz82_4, hcz82_5, hcz82_6, hcz82_7, hcz82_8, hfz82_0, hfz82_1, hfz82_2, hfz82_3, hfz82_4, hfz82_5, hfz82_6, hfz82_7, hfz82_8⟩ : At9 wc gb135 (.string a0_0) (.int .i64 a0_1) (.int .i64 a0_2) (.int .i64 a0_3) (.int .i64 a0_4) (.int .i64 a0_5) (.int .i64 a0_6) (.int .i64 a0_7) (.int .u8 a0_8) := at9 BK135.out rfl
              have hcz83_0 : wc.cell? ⟨gb142, 0, none⟩ = some (.int .i64 t137) := (blk_cell BK142.out 0).trans rfl
              have hcz83_1 : wc.cell? ⟨gb142, 1, none⟩ = some (.string t138) := (blk_cell BK142.out 1).trans rfl
              have hcz83_2 : wc.cell? ⟨gb142, 2, none⟩ = some (.bool false) := (blk_cell BK142.out 2).trans rfl
              have hcz83_3 : wc.cell? ⟨gb142, 3, none⟩ = some (.bool true) := (blk_cell BK142.out 3).trans rfl
              have hfz83_0 := blk_frozen BK142.out 0
              have hfz83_1 := blk_frozen BK142.out 1
              have hfz83_2 := blk_frozen BK142.out 2
              have hfz83_3 := blk_frozen BK142.out 3
              go_wp2
              go_ret
              exact ⟨yE_, by repeat (first | (with_reducible first | exact HB.out | apply bA_ | apply bN_ | apply bD_ | refine below_set ?_ GE135.out | refine below_set ?_ GE142.out) | exact HB.out)⟩
             ·replace c80 := Bool.eq_false_iff.mpr c80
              subst c80
              have H1 : (if a0_5 = (-1) then (some (a0_6 == 0)) else (some false)) = some r := by rw [if_neg (show ¬ (false = true) by decide)] at H; exact H
              clear H
              have H := H1
              clear H1
              by_cases c84 : a0_5 = (-1)
              ·rw [if_pos c84] at H
               have c84b0 : (a0_5 == (-1)) = true := beq_iff_eq.mpr c84
               have c84b1 : (a0_5 != (-1)) = false := bne_eq_false_iff_eq.mpr c84
               clear c84
               obtain rfl := Option.some.inj H
               have hnb85 := NB135_142.out
               have hnc85 := NB142_135.out
               obtain ⟨hcz86_0, hcz86_1, hcz86_2, hcz86_3, hcz86_4, hcz86_5, hcz86_6, hcz86_7, hcz86_8, hfz86_0, hfz86_1, hfz86_2, hfz86_3, hfz86_4, hfz86_5, hfz86_6, hfz86_7, hfz86_8⟩ : At9 wc gb135 (.string a0_0) (.int .i64 a0_1) (.int .i64 a0_2) (.int .i64 a0_3) (.int .i64 a0_4) (.int .i64 a0_5) (.int .i64 a0_6) (.int .i64 a0_7) (.int .u8 a0_8) := at9 BK135.out rfl
               have hcz87_0 : wc.cell? ⟨gb142, 0, none⟩ = some (.int .i64 t137) := (blk_cell BK142.out 0).trans rfl
               have hcz87_1 : wc.cell? ⟨gb142, 1, none⟩ = some (.string t138) := (blk_cell BK142.out 1).trans rfl
               have hcz87_2 : wc.cell? ⟨gb142, 2, none⟩ = some (.bool false) := (blk_cell BK142.out 2).trans rfl
               have hcz87_3 : wc.cell? ⟨gb142, 3, none⟩ = some (.bool false) := (blk_cell BK142.out 3).trans rfl
               have hfz87_0 := blk_frozen BK142.out 0
               have hfz87_1 := blk_frozen BK142.out 1
               have hfz87_2 := blk_frozen BK142.out 2
               have hfz87_3 := blk_frozen BK142.out 3
               go_wp2
               go_ret
               exact ⟨yE_, by repeat (first | (with_reducible first | exact HB.out | apply bA_ | apply bN_ | apply bD_ | refine below_set ?_ GE135.out | refine below_set ?_ GE142.out) | exact HB.out)⟩
              ·rw [if_neg c84] at H
               have c84b0 : (a0_5 == (-1)) = false := beq_eq_false_iff_ne.mpr c84
               have c84b1 : (a0_5 != (-1)) = true := bne_iff_ne.mpr c84
               obtain rfl := Option.some.inj H
               have hnb88 := NB135_142.out
               have hnc88 := NB142_135.out
               obtain ⟨hcz89_0, hcz89_1, hcz89_2, hcz89_3, hcz89_4, hcz89_5, hcz89_6, hcz89_7, hcz89_8, hfz89_0, hfz89_1, hfz89_2, hfz89_3, hfz89_4, hfz89_5, hfz89_6, hfz89_7, hfz89_8⟩ : At9 wc gb135 (.string a0_0) (.int .i64 a0_1) (.int .i64 a0_2) (.int .i64 a0_3) (.int .i64 a0_4) (.int .i64 a0_5) (.int .i64 a0_6) (.int .i64 a0_7) (.int .u8 a0_8) := at9 BK135.out rfl
               have hcz90_0 : wc.cell? ⟨gb142, 0, none⟩ = some (.int .i64 t137) := (blk_cell BK142.out 0).trans rfl
               have hcz90_1 : wc.cell? ⟨gb142, 1, none⟩ = some (.string t138) := (blk_cell BK142.out 1).trans rfl
               have hcz90_2 : wc.cell? ⟨gb142, 2, none⟩ = some (.bool false) := (blk_cell BK142.out 2).trans rfl
               have hcz90_3 : wc.cell? ⟨gb142, 3, none⟩ = some (.bool false) := (blk_cell BK142.out 3).trans rfl
               have hfz90_0 := blk_frozen BK142.out 0
               have hfz90_1 := blk_frozen BK142.out 1
               have hfz90_2 := blk_frozen BK142.out 2
               have hfz90_3 := blk_frozen BK142.out 3
               go_wp2
               go_ret
               exact ⟨yE_, by repeat (first | (with_reducible first | exact HB.out | apply bA_ | apply bN_ | apply bD_ | refine below_set ?_ GE135.out | refine below_set ?_ GE142.out) | exact HB.out)⟩
            ·rw [if_neg c79] at H
             have c79b0 : (a0_3 == (-1)) = false := beq_eq_false_iff_ne.mpr c79
             have c79b1 : (a0_3 != (-1)) = true := bne_iff_ne.mpr c79
             obtain rfl := Option.some.inj H
             have hnb91 := NB135_142.out
             have hnc91 := NB142_135.out
             obtain ⟨hcz92_0, hcz92_1, hcz92_2, hcz92_3, hcz92_4, hcz92_5, hcz92_6, hcz92_7, hcz92_8, hfz92_0, hfz92_1, hfz92_2, hfz92_3, hfz92_4, hfz92_5, hfz92_6, hfz92_7, hfz92_8⟩ : At9 wc gb135 (.string a0_0) (.int .i64 a0_1) (.int .i64 a0_2) (.int .i64 a0_3) (.int .i64 a0_4) (.int .i64 a0_5) (.int .i64 a0_6) (.int .i64 a0_7) (.int .u8 a0_8) := at9 BK135.out rfl
             have hcz93_0 : wc.cell? ⟨gb142, 0, none⟩ = some (.int .i64 t137) := (blk_cell BK142.out 0).trans rfl
             have hcz93_1 : wc.cell? ⟨gb142, 1, none⟩ = some (.string t138) := (blk_cell BK142.out 1).trans rfl
             have hcz93_2 : wc.cell? ⟨gb142, 2, none⟩ = some (.bool false) := (blk_cell BK142.out 2).trans rfl
             have hcz93_3 : wc.cell? ⟨gb142, 3, none⟩ = some (.bool t140) := (blk_cell BK142.out 3).trans rfl
             have hfz93_0 := blk_frozen BK142.out 0
             have hfz93_1 := blk_frozen BK142.out 1
             have hfz93_2 := blk_frozen BK142.out 2
             have hfz93_3 := blk_frozen BK142.out 3
             go_wp2
             go_ret
             exact ⟨yE_, by repeat (first | (with_reducible first | exact HB.out | apply bA_ | apply bN_ | apply bD_ | refine below_set ?_ GE135.out | refine below_set ?_ GE142.out) | exact HB.out)⟩
          ·rw [if_neg c66] at H
           have c66b0 : (a0_6 == 0) = false := beq_eq_false_iff_ne.mpr c66
           have c66b1 : (a0_6 != 0) = true := bne_iff_ne.mpr c66
           by_cases c94 : a0_5 = (-1)
           ·rw [if_pos c94] at H
            have c94b0 : (a0_5 == (-1)) = true := beq_iff_eq.mpr c94
            have c94b1 : (a0_5 != (-1)) = false := bne_eq_false_iff_eq.mpr c94
            clear c94
            by_cases c95 : t139 = true
            ·subst c95
             have H1 : (if t140 = true then (some true) else (some (a0_6 == 0))) = some r := by rw [if_pos rfl] at H; exact H
             clear H
             have H := H1
             clear H1
             by_cases c96 : t140 = true
             ·subst c96
              have H1 : (some true) = some r := by rw [if_pos rfl] at H; exact H
              clear H
              have H := H1
              clear H1
              obtain rfl := Option.some.inj H
              have hnb97 := NB135_142.out
              have hnc97 := NB142_135.out
              obtain ⟨hcz98_0, hcz98_1, hcz98_2, hcz98_3, hcz98_4, hcz98_5, hcz98_6, hcz98_7, hcz98_8, hfz98_0, hfz98_1, hfz98_2, hfz98_3, hfz98_4, hfz98_5, hfz98_6, hfz98_7, hfz98_8⟩ : At9 wc gb135 (.string a0_0) (.int .i64 a0_1) (.int .i64 a0_2) (.int .i64 a0_3) (.int .i64 a0_4) (.int .i64 a0_5) (.int .i64 a0_6) (.int .i64 a0_7) (.int .u8 a0_8) := at9 BK135.out rfl
              have hcz99_0 : wc.cell? ⟨gb142, 0, none⟩ = some (.int .i64 t137) := (blk_cell BK142.out 0).trans rfl
              have hcz99_1 : wc.cell? ⟨gb142, 1, none⟩ = some (.string t138) := (blk_cell BK142.out 1).trans rfl
              have hcz99_2 : wc.cell? ⟨gb142, 2, none⟩ = some (.bool true) := (blk_cell BK142.out 2).trans rfl
              have hcz99_3 : wc.cell? ⟨gb142, 3, none⟩ = some (.bool true) := (blk_cell BK142.out 3).trans rfl
              have hfz99_0 := blk_frozen BK142.out 0
              have hfz99_1 := blk_frozen BK142.out 1
              have hfz99_2 := blk_frozen BK142.out 2
              have hfz99_3 := blk_frozen BK142.out 3
              go_wp2
              go_ret
              exact ⟨yE_, by repeat (first | (with_reducible first | exact HB.out | apply bA_ | apply bN_ | apply bD_ | refine below_set ?_ GE135.out | refine below_set ?_ GE142.out) | exact HB.out)⟩
             ·replace c96 := Bool.eq_false_iff.mpr c96
              subst c96
              have H1 : (some (a0_6 == 0)) = some r := by rw [if_neg (show ¬ (false = true) by decide)] at H; exact H
              clear H
              have H := H1
              clear H1
              obtain rfl := Option.some.inj H
              have hnb100 := NB135_142.out
              have hnc100 := NB142_135.out
              obtain ⟨hcz101_0, hcz101_1, hcz101_2, hcz101_3, hcz101_4, hcz101_5, hcz101_6, hcz101_7, hcz101_8, hfz101_0, hfz101_1, hfz101_2, hfz101_3, hfz101_4, hfz101_5, hfz101_6, hfz101_7, hfz101_8⟩ : At9 wc gb135 (.string a0_0) (.int .i64 a0_1) (.int .i64 a0_2) (.int .i64 a0_3) (.int .i64 a0_4) (.int .i64 a0_5) (.int .i64 a0_6) (.int .i64 a0_7) (.int .u8 a0_8) := at9 BK135.out rfl
              have hcz102_0 : wc.cell? ⟨gb142, 0, none⟩ = some (.int .i64 t137) := (blk_cell BK142.out 0).trans rfl
              have hcz102_1 : wc.cell? ⟨gb142, 1, none⟩ = some (.string t138) := (blk_cell BK142.out 1).trans rfl
              have hcz102_2 : wc.cell? ⟨gb142, 2, none⟩ = some (.bool true) := (blk_cell BK142.out 2).trans rfl
              have hcz102_3 : wc.cell? ⟨gb142, 3, none⟩ = some (.bool false) := (blk_cell BK142.out 3).trans rfl
              have hfz102_0 := blk_frozen BK142.out 0
              have hfz102_1 := blk_frozen BK142.out 1
              have hfz102_2 := blk_frozen BK142.out 2
              have hfz102_3 := blk_frozen BK142.out 3
              go_wp2
              go_ret
              exact ⟨yE_, by repeat (first | (with_reducible first | exact HB.out | apply bA_ | apply bN_ | apply bD_ | refine below_set ?_ GE135.out | refine below_set ?_ GE142.out) | exact HB.out)⟩
            ·replace c95 := Bool.eq_false_iff.mpr c95
             subst c95
             have H1 : (if a0_3 = (-1) then (if t140 = true then (some true) else (some (a0_6 == 0))) else (some false)) = some r := by rw [if_neg (show ¬ (false = true) by decide)] at H; exact H
             clear H
             have H := H1
             clear H1
             by_cases c103 : a0_3 = (-1)
             ·rw [if_pos c103] at H
              have c103b0 : (a0_3 == (-1)) = true := beq_iff_eq.mpr c103
              have c103b1 : (a0_3 != (-1)) = false := bne_eq_false_iff_eq.mpr c103
              clear c103
              by_cases c104 : t140 = true
              ·subst c104
               have H1 : (some true) = some r := by rw [if_pos rfl] at H; exact H
               clear H
               have H := H1
               clear H1
               obtain rfl := Option.some.inj H
               have hnb105 := NB135_142.out
               have hnc105 := NB142_135.out
               obtain ⟨hcz106_0, hcz106_1, hcz106_2, hcz106_3, hcz106_4, hcz106_5, hcz106_6, hcz106_7, hcz106_8, hfz106_0, hfz106_1, hfz106_2, hfz106_3, hfz106_4, hfz106_5, hfz106_6, hfz106_7, hfz106_8⟩ : At9 wc gb135 (.string a0_0) (.int .i64 a0_1) (.int .i64 a0_2) (.int .i64 a0_3) (.int .i64 a0_4) (.int .i64 a0_5) (.int .i64 a0_6) (.int .i64 a0_7) (.int .u8 a0_8) := at9 BK135.out rfl
               have hcz107_0 : wc.cell? ⟨gb142, 0, none⟩ = some (.int .i64 t137) := (blk_cell BK142.out 0).trans rfl
               have hcz107_1 : wc.cell? ⟨gb142, 1, none⟩ = some (.string t138) := (blk_cell BK142.out 1).trans rfl
               have hcz107_2 : wc.cell? ⟨gb142, 2, none⟩ = some (.bool false) := (blk_cell BK142.out 2).trans rfl
               have hcz107_3 : wc.cell? ⟨gb142, 3, none⟩ = some (.bool true) := (blk_cell BK142.out 3).trans rfl
               have hfz107_0 := blk_frozen BK142.out 0
               have hfz107_1 := blk_frozen BK142.out 1
               have hfz107_2 := blk_frozen BK142.out 2
               have hfz107_3 := blk_frozen BK142.out 3
               go_wp2
               go_ret
               exact ⟨yE_, by repeat (first | (with_reducible first | exact HB.out | apply bA_ | apply bN_ | apply bD_ | refine below_set ?_ GE135.out | refine below_set ?_ GE142.out) | exact HB.out)⟩
              ·replace c104 := Bool.eq_false_iff.mpr c104
               subst c104
               have H1 : (some (a0_6 == 0)) = some r := by rw [if_neg (show ¬ (false = true) by decide)] at H; exact H
               clear H
               have H := H1
               clear H1
               obtain rfl := Option.some.inj H
               have hnb108 := NB135_142.out
               have hnc108 := NB142_135.out
               obtain ⟨hcz109_0, hcz109_1, hcz109_2, hcz109_3, hcz109_4, hcz109_5, hcz109_6, hcz109_7, hcz109_8, hfz109_0, hfz109_1, hfz109_2, hfz109_3, hfz109_4, hfz109_5, hfz109_6, hfz109_7, hfz109_8⟩ : At9 wc gb135 (.string a0_0) (.int .i64 a0_1) (.int .i64 a0_2) (.int .i64 a0_3) (.int .i64 a0_4) (.int .i64 a0_5) (.int .i64 a0_6) (.int .i64 a0_7) (.int .u8 a0_8) := at9 BK135.out rfl
               have hcz110_0 : wc.cell? ⟨gb142, 0, none⟩ = some (.int .i64 t137) := (blk_cell BK142.out 0).trans rfl
               have hcz110_1 : wc.cell? ⟨gb142, 1, none⟩ = some (.string t138) := (blk_cell BK142.out 1).trans rfl
               have hcz110_2 : wc.cell? ⟨gb142, 2, none⟩ = some (.bool false) := (blk_cell BK142.out 2).trans rfl
               have hcz110_3 : wc.cell? ⟨gb142, 3, none⟩ = some (.bool false) := (blk_cell BK142.out 3).trans rfl
               have hfz110_0 := blk_frozen BK142.out 0
               have hfz110_1 := blk_frozen BK142.out 1
               have hfz110_2 := blk_frozen BK142.out 2
               have hfz110_3 := blk_frozen BK142.out 3
               go_wp2
               go_ret
               exact ⟨yE_, by repeat (first | (with_reducible first | exact HB.out | apply bA_ | apply bN_ | apply bD_ | refine below_set ?_ GE135.out | refine below_set ?_ GE142.out) | exact HB.out)⟩
             ·rw [if_neg c103] at H
              have c103b0 : (a0_3 == (-1)) = false := beq_eq_false_iff_ne.mpr c103
              have c103b1 : (a0_3 != (-1)) = true := bne_iff_ne.mpr c103
              obtain rfl := Option.some.inj H
              have hnb111 := NB135_142.out
              have hnc111 := NB142_135.out
              obtain ⟨hcz112_0, hcz112_1, hcz112_2, hcz112_3, hcz112_4, hcz112_5, hcz112_6, hcz112_7, hcz112_8, hfz112_0, hfz112_1, hfz112_2, hfz112_3, hfz112_4, hfz112_5, hfz112_6, hfz112_7, hfz112_8⟩ : At9 wc gb135 (.string a0_0) (.int .i64 a0_1) (.int .i64 a0_2) (.int .i64 a0_3) (.int .i64 a0_4) (.int .i64 a0_5) (.int .i64 a0_6) (.int .i64 a0_7) (.int .u8 a0_8) := at9 BK135.out rfl
              have hcz113_0 : wc.cell? ⟨gb142, 0, none⟩ = some (.int .i64 t137) := (blk_cell BK142.out 0).trans rfl
              have hcz113_1 : wc.cell? ⟨gb142, 1, none⟩ = some (.string t138) := (blk_cell BK142.out 1).trans rfl
              have hcz113_2 : wc.cell? ⟨gb142, 2, none⟩ = some (.bool false) := (blk_cell BK142.out 2).trans rfl
              have hcz113_3 : wc.cell? ⟨gb142, 3, none⟩ = some (.bool t140) := (blk_cell BK142.out 3).trans rfl
              have hfz113_0 := blk_frozen BK142.out 0
              have hfz113_1 := blk_frozen BK142.out 1
              have hfz113_2 := blk_frozen BK142.out 2
              have hfz113_3 := blk_frozen BK142.out 3
              go_wp2
              go_ret
              exact ⟨yE_, by repeat (first | (with_reducible first | exact HB.out | apply bA_ | apply bN_ | apply bD_ | refine below_set ?_ GE135.out | refine below_set ?_ GE142.out) | exact HB.out)⟩
           ·rw [if_neg c94] at H
            have c94b0 : (a0_5 == (-1)) = false := beq_eq_false_iff_ne.mpr c94
            have c94b1 : (a0_5 != (-1)) = true := bne_iff_ne.mpr c94
            obtain rfl := Option.some.inj H
            have hnb114 := NB135_142.out
            have hnc114 := NB142_135.out
            obtain ⟨hcz115_0, hcz115_1, hcz115_2, hcz115_3, hcz115_4, hcz115_5, hcz115_6, hcz115_7, hcz115_8, hfz115_0, hfz115_1, hfz115_2, hfz115_3, hfz115_4, hfz115_5, hfz115_6, hfz115_7, hfz115_8⟩ : At9 wc gb135 (.string a0_0) (.int .i64 a0_1) (.int .i64 a0_2) (.int .i64 a0_3) (.int .i64 a0_4) (.int .i64 a0_5) (.int .i64 a0_6) (.int .i64 a0_7) (.int .u8 a0_8) := at9 BK135.out rfl
            go_wp2
            go_ret
            exact ⟨yE_, by repeat (first | (with_reducible first | exact HB.out | apply bA_ | apply bN_ | apply bD_ | refine below_set ?_ GE135.out | refine below_set ?_ GE142.out) | exact HB.out)⟩
         ·rw [if_neg c65] at H
          have c65b0 : (a0_4 == 0) = false := beq_eq_false_iff_ne.mpr c65
          have c65b1 : (a0_4 != 0) = true := bne_iff_ne.mpr c65
          by_cases c116 : a0_3 = (-1)
          ·rw [if_pos c116] at H
           have c116b0 : (a0_3 == (-1)) = true := beq_iff_eq.mpr c116
           have c116b1 : (a0_3 != (-1)) = false := bne_eq_false_iff_eq.mpr c116
           clear c116
           by_cases c117 : a0_6 = 0
           ·rw [if_pos c117] at H
            have c117b0 : (a0_6 == 0) = true := beq_iff_eq.mpr c117
            have c117b1 : (a0_6 != 0) = false := bne_eq_false_iff_eq.mpr c117
            clear c117
            by_cases c118 : t139 = true
            ·subst c118
             have H1 : (if t140 = true then (some true) else (if a0_5 = (-1) then (some (a0_6 == 0)) else (some false))) = some r := by rw [if_pos rfl] at H; exact H
             clear H
             have H := H1
             clear H1
             by_cases c119 : t140 = true
             ·subst c119
              have H1 : (some true) = some r := by rw [if_pos rfl] at H; exact H
              clear H
              have H := H1
              clear H1
              obtain rfl := Option.some.inj H
              have hnb120 := NB135_142.out
              have hnc120 := NB142_135.out
              obtain ⟨hcz121_0, hcz121_1, hcz121_2, hcz121_3, hcz121_4, hcz121_5, hcz121_6, hcz121_7, hcz121_8, hfz121_0, hfz121_1, hfz121_2, hfz121_3, hfz121_4, hfz121_5, hfz121_6, hfz121_7, hfz121_8⟩ : At9 wc gb135 (.string a0_0) (.int .i64 a0_1) (.int .i64 a0_2) (.int .i64 a0_3) (.int .i64 a0_4) (.int .i64 a0_5) (.int .i64 a0_6) (.int .i64 a0_7) (.int .u8 a0_8) := at9 BK135.out rfl
              have hcz122_0 : wc.cell? ⟨gb142, 0, none⟩ = some (.int .i64 t137) := (blk_cell BK142.out 0).trans rfl
              have hcz122_1 : wc.cell? ⟨gb142, 1, none⟩ = some (.string t138) := (blk_cell BK142.out 1).trans rfl
              have hcz122_2 : wc.cell? ⟨gb142, 2, none⟩ = some (.bool true) := (blk_cell BK142.out 2).trans rfl
              have hcz122_3 : wc.cell? ⟨gb142, 3, none⟩ = some (.bool true) := (blk_cell BK142.out 3).trans rfl
              have hfz122_0 := blk_frozen BK142.out 0
              have hfz122_1 := blk_frozen BK142.out 1
              have hfz122_2 := blk_frozen BK142.out 2
              have hfz122_3 := blk_frozen BK142.out 3
              go_wp2
              go_ret
              exact ⟨yE_, by repeat (first | (with_reducible first | exact HB.out | apply bA_ | apply bN_ | apply bD_ | refine below_set ?_ GE135.out | refine below_set ?_ GE142.out) | exact HB.out)⟩
             ·replace c119 := Bool.eq_false_iff.mpr c119
              subst c119
              have H1 : (if a0_5 = (-1) then (some (a0_6 == 0)) else (some false)) = some r := by rw [if_neg (show ¬ (false = true) by decide)] at H; exact H
              clear H
              have H := H1
              clear H1
              by_cases c123 : a0_5 = (-1)
              ·rw [if_pos c123] at H
               have c123b0 : (a0_5 == (-1)) = true := beq_iff_eq.mpr c123
               have c123b1 : (a0_5 != (-1)) = false := bne_eq_false_iff_eq.mpr c123
               clear c123
               obtain rfl := Option.some.inj H
               have hnb124 := NB135_142.out
               have hnc124 := NB142_135.out
               obtain ⟨hcz125_0, hcz125_1, hcz125_2, hcz125_3, hcz125_4, hcz125_5, hcz125_6, hcz125_7, hcz125_8, hfz125_0, hfz125_1, hfz125_2, hfz125_3, hfz125_4, hfz125_5, hfz125_6, hfz125_7, hfz125_8⟩ : At9 wc gb135 (.string a0_0) (.int .i64 a0_1) (.int .i64 a0_2) (.int .i64 a0_3) (.int .i64 a0_4) (.int .i64 a0_5) (.int .i64 a0_6) (.int .i64 a0_7) (.int .u8 a0_8) := at9 BK135.out rfl
               have hcz126_0 : wc.cell? ⟨gb142, 0, none⟩ = some (.int .i64 t137) := (blk_cell BK142.out 0).trans rfl
               have hcz126_1 : wc.cell? ⟨gb142, 1, none⟩ = some (.string t138) := (blk_cell BK142.out 1).trans rfl
               have hcz126_2 : wc.cell? ⟨gb142, 2, none⟩ = some (.bool true) := (blk_cell BK142.out 2).trans rfl
               have hcz126_3 : wc.cell? ⟨gb142, 3, none⟩ = some (.bool false) := (blk_cell BK142.out 3).trans rfl
               have hfz126_0 := blk_frozen BK142.out 0
               have hfz126_1 := blk_frozen BK142.out 1
               have hfz126_2 := blk_frozen BK142.out 2
               have hfz126_3 := blk_frozen BK142.out 3
               go_wp2
               go_ret
               exact ⟨yE_, by repeat (first | (with_reducible first | exact HB.out | apply bA_ | apply bN_ | apply bD_ | refine below_set ?_ GE135.out | refine below_set ?_ GE142.out) | exact HB.out)⟩
              ·rw [if_neg c123] at H
               have c123b0 : (a0_5 == (-1)) = false := beq_eq_false_iff_ne.mpr c123
               have c123b1 : (a0_5 != (-1)) = true := bne_iff_ne.mpr c123
               obtain rfl := Option.some.inj H
               have hnb127 := NB135_142.out
               have hnc127 := NB142_135.out
               obtain ⟨hcz128_0, hcz128_1, hcz128_2, hcz128_3, hcz128_4, hcz128_5, hcz128_6, hcz128_7, hcz128_8, hfz128_0, hfz128_1, hfz128_2, hfz128_3, hfz128_4, hfz128_5, hfz128_6, hfz128_7, hfz128_8⟩ : At9 wc gb135 (.string a0_0) (.int .i64 a0_1) (.int .i64 a0_2) (.int .i64 a0_3) (.int .i64 a0_4) (.int .i64 a0_5) (.int .i64 a0_6) (.int .i64 a0_7) (.int .u8 a0_8) := at9 BK135.out rfl
               have hcz129_0 : wc.cell? ⟨gb142, 0, none⟩ = some (.int .i64 t137) := (blk_cell BK142.out 0).trans rfl
               have hcz129_1 : wc.cell? ⟨gb142, 1, none⟩ = some (.string t138) := (blk_cell BK142.out 1).trans rfl
               have hcz129_2 : wc.cell? ⟨gb142, 2, none⟩ = some (.bool true) := (blk_cell BK142.out 2).trans rfl
               have hcz129_3 : wc.cell? ⟨gb142, 3, none⟩ = some (.bool false) := (blk_cell BK142.out 3).trans rfl
               have hfz129_0 := blk_frozen BK142.out 0
               have hfz129_1 := blk_frozen BK142.out 1
               have hfz129_2 := blk_frozen BK142.out 2
               have hfz129_3 := blk_frozen BK142.out 3
               go_wp2
               go_ret
               exact ⟨yE_, by repeat (first | (with_reducible first | exact HB.out | apply bA_ | apply bN_ | apply bD_ | refine below_set ?_ GE135.out | refine below_set ?_ GE142.out) | exact HB.out)⟩
            ·replace c118 := Bool.eq_false_iff.mpr c118
             subst c118
             have H1 : (some false) = some r := by rw [if_neg (show ¬ (false = true) by decide)] at H; exact H
             clear H
             have H := H1
             clear H1
             obtain rfl := Option.some.inj H
             have hnb130 := NB135_142.out
             have hnc130 := NB142_135.out
             obtain ⟨hcz131_0, hcz131_1, hcz131_2, hcz131_3, hcz131_4, hcz131_5, hcz131_6, hcz131_7, hcz131_8, hfz131_0, hfz131_1, hfz131_2, hfz131_3, hfz131_4, hfz131_5, hfz131_6, hfz131_7, hfz131_8⟩ : At9 wc gb135 (.string a0_0) (.int .i64 a0_1) (.int .i64 a0_2) (.int .i64 a0_3) (.int .i64 a0_4) (.int .i64 a0_5) (.int .i64 a0_6) (.int .i64 a0_7) (.int .u8 a0_8) := at9 BK135.out rfl
             have hcz132_0 : wc.cell? ⟨gb142, 0, none⟩ = some (.int .i64 t137) := (blk_cell BK142.out 0).trans rfl
             have hcz132_1 : wc.cell? ⟨gb142, 1, none⟩ = some (.string t138) := (blk_cell BK142.out 1).trans rfl
             have hcz132_2 : wc.cell? ⟨gb142, 2, none⟩ = some (.bool false) := (blk_cell BK142.out 2).trans rfl
             have hcz132_3 : wc.cell? ⟨gb142, 3, none⟩ = some (.bool t140) := (blk_cell BK142.out 3).trans rfl
             have hfz132_0 := blk_frozen BK142.out 0
             have hfz132_1 := blk_frozen BK142.out 1
             have hfz132_2 := blk_frozen BK142.out 2
             have hfz132_3 := blk_frozen BK142.out 3
             go_wp2
             go_ret
             exact ⟨yE_, by repeat (first | (with_reducible first | exact HB.out | apply bA_ | apply bN_ | apply bD_ | refine below_set ?_ GE135.out | refine below_set ?_ GE142.out) | exact HB.out)⟩
           ·rw [if_neg c117] at H
            have c117b0 : (a0_6 == 0) = false := beq_eq_false_iff_ne.mpr c117
            have c117b1 : (a0_6 != 0) = true := bne_iff_ne.mpr c117
            by_cases c133 : a0_5 = (-1)
            ·rw [if_pos c133] at H
             have c133b0 : (a0_5 == (-1)) = true := beq_iff_eq.mpr c133
             have c133b1 : (a0_5 != (-1)) = false := bne_eq_false_iff_eq.mpr c133
             clear c133
             by_cases c134 : t139 = true
             ·subst c134
              have H1 : (if t140 = true then (some true) else (some (a0_6 == 0))) = some r := by rw [if_pos rfl] at H; exact H
              clear H
              have H := H1
              clear H1
              by_cases c135 : t140 = true
              ·subst c135
               have H1 : (some true) = some r := by rw [if_pos rfl] at H; exact H
               clear H
               have H := H1
               clear H1
               obtain rfl := Option.some.inj H
               have hnb136 := NB135_142.out
               have hnc136 := NB142_135.out
               obtain ⟨hcz137_0, hcz137_1, hcz137_2, hcz137_3, hcz137_4, hcz137_5, hcz137_6, hcz137_7, hcz137_8, hfz137_0, hfz137_1, hfz137_2, hfz137_3, hfz137_4, hfz137_5, hfz137_6, hfz137_7, hfz137_8⟩ : At9 wc gb135 (.string a0_0) (.int .i64 a0_1) (.int .i64 a0_2) (.int .i64 a0_3) (.int .i64 a0_4) (.int .i64 a0_5) (.int .i64 a0_6) (.int .i64 a0_7) (.int .u8 a0_8) := at9 BK135.out rfl
               have hcz138_0 : wc.cell? ⟨gb142, 0, none⟩ = some (.int .i64 t137) := (blk_cell BK142.out 0).trans rfl
               have hcz138_1 : wc.cell? ⟨gb142, 1, none⟩ = some (.string t138) := (blk_cell BK142.out 1).trans rfl
               have hcz138_2 : wc.cell? ⟨gb142, 2, none⟩ = some (.bool true) := (blk_cell BK142.out 2).trans rfl
               have hcz138_3 : wc.cell? ⟨gb142, 3, none⟩ = some (.bool true) := (blk_cell BK142.out 3).trans rfl
               have hfz138_0 := blk_frozen BK142.out 0
               have hfz138_1 := blk_frozen BK142.out 1
               have hfz138_2 := blk_frozen BK142.out 2
               have hfz138_3 := blk_frozen BK142.out 3
               go_wp2
               go_ret
               exact ⟨yE_, by repeat (first | (with_reducible first | exact HB.out | apply bA_ | apply bN_ | apply bD_ | refine below_set ?_ GE135.out | refine below_set ?_ GE142.out) | exact HB.out)⟩
              ·replace c135 := Bool.eq_false_iff.mpr c135
               subst c135
               have H1 : (some (a0_6 == 0)) = some r := by rw [if_neg (show ¬ (false = true) by decide)] at H; exact H
               clear H
               have H := H1
               clear H1
               obtain rfl := Option.some.inj H
               have hnb139 := NB135_142.out
               have hnc139 := NB142_135.out
               obtain ⟨hcz140_0, hcz140_1, hcz140_2, hcz140_3, hcz140_4, hcz140_5, hcz140_6, hcz140_7, hcz140_8, hfz140_0, hfz140_1, hfz140_2, hfz140_3, hfz140_4, hfz140_5, hfz140_6, hfz140_7, hfz140_8⟩ : At9 wc gb135 (.string a0_0) (.int .i64 a0_1) (.int .i64 a0_2) (.int .i64 a0_3) (.int .i64 a0_4) (.int .i64 a0_5) (.int .i64 a0_6) (.int .i64 a0_7) (.int .u8 a0_8) := at9 BK135.out rfl
               have hcz141_0 : wc.cell? ⟨gb142, 0, none⟩ = some (.int .i64 t137) := (blk_cell BK142.out 0).trans rfl
               have hcz141_1 : wc.cell? ⟨gb142, 1, none⟩ = some (.string t138) := (blk_cell BK142.out 1).trans rfl
               have hcz141_2 : wc.cell? ⟨gb142, 2, none⟩ = some (.bool true) := (blk_cell BK142.out 2).trans rfl
               have hcz141_3 : wc.cell? ⟨gb142, 3, none⟩ = some (.bool false) := (blk_cell BK142.out 3).trans rfl
               have hfz141_0 := blk_frozen BK142.out 0
               have hfz141_1 := blk_frozen BK142.out 1
               have hfz141_2 := blk_frozen BK142.out 2
               have hfz141_3 := blk_frozen BK142.out 3
               go_wp2
               go_ret
               exact ⟨yE_, by repeat (first | (with_reducible first | exact HB.out | apply bA_ | apply bN_ | apply bD_ | refine below_set ?_ GE135.out | refine below_set ?_ GE142.out) | exact HB.out)⟩
             ·replace c134 := Bool.eq_false_iff.mpr c134
              subst c134
              have H1 : (some false) = some r := by rw [if_neg (show ¬ (false = true) by decide)] at H; exact H
              clear H
              have H := H1
              clear H1
              obtain rfl := Option.some.inj H
              have hnb142 := NB135_142.out
              have hnc142 := NB142_135.out
              obtain ⟨hcz143_0, hcz143_1, hcz143_2, hcz143_3, hcz143_4, hcz143_5, hcz143_6, hcz143_7, hcz143_8, hfz143_0, hfz143_1, hfz143_2, hfz143_3, hfz143_4, hfz143_5, hfz143_6, hfz143_7, hfz143_8⟩ : At9 wc gb135 (.string a0_0) (.int .i64 a0_1) (.int .i64 a0_2) (.int .i64 a0_3) (.int .i64 a0_4) (.int .i64 a0_5) (.int .i64 a0_6) (.int .i64 a0_7) (.int .u8 a0_8) := at9 BK135.out rfl
              have hcz144_0 : wc.cell? ⟨gb142, 0, none⟩ = some (.int .i64 t137) := (blk_cell BK142.out 0).trans rfl
              have hcz144_1 : wc.cell? ⟨gb142, 1, none⟩ = some (.string t138) := (blk_cell BK142.out 1).trans rfl
              have hcz144_2 : wc.cell? ⟨gb142, 2, none⟩ = some (.bool false) := (blk_cell BK142.out 2).trans rfl
              have hcz144_3 : wc.cell? ⟨gb142, 3, none⟩ = some (.bool t140) := (blk_cell BK142.out 3).trans rfl
              have hfz144_0 := blk_frozen BK142.out 0
              have hfz144_1 := blk_frozen BK142.out 1
              have hfz144_2 := blk_frozen BK142.out 2
              have hfz144_3 := blk_frozen BK142.out 3
              go_wp2
              go_ret
              exact ⟨yE_, by repeat (first | (with_reducible first | exact HB.out | apply bA_ | apply bN_ | apply bD_ | refine below_set ?_ GE135.out | refine below_set ?_ GE142.out) | exact HB.out)⟩
            ·rw [if_neg c133] at H
             have c133b0 : (a0_5 == (-1)) = false := beq_eq_false_iff_ne.mpr c133
             have c133b1 : (a0_5 != (-1)) = true := bne_iff_ne.mpr c133
             obtain rfl := Option.some.inj H
             have hnb145 := NB135_142.out
             have hnc145 := NB142_135.out
             obtain ⟨hcz146_0, hcz146_1, hcz146_2, hcz146_3, hcz146_4, hcz146_5, hcz146_6, hcz146_7, hcz146_8, hfz146_0, hfz146_1, hfz146_2, hfz146_3, hfz146_4, hfz146_5, hfz146_6, hfz146_7, hfz146_8⟩ : At9 wc gb135 (.string a0_0) (.int .i64 a0_1) (.int .i64 a0_2) (.int .i64 a0_3) (.int .i64 a0_4) (.int .i64 a0_5) (.int .i64 a0_6) (.int .i64 a0_7) (.int .u8 a0_8) := at9 BK135.out rfl
             go_wp2
             go_ret
             exact ⟨yE_, by repeat (first | (with_reducible first | exact HB.out | apply bA_ | apply bN_ | apply bD_ | refine below_set ?_ GE135.out | refine below_set ?_ GE142.out) | exact HB.out)⟩
          ·rw [if_neg c116] at H
           have c116b0 : (a0_3 == (-1)) = false := beq_eq_false_iff_ne.mpr c116
           have c116b1 : (a0_3 != (-1)) = true := bne_iff_ne.mpr c116
           obtain rfl := Option.some.inj H
           have hnb147 := NB135_142.out
           have hnc147 := NB142_135.out
           obtain ⟨hcz148_0, hcz148_1, hcz148_2, hcz148_3, hcz148_4, hcz148_5, hcz148_6, hcz148_7, hcz148_8, hfz148_0, hfz148_1, hfz148_2, hfz148_3, hfz148_4, hfz148_5, hfz148_6, hfz148_7, hfz148_8⟩ : At9 wc gb135 (.string a0_0) (.int .i64 a0_1) (.int .i64 a0_2) (.int .i64 a0_3) (.int .i64 a0_4) (.int .i64 a0_5) (.int .i64 a0_6) (.int .i64 a0_7) (.int .u8 a0_8) := at9 BK135.out rfl
           go_wp2
           go_ret
           exact ⟨yE_, by repeat (first | (with_reducible first | exact HB.out | apply bA_ | apply bN_ | apply bD_ | refine below_set ?_ GE135.out | refine below_set ?_ GE142.out) | exact HB.out)⟩
end Go.Proofs.YtnhbgahfmcicnaaGreatDoor.PA
end
