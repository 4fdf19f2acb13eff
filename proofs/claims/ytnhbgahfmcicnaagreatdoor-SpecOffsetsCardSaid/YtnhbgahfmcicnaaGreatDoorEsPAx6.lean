/- A part of the proof of SpecEscapesCardSaid: the law answers true at every text, with no condition. -/
import Derived.Test.YtnhbgahfmcicnaaGreatDoorEsPAx0
import Derived.Test.YtnhbgahfmcicnaaGreatDoorEsPAx1
import Derived.Test.YtnhbgahfmcicnaaGreatDoorEsPAx3
import Derived.Test.YtnhbgahfmcicnaaGreatDoorEsPAx4
import Derived.Test.YtnhbgahfmcicnaaGreatDoorEsPAx5
import Derived.Test.YtnhbgahfmcicnaaGreatDoorEsG1a
section
namespace Go.Proofs.YtnhbgahfmcicnaaGreatDoor.PA
open Go.RowKit Go.Proofs.YtnhbgahfmcicnaaGreatDoorW.PrintWords Go.Proofs.YtnhbgahfmcicnaaGreatDoorW.PrintLast Go.Proofs.YtnhbgahfmcicnaaGreatDoorW.PrintMore
attribute [local go_sem] max2_int min2_int max_two min_two max_three min_three max_four min_four   -- for this text's walks alone
set_option linter.unusedVariables false
set_option linter.unusedSimpArgs false
attribute [local go_sem high] eqA35
mutual
def spec_fits.j0 : Nat → Bool → ByteArray → Int → Int → Int → Int → Int → Int → Int → Int → Int → ByteArray → Bool → Bool → Option (Bool)
  | 0, _, _, _, _, _, _, _, _, _, _, _, _, _, _ => none
  | k + 1, x67, x136000, x136001, x136002, x136003, x136004, x136005, x136006, x136007, x136008, x143000, x143001, x143002, x143003 => if x67 = true then (some false) else ((spec_within.f x136003 1).bind fun t144 => (if t144 = true then ((spec_within.f x136005 0).bind fun t145 => (if t145 = true then (if x136004 < 0 then (spec_fits.j1 k true x136000 x136001 x136002 x136003 x136004 x136005 x136006 x136007 x136008 x143000 x143001 x143002 x143003) else (if x136004 > 64 then (spec_fits.j1 k true x136000 x136001 x136002 x136003 x136004 x136005 x136006 x136007 x136008 x143000 x143001 x143002 x143003) else (if x136006 < 0 then (spec_fits.j1 k true x136000 x136001 x136002 x136003 x136004 x136005 x136006 x136007 x136008 x143000 x143001 x143002 x143003) else (spec_fits.j1 k (decide (x136006 > 64)) x136000 x136001 x136002 x136003 x136004 x136005 x136006 x136007 x136008 x143000 x143001 x143002 x143003)))) else (spec_fits.j1 k true x136000 x136001 x136002 x136003 x136004 x136005 x136006 x136007 x136008 x143000 x143001 x143002 x143003))) else (spec_fits.j1 k true x136000 x136001 x136002 x136003 x136004 x136005 x136006 x136007 x136008 x143000 x143001 x143002 x143003)))
def spec_fits.j1 : Nat → Bool → ByteArray → Int → Int → Int → Int → Int → Int → Int → Int → Int → ByteArray → Bool → Bool → Option (Bool)
  | 0, _, _, _, _, _, _, _, _, _, _, _, _, _, _ => none
  | k + 1, x97, x136000, x136001, x136002, x136003, x136004, x136005, x136006, x136007, x136008, x143000, x143001, x143002, x143003 => if x97 = true then (some false) else (if x136004 = 0 then (if x136006 = 0 then (if x143002 = true then (if x143003 = true then (some true) else (if x136005 = (-1) then (some (x136006 == 0)) else (some false))) else (if x136003 = (-1) then (if x143003 = true then (some true) else (if x136005 = (-1) then (some (x136006 == 0)) else (some false))) else (some false))) else (if x136005 = (-1) then (if x143002 = true then (if x143003 = true then (some true) else (some (x136006 == 0))) else (if x136003 = (-1) then (if x143003 = true then (some true) else (some (x136006 == 0))) else (some false))) else (some false))) else (if x136003 = (-1) then (if x136006 = 0 then (if x143002 = true then (if x143003 = true then (some true) else (if x136005 = (-1) then (some (x136006 == 0)) else (some false))) else (some false)) else (if x136005 = (-1) then (if x143002 = true then (if x143003 = true then (some true) else (some (x136006 == 0))) else (some false)) else (some false))) else (some false)))
end
def spec_fits.f (k : Nat) (a0_0 : ByteArray) (a0_1 : Int) (a0_2 : Int) (a0_3 : Int) (a0_4 : Int) (a0_5 : Int) (a0_6 : Int) (a0_7 : Int) (a0_8 : Int) : Option (Bool) := if a0_8 = 0 then (if (a0_1 == 0 && (a0_2 == 0 && (a0_3 == (-1) && (a0_4 == 0 && (a0_5 == (-1) && (a0_6 == 0 && (a0_7 == 0 && (a0_8 == 0)))))))) = true then (if a0_0.toList = ([] : List UInt8) then (some false) else ((strings_ContainsAny.f a0_0 (⟨#[37, 0]⟩ : ByteArray)).bind fun t136 => (some (!t136)))) else (some false)) else (if a0_8 = 37 then (some (a0_0.toList == ([] : List UInt8) && (a0_1 == 0 && (a0_2 == 0 && (a0_3 == (-1) && (a0_4 == 0 && (a0_5 == (-1) && (a0_6 == 0 && (a0_7 == 0 && (a0_8 == 37)))))))))) else ((spec_ruleOf.f k a0_8).bind fun bt137 => (if bt137.2.2.2.2 = true then (if a0_0.toList = ([] : List UInt8) then (if a0_1 < 1 then (spec_fits.j0 k true a0_0 a0_1 a0_2 a0_3 a0_4 a0_5 a0_6 a0_7 a0_8 bt137.1 bt137.2.1 bt137.2.2.1 bt137.2.2.2.1) else (if a0_1 > 64 then (spec_fits.j0 k true a0_0 a0_1 a0_2 a0_3 a0_4 a0_5 a0_6 a0_7 a0_8 bt137.1 bt137.2.1 bt137.2.2.1 bt137.2.2.2.1) else (if (Go.bits .andNot .i64 a0_2 bt137.1) = 0 then ((spec_rule_allows.f bt137.1 bt137.2.1 bt137.2.2.1 bt137.2.2.2.1 a0_7).bind fun t143 => (spec_fits.j0 k (!t143) a0_0 a0_1 a0_2 a0_3 a0_4 a0_5 a0_6 a0_7 a0_8 bt137.1 bt137.2.1 bt137.2.2.1 bt137.2.2.2.1)) else (spec_fits.j0 k true a0_0 a0_1 a0_2 a0_3 a0_4 a0_5 a0_6 a0_7 a0_8 bt137.1 bt137.2.1 bt137.2.2.1 bt137.2.2.2.1)))) else (spec_fits.j0 k true a0_0 a0_1 a0_2 a0_3 a0_4 a0_5 a0_6 a0_7 a0_8 bt137.1 bt137.2.1 bt137.2.2.1 bt137.2.2.2.1)) else (spec_fits.j0 k true a0_0 a0_1 a0_2 a0_3 a0_4 a0_5 a0_6 a0_7 a0_8 bt137.1 bt137.2.1 bt137.2.2.1 bt137.2.2.2.1))))
set_option maxHeartbeats 8000000 in
set_option maxRecDepth 100000 in
theorem spec_fits.calls (k : Nat) (a0_0 : ByteArray) (a0_1 : Int) (a0_2 : Int) (a0_3 : Int) (a0_4 : Int) (a0_5 : Int) (a0_6 : Int) (a0_7 : Int) (a0_8 : Int) (r : Bool) (w : World) (h : spec_fits.f k a0_0 a0_1 a0_2 a0_3 a0_4 a0_5 a0_6 a0_7 a0_8 = some r) :
    Calls Tryz.prog 44 #[.agg #[.string a0_0, .int .i64 a0_1, .int .i64 a0_2, .int .i64 a0_3, .int .i64 a0_4, .int .i64 a0_5, .int .i64 a0_6, .int .i64 a0_7, .int .u8 a0_8]] w fun e w' => e = .returned (.bool r) ∧ Below w.heap.size w w' := by
  have hu35 := Tryz.underlying35
  have hu85 := Tryz.underlying85
  have HB := Aside0.mk (Below.refl w.heap.size w)
  have H : (if a0_8 = 0 then (if (a0_1 == 0 && (a0_2 == 0 && (a0_3 == (-1) && (a0_4 == 0 && (a0_5 == (-1) && (a0_6 == 0 && (a0_7 == 0 && (a0_8 == 0)))))))) = true then (if a0_0.toList = ([] : List UInt8) then (some false) else ((strings_ContainsAny.f a0_0 (⟨#[37, 0]⟩ : ByteArray)).bind fun t136 => (some (!t136)))) else (some false)) else (if a0_8 = 37 then (some (a0_0.toList == ([] : List UInt8) && (a0_1 == 0 && (a0_2 == 0 && (a0_3 == (-1) && (a0_4 == 0 && (a0_5 == (-1) && (a0_6 == 0 && (a0_7 == 0 && (a0_8 == 37)))))))))) else ((spec_ruleOf.f k a0_8).bind fun bt137 => (if bt137.2.2.2.2 = true then (if a0_0.toList = ([] : List UInt8) then (if a0_1 < 1 then (spec_fits.j0 k true a0_0 a0_1 a0_2 a0_3 a0_4 a0_5 a0_6 a0_7 a0_8 bt137.1 bt137.2.1 bt137.2.2.1 bt137.2.2.2.1) else (if a0_1 > 64 then (spec_fits.j0 k true a0_0 a0_1 a0_2 a0_3 a0_4 a0_5 a0_6 a0_7 a0_8 bt137.1 bt137.2.1 bt137.2.2.1 bt137.2.2.2.1) else (if (Go.bits .andNot .i64 a0_2 bt137.1) = 0 then ((spec_rule_allows.f bt137.1 bt137.2.1 bt137.2.2.1 bt137.2.2.2.1 a0_7).bind fun t143 => (spec_fits.j0 k (!t143) a0_0 a0_1 a0_2 a0_3 a0_4 a0_5 a0_6 a0_7 a0_8 bt137.1 bt137.2.1 bt137.2.2.1 bt137.2.2.2.1)) else (spec_fits.j0 k true a0_0 a0_1 a0_2 a0_3 a0_4 a0_5 a0_6 a0_7 a0_8 bt137.1 bt137.2.1 bt137.2.2.1 bt137.2.2.2.1)))) else (spec_fits.j0 k true a0_0 a0_1 a0_2 a0_3 a0_4 a0_5 a0_6 a0_7 a0_8 bt137.1 bt137.2.1 bt137.2.2.1 bt137.2.2.2.1)) else (spec_fits.j0 k true a0_0 a0_1 a0_2 a0_3 a0_4 a0_5 a0_6 a0_7 a0_8 bt137.1 bt137.2.1 bt137.2.2.1 bt137.2.2.2.1))))) = some r := h
  clear h
  by_cases c2 : a0_8 = 0
  · rw [if_pos c2] at H
    have c2b0 : (a0_8 == 0) = true := beq_iff_eq.mpr c2
    have c2b1 : (a0_8 != 0) = false := bne_eq_false_iff_eq.mpr c2
    clear c2
    by_cases c3 : (a0_1 == 0 && (a0_2 == 0 && (a0_3 == (-1) && (a0_4 == 0 && (a0_5 == (-1) && (a0_6 == 0 && (a0_7 == 0 && (a0_8 == 0)))))))) = true
    · rw [if_pos c3] at H
      have c3b0 : (a0_1 == 0 && (a0_2 == 0 && (a0_3 == (-1) && (a0_4 == 0 && (a0_5 == (-1) && (a0_6 == 0 && (a0_7 == 0 && (a0_8 == 0)))))))) = true := c3
      have c3n := c3b0
      try simp only [c2b0, Bool.and_true, Bool.true_and] at c3n
      (try (have c3b1 : decide (a0_1 = 0 && (a0_2 == 0 && (a0_3 == (-1) && (a0_4 == 0 && (a0_5 == (-1) && (a0_6 == 0 && (a0_7 == 0 && (a0_8 == 0)))))))) = true := by simpa using c3))
      (try (have c3b2 : (a0_1 == 0 && (a0_2 == 0 && (a0_3 == (-1) && (a0_4 == 0 && (a0_5 == (-1) && (a0_6 == 0 && (a0_7 == 0 && (a0_8 == 0)))))))) = true := by simpa using c3))
      clear c3
      by_cases c4 : a0_0.toList = ([] : List UInt8)
      · rw [if_pos c4] at H
        have c4b0 : (a0_0.toList == ([] : List UInt8)) = true := beq_iff_eq.mpr c4
        have c4b1 : (a0_0.toList != ([] : List UInt8)) = false := bne_eq_false_iff_eq.mpr c4
        clear c4
        obtain rfl := Option.some.inj H
        go_enter Tryz.func44, Tryz.ntmps44
        go_wp2_with (first | ((with_reducible refine gate_dst (N := 1) rfl ?_); refine box_event ?hg (N := 1) ?hd (cs := #[.string a0_0, .int .i64 a0_1, .int .i64 a0_2, .int .i64 a0_3, .int .i64 a0_4, .int .i64 a0_5, .int .i64 a0_6, .int .i64 a0_7, .int .u8 a0_8]) (t := 35) ?hr ?_; (case hd => rfl); (case hg => rfl); (case hr => first | (go_simp; done) | (go_simp; rfl)); intro gb135 hg w5 hbox hb; have n0_ := Aside0.mk (below_step (by repeat (first | (with_reducible first | exact HB.out | apply below_alloc | apply pw_below_drewN | apply below_drew1) | exact HB.out)) hb); have n1_ := Aside0.mk (hbox); have n2_ := Aside0.mk ((by rw [hg]; exact (below_size (by repeat (first | (with_reducible first | exact HB.out | apply below_alloc | apply pw_below_drewN | apply below_drew1) | exact HB.out))) : w.heap.size ≤ gb135)); have n3_ := Aside0.mk ((by rw [hg]; exact (below_size (by repeat (first | (with_reducible first | exact HB.out | apply below_alloc | apply pw_below_drewN | apply below_drew1) | exact HB.out))) : w.heap.size ≤ gb135)); clear HB; have HB := n0_; have BK135 := n1_; have GW135 := n2_; have GE135 := n3_; clear n0_ n1_ n2_ n3_; clear hb hbox hg; have hcz6_0 : w5.cell? ⟨gb135, 0, none⟩ = some (.string a0_0) := (blk_cell BK135.out 0).trans rfl; have hcz6_1 : w5.cell? ⟨gb135, 1, none⟩ = some (.int .i64 a0_1) := (blk_cell BK135.out 1).trans rfl; have hcz6_2 : w5.cell? ⟨gb135, 2, none⟩ = some (.int .i64 a0_2) := (blk_cell BK135.out 2).trans rfl; have hcz6_3 : w5.cell? ⟨gb135, 3, none⟩ = some (.int .i64 a0_3) := (blk_cell BK135.out 3).trans rfl; have hcz6_4 : w5.cell? ⟨gb135, 4, none⟩ = some (.int .i64 a0_4) := (blk_cell BK135.out 4).trans rfl; have hcz6_5 : w5.cell? ⟨gb135, 5, none⟩ = some (.int .i64 a0_5) := (blk_cell BK135.out 5).trans rfl; have hcz6_6 : w5.cell? ⟨gb135, 6, none⟩ = some (.int .i64 a0_6) := (blk_cell BK135.out 6).trans rfl; have hcz6_7 : w5.cell? ⟨gb135, 7, none⟩ = some (.int .i64 a0_7) := (blk_cell BK135.out 7).trans rfl; have hcz6_8 : w5.cell? ⟨gb135, 8, none⟩ = some (.int .u8 a0_8) := (blk_cell BK135.out 8).trans rfl; have hfz6_0 := blk_frozen BK135.out 0; have hfz6_1 := blk_frozen BK135.out 1; have hfz6_2 := blk_frozen BK135.out 2; have hfz6_3 := blk_frozen BK135.out 3; have hfz6_4 := blk_frozen BK135.out 4; have hfz6_5 := blk_frozen BK135.out 5; have hfz6_6 := blk_frozen BK135.out 6; have hfz6_7 := blk_frozen BK135.out 7; have hfz6_8 := blk_frozen BK135.out 8))
        go_ret
        exact ⟨by first | rfl | (simp [errW_none, errW_some] <;> rfl) | (simp [*, errW_none, errW_some] <;> rfl), by repeat (first | (with_reducible first | exact HB.out | apply below_alloc | apply pw_below_drewN | apply below_drew1 | refine below_set ?_ GE135.out) | exact HB.out)⟩
      · rw [if_neg c4] at H
        have c4b0 : (a0_0.toList == ([] : List UInt8)) = false := beq_eq_false_iff_ne.mpr c4
        have c4b1 : (a0_0.toList != ([] : List UInt8)) = true := bne_iff_ne.mpr c4
        replace H := Option.bind_eq_some_iff.mp H
        obtain ⟨t136, A70, H⟩ := H
        replace H : (some (!t136)) = some r := H
        have A7 := Aside0.mk A70
        clear A70
        obtain rfl := Option.some.inj H
        go_enter Tryz.func44, Tryz.ntmps44
        go_wp2_with (first | ((with_reducible refine gate_dst (N := 1) rfl ?_); refine box_event ?hg (N := 1) ?hd (cs := #[.string a0_0, .int .i64 a0_1, .int .i64 a0_2, .int .i64 a0_3, .int .i64 a0_4, .int .i64 a0_5, .int .i64 a0_6, .int .i64 a0_7, .int .u8 a0_8]) (t := 35) ?hr ?_; (case hd => rfl); (case hg => rfl); (case hr => first | (go_simp; done) | (go_simp; rfl)); intro gb135 hg w8 hbox hb; have n0_ := Aside0.mk (below_step (by repeat (first | (with_reducible first | exact HB.out | apply below_alloc | apply pw_below_drewN | apply below_drew1) | exact HB.out)) hb); have n1_ := Aside0.mk (hbox); have n2_ := Aside0.mk ((by rw [hg]; exact (below_size (by repeat (first | (with_reducible first | exact HB.out | apply below_alloc | apply pw_below_drewN | apply below_drew1) | exact HB.out))) : w.heap.size ≤ gb135)); have n3_ := Aside0.mk ((by rw [hg]; exact (below_size (by repeat (first | (with_reducible first | exact HB.out | apply below_alloc | apply pw_below_drewN | apply below_drew1) | exact HB.out))) : w.heap.size ≤ gb135)); clear HB; have HB := n0_; have BK135 := n1_; have GW135 := n2_; have GE135 := n3_; clear n0_ n1_ n2_ n3_; clear hb hbox hg; have hcz9_0 : w8.cell? ⟨gb135, 0, none⟩ = some (.string a0_0) := (blk_cell BK135.out 0).trans rfl; have hcz9_1 : w8.cell? ⟨gb135, 1, none⟩ = some (.int .i64 a0_1) := (blk_cell BK135.out 1).trans rfl; have hcz9_2 : w8.cell? ⟨gb135, 2, none⟩ = some (.int .i64 a0_2) := (blk_cell BK135.out 2).trans rfl; have hcz9_3 : w8.cell? ⟨gb135, 3, none⟩ = some (.int .i64 a0_3) := (blk_cell BK135.out 3).trans rfl; have hcz9_4 : w8.cell? ⟨gb135, 4, none⟩ = some (.int .i64 a0_4) := (blk_cell BK135.out 4).trans rfl; have hcz9_5 : w8.cell? ⟨gb135, 5, none⟩ = some (.int .i64 a0_5) := (blk_cell BK135.out 5).trans rfl; have hcz9_6 : w8.cell? ⟨gb135, 6, none⟩ = some (.int .i64 a0_6) := (blk_cell BK135.out 6).trans rfl; have hcz9_7 : w8.cell? ⟨gb135, 7, none⟩ = some (.int .i64 a0_7) := (blk_cell BK135.out 7).trans rfl; have hcz9_8 : w8.cell? ⟨gb135, 8, none⟩ = some (.int .u8 a0_8) := (blk_cell BK135.out 8).trans rfl; have hfz9_0 := blk_frozen BK135.out 0; have hfz9_1 := blk_frozen BK135.out 1; have hfz9_2 := blk_frozen BK135.out 2; have hfz9_3 := blk_frozen BK135.out 3; have hfz9_4 := blk_frozen BK135.out 4; have hfz9_5 := blk_frozen BK135.out 5; have hfz9_6 := blk_frozen BK135.out 6; have hfz9_7 := blk_frozen BK135.out 7; have hfz9_8 := blk_frozen BK135.out 8) | (go_at_call 75; (with_reducible refine (strings_ContainsAny.calls a0_0 (⟨#[37, 0]⟩ : ByteArray) t136 _ A7.out).mono ?_); rintro e w10 ⟨rfl, hb⟩; have n0_ := Aside0.mk (blk_below (g := gb135) (o := .cells #[.string a0_0, .int .i64 a0_1, .int .i64 a0_2, .int .i64 a0_3, .int .i64 a0_4, .int .i64 a0_5, .int .i64 a0_6, .int .i64 a0_7, .int .u8 a0_8] 35 (0, 0)) (by (with_reducible repeat (first | refine blk_drewN ?_ _ | refine blk_drew ?_ | refine blk_alloc ?_ _)); exact BK135.out) hb); have n1_ := Aside0.mk (below_step (by repeat (first | (with_reducible first | exact HB.out | apply below_alloc | apply pw_below_drewN | apply below_drew1 | refine below_set ?_ GE135.out) | exact HB.out)) hb); clear BK135; clear HB; have BK135 := n0_; have HB := n1_; clear n0_ n1_; (try clear hb); (try clear hb2); (try clear hk); (try clear hi)))
        go_ret
        exact ⟨by first | rfl | (simp [errW_none, errW_some] <;> rfl) | (simp [*, errW_none, errW_some] <;> rfl), by repeat (first | (with_reducible first | exact HB.out | apply below_alloc | apply pw_below_drewN | apply below_drew1 | refine below_set ?_ GE135.out) | exact HB.out)⟩
    · rw [if_neg c3] at H
      have c3b0 : (a0_1 == 0 && (a0_2 == 0 && (a0_3 == (-1) && (a0_4 == 0 && (a0_5 == (-1) && (a0_6 == 0 && (a0_7 == 0 && (a0_8 == 0)))))))) = false := by simpa using c3
      have c3n := c3b0
      try simp only [c2b0, Bool.and_true, Bool.true_and] at c3n
      (try (have c3b1 : decide (a0_1 = 0 && (a0_2 == 0 && (a0_3 == (-1) && (a0_4 == 0 && (a0_5 == (-1) && (a0_6 == 0 && (a0_7 == 0 && (a0_8 == 0)))))))) = false := by simpa using c3))
      (try (have c3b2 : (a0_1 == 0 && (a0_2 == 0 && (a0_3 == (-1) && (a0_4 == 0 && (a0_5 == (-1) && (a0_6 == 0 && (a0_7 == 0 && (a0_8 == 0)))))))) = false := by simpa using c3))
      (try (have c3b3 : ¬ (a0_1 = 0 && (a0_2 == 0 && (a0_3 == (-1) && (a0_4 == 0 && (a0_5 == (-1) && (a0_6 == 0 && (a0_7 == 0 && (a0_8 == 0)))))))) := by simpa using c3))
      clear c3
      obtain rfl := Option.some.inj H
      go_enter Tryz.func44, Tryz.ntmps44
      go_wp2_with (first | ((with_reducible refine gate_dst (N := 1) rfl ?_); refine box_event ?hg (N := 1) ?hd (cs := #[.string a0_0, .int .i64 a0_1, .int .i64 a0_2, .int .i64 a0_3, .int .i64 a0_4, .int .i64 a0_5, .int .i64 a0_6, .int .i64 a0_7, .int .u8 a0_8]) (t := 35) ?hr ?_; (case hd => rfl); (case hg => rfl); (case hr => first | (go_simp; done) | (go_simp; rfl)); intro gb135 hg w11 hbox hb; have n0_ := Aside0.mk (below_step (by repeat (first | (with_reducible first | exact HB.out | apply below_alloc | apply pw_below_drewN | apply below_drew1) | exact HB.out)) hb); have n1_ := Aside0.mk (hbox); have n2_ := Aside0.mk ((by rw [hg]; exact (below_size (by repeat (first | (with_reducible first | exact HB.out | apply below_alloc | apply pw_below_drewN | apply below_drew1) | exact HB.out))) : w.heap.size ≤ gb135)); have n3_ := Aside0.mk ((by rw [hg]; exact (below_size (by repeat (first | (with_reducible first | exact HB.out | apply below_alloc | apply pw_below_drewN | apply below_drew1) | exact HB.out))) : w.heap.size ≤ gb135)); clear HB; have HB := n0_; have BK135 := n1_; have GW135 := n2_; have GE135 := n3_; clear n0_ n1_ n2_ n3_; clear hb hbox hg; have hcz12_0 : w11.cell? ⟨gb135, 0, none⟩ = some (.string a0_0) := (blk_cell BK135.out 0).trans rfl; have hcz12_1 : w11.cell? ⟨gb135, 1, none⟩ = some (.int .i64 a0_1) := (blk_cell BK135.out 1).trans rfl; have hcz12_2 : w11.cell? ⟨gb135, 2, none⟩ = some (.int .i64 a0_2) := (blk_cell BK135.out 2).trans rfl; have hcz12_3 : w11.cell? ⟨gb135, 3, none⟩ = some (.int .i64 a0_3) := (blk_cell BK135.out 3).trans rfl; have hcz12_4 : w11.cell? ⟨gb135, 4, none⟩ = some (.int .i64 a0_4) := (blk_cell BK135.out 4).trans rfl; have hcz12_5 : w11.cell? ⟨gb135, 5, none⟩ = some (.int .i64 a0_5) := (blk_cell BK135.out 5).trans rfl; have hcz12_6 : w11.cell? ⟨gb135, 6, none⟩ = some (.int .i64 a0_6) := (blk_cell BK135.out 6).trans rfl; have hcz12_7 : w11.cell? ⟨gb135, 7, none⟩ = some (.int .i64 a0_7) := (blk_cell BK135.out 7).trans rfl; have hcz12_8 : w11.cell? ⟨gb135, 8, none⟩ = some (.int .u8 a0_8) := (blk_cell BK135.out 8).trans rfl; have hfz12_0 := blk_frozen BK135.out 0; have hfz12_1 := blk_frozen BK135.out 1; have hfz12_2 := blk_frozen BK135.out 2; have hfz12_3 := blk_frozen BK135.out 3; have hfz12_4 := blk_frozen BK135.out 4; have hfz12_5 := blk_frozen BK135.out 5; have hfz12_6 := blk_frozen BK135.out 6; have hfz12_7 := blk_frozen BK135.out 7; have hfz12_8 := blk_frozen BK135.out 8))
      go_ret
      exact ⟨by first | rfl | (simp [errW_none, errW_some] <;> rfl) | (simp [*, errW_none, errW_some] <;> rfl), by repeat (first | (with_reducible first | exact HB.out | apply below_alloc | apply pw_below_drewN | apply below_drew1 | refine below_set ?_ GE135.out) | exact HB.out)⟩
  · rw [if_neg c2] at H
    have c2b0 : (a0_8 == 0) = false := beq_eq_false_iff_ne.mpr c2
    have c2b1 : (a0_8 != 0) = true := bne_iff_ne.mpr c2
    by_cases c13 : a0_8 = 37
    · rw [if_pos c13] at H
      have c13b0 : (a0_8 == 37) = true := beq_iff_eq.mpr c13
      have c13b1 : (a0_8 != 37) = false := bne_eq_false_iff_eq.mpr c13
      clear c13
      obtain rfl := Option.some.inj H
      go_enter Tryz.func44, Tryz.ntmps44
      go_wp2_with (first | ((with_reducible refine gate_dst (N := 1) rfl ?_); refine box_event ?hg (N := 1) ?hd (cs := #[.string a0_0, .int .i64 a0_1, .int .i64 a0_2, .int .i64 a0_3, .int .i64 a0_4, .int .i64 a0_5, .int .i64 a0_6, .int .i64 a0_7, .int .u8 a0_8]) (t := 35) ?hr ?_; (case hd => rfl); (case hg => rfl); (case hr => first | (go_simp; done) | (go_simp; rfl)); intro gb135 hg w14 hbox hb; have n0_ := Aside0.mk (below_step (by repeat (first | (with_reducible first | exact HB.out | apply below_alloc | apply pw_below_drewN | apply below_drew1) | exact HB.out)) hb); have n1_ := Aside0.mk (hbox); have n2_ := Aside0.mk ((by rw [hg]; exact (below_size (by repeat (first | (with_reducible first | exact HB.out | apply below_alloc | apply pw_below_drewN | apply below_drew1) | exact HB.out))) : w.heap.size ≤ gb135)); have n3_ := Aside0.mk ((by rw [hg]; exact (below_size (by repeat (first | (with_reducible first | exact HB.out | apply below_alloc | apply pw_below_drewN | apply below_drew1) | exact HB.out))) : w.heap.size ≤ gb135)); clear HB; have HB := n0_; have BK135 := n1_; have GW135 := n2_; have GE135 := n3_; clear n0_ n1_ n2_ n3_; clear hb hbox hg; have hcz15_0 : w14.cell? ⟨gb135, 0, none⟩ = some (.string a0_0) := (blk_cell BK135.out 0).trans rfl; have hcz15_1 : w14.cell? ⟨gb135, 1, none⟩ = some (.int .i64 a0_1) := (blk_cell BK135.out 1).trans rfl; have hcz15_2 : w14.cell? ⟨gb135, 2, none⟩ = some (.int .i64 a0_2) := (blk_cell BK135.out 2).trans rfl; have hcz15_3 : w14.cell? ⟨gb135, 3, none⟩ = some (.int .i64 a0_3) := (blk_cell BK135.out 3).trans rfl; have hcz15_4 : w14.cell? ⟨gb135, 4, none⟩ = some (.int .i64 a0_4) := (blk_cell BK135.out 4).trans rfl; have hcz15_5 : w14.cell? ⟨gb135, 5, none⟩ = some (.int .i64 a0_5) := (blk_cell BK135.out 5).trans rfl; have hcz15_6 : w14.cell? ⟨gb135, 6, none⟩ = some (.int .i64 a0_6) := (blk_cell BK135.out 6).trans rfl; have hcz15_7 : w14.cell? ⟨gb135, 7, none⟩ = some (.int .i64 a0_7) := (blk_cell BK135.out 7).trans rfl; have hcz15_8 : w14.cell? ⟨gb135, 8, none⟩ = some (.int .u8 a0_8) := (blk_cell BK135.out 8).trans rfl; have hfz15_0 := blk_frozen BK135.out 0; have hfz15_1 := blk_frozen BK135.out 1; have hfz15_2 := blk_frozen BK135.out 2; have hfz15_3 := blk_frozen BK135.out 3; have hfz15_4 := blk_frozen BK135.out 4; have hfz15_5 := blk_frozen BK135.out 5; have hfz15_6 := blk_frozen BK135.out 6; have hfz15_7 := blk_frozen BK135.out 7; have hfz15_8 := blk_frozen BK135.out 8))
      go_ret
      exact ⟨by first | rfl | (simp [errW_none, errW_some] <;> rfl) | (simp [*, errW_none, errW_some] <;> rfl), by repeat (first | (with_reducible first | exact HB.out | apply below_alloc | apply pw_below_drewN | apply below_drew1 | refine below_set ?_ GE135.out) | exact HB.out)⟩
    · rw [if_neg c13] at H
      have c13b0 : (a0_8 == 37) = false := beq_eq_false_iff_ne.mpr c13
      have c13b1 : (a0_8 != 37) = true := bne_iff_ne.mpr c13
      replace H := Option.bind_eq_some_iff.mp H
      obtain ⟨⟨t137, t138, t139, t140, t141⟩, A160, H⟩ := H
      replace H : (if t141 = true then (if a0_0.toList = ([] : List UInt8) then (if a0_1 < 1 then (spec_fits.j0 k true a0_0 a0_1 a0_2 a0_3 a0_4 a0_5 a0_6 a0_7 a0_8 t137 t138 t139 t140) else (if a0_1 > 64 then (spec_fits.j0 k true a0_0 a0_1 a0_2 a0_3 a0_4 a0_5 a0_6 a0_7 a0_8 t137 t138 t139 t140) else (if (Go.bits .andNot .i64 a0_2 t137) = 0 then ((spec_rule_allows.f t137 t138 t139 t140 a0_7).bind fun t143 => (spec_fits.j0 k (!t143) a0_0 a0_1 a0_2 a0_3 a0_4 a0_5 a0_6 a0_7 a0_8 t137 t138 t139 t140)) else (spec_fits.j0 k true a0_0 a0_1 a0_2 a0_3 a0_4 a0_5 a0_6 a0_7 a0_8 t137 t138 t139 t140)))) else (spec_fits.j0 k true a0_0 a0_1 a0_2 a0_3 a0_4 a0_5 a0_6 a0_7 a0_8 t137 t138 t139 t140)) else (spec_fits.j0 k true a0_0 a0_1 a0_2 a0_3 a0_4 a0_5 a0_6 a0_7 a0_8 t137 t138 t139 t140)) = some r := H
      have A16 := Aside0.mk A160
      clear A160
      have HC17 := Aside0.mk H
      clear H
      go_enter Tryz.func44, Tryz.ntmps44
      go_upto_region 7 with (first | ((with_reducible refine gate_dst (N := 1) rfl ?_); refine box_event ?hg (N := 1) ?hd (cs := #[.string a0_0, .int .i64 a0_1, .int .i64 a0_2, .int .i64 a0_3, .int .i64 a0_4, .int .i64 a0_5, .int .i64 a0_6, .int .i64 a0_7, .int .u8 a0_8]) (t := 35) ?hr ?_; (case hd => rfl); (case hg => rfl); (case hr => first | (go_simp; done) | (go_simp; rfl)); intro gb135 hg w18 hbox hb; have n0_ := Aside0.mk (below_step (by repeat (first | (with_reducible first | exact HB.out | apply below_alloc | apply pw_below_drewN | apply below_drew1) | exact HB.out)) hb); have n1_ := Aside0.mk (hbox); have n2_ := Aside0.mk ((by rw [hg]; exact (below_size (by repeat (first | (with_reducible first | exact HB.out | apply below_alloc | apply pw_below_drewN | apply below_drew1) | exact HB.out))) : w.heap.size ≤ gb135)); have n3_ := Aside0.mk ((by rw [hg]; exact (below_size (by repeat (first | (with_reducible first | exact HB.out | apply below_alloc | apply pw_below_drewN | apply below_drew1) | exact HB.out))) : w.heap.size ≤ gb135)); clear HB; have HB := n0_; have BK135 := n1_; have GW135 := n2_; have GE135 := n3_; clear n0_ n1_ n2_ n3_; clear hb hbox hg; have hcz19_0 : w18.cell? ⟨gb135, 0, none⟩ = some (.string a0_0) := (blk_cell BK135.out 0).trans rfl; have hcz19_1 : w18.cell? ⟨gb135, 1, none⟩ = some (.int .i64 a0_1) := (blk_cell BK135.out 1).trans rfl; have hcz19_2 : w18.cell? ⟨gb135, 2, none⟩ = some (.int .i64 a0_2) := (blk_cell BK135.out 2).trans rfl; have hcz19_3 : w18.cell? ⟨gb135, 3, none⟩ = some (.int .i64 a0_3) := (blk_cell BK135.out 3).trans rfl; have hcz19_4 : w18.cell? ⟨gb135, 4, none⟩ = some (.int .i64 a0_4) := (blk_cell BK135.out 4).trans rfl; have hcz19_5 : w18.cell? ⟨gb135, 5, none⟩ = some (.int .i64 a0_5) := (blk_cell BK135.out 5).trans rfl; have hcz19_6 : w18.cell? ⟨gb135, 6, none⟩ = some (.int .i64 a0_6) := (blk_cell BK135.out 6).trans rfl; have hcz19_7 : w18.cell? ⟨gb135, 7, none⟩ = some (.int .i64 a0_7) := (blk_cell BK135.out 7).trans rfl; have hcz19_8 : w18.cell? ⟨gb135, 8, none⟩ = some (.int .u8 a0_8) := (blk_cell BK135.out 8).trans rfl; have hfz19_0 := blk_frozen BK135.out 0; have hfz19_1 := blk_frozen BK135.out 1; have hfz19_2 := blk_frozen BK135.out 2; have hfz19_3 := blk_frozen BK135.out 3; have hfz19_4 := blk_frozen BK135.out 4; have hfz19_5 := blk_frozen BK135.out 5; have hfz19_6 := blk_frozen BK135.out 6; have hfz19_7 := blk_frozen BK135.out 7; have hfz19_8 := blk_frozen BK135.out 8) | ((with_reducible refine gate_callee (f := 46) rfl ?_); refine goesL_ (some 33) rfl rfl Tryz.func46 (by kernel_rfl) rfl #[.int .u8 a0_8] rfl (by (try simp only [List.map_toArray, List.map_cons, List.map_nil]); first | done | rfl | (simp only [List.length_drop, List.length_take]; rfl)) ?_; (with_reducible refine (spec_ruleOf.calls k a0_8 t137 t138 t139 t140 t141 _ A16.out).mono ?_); rintro e w20 ⟨rfl, hb⟩; refine ⟨_, rfl, ?_⟩; have n0_ := Aside0.mk (blk_below (g := gb135) (o := .cells #[.string a0_0, .int .i64 a0_1, .int .i64 a0_2, .int .i64 a0_3, .int .i64 a0_4, .int .i64 a0_5, .int .i64 a0_6, .int .i64 a0_7, .int .u8 a0_8] 35 (0, 0)) (by (with_reducible repeat (first | refine blk_drewN ?_ _ | refine blk_drew ?_ | refine blk_alloc ?_ _)); exact BK135.out) hb); have n1_ := Aside0.mk (below_step (by repeat (first | (with_reducible first | exact HB.out | apply below_alloc | apply pw_below_drewN | apply below_drew1 | refine below_set ?_ GE135.out) | exact HB.out)) hb); clear BK135; clear HB; have BK135 := n0_; have HB := n1_; clear n0_ n1_; (try clear hb); (try clear hb2); (try clear hk); (try clear hi)) | ((with_reducible refine gate_dst (N := 3) rfl ?_); refine box_event ?hg (N := 3) ?hd (cs := #[.int .i64 0, .string (⟨#[]⟩ : ByteArray), .bool false, .bool false]) (t := 85) ?hr ?_; (case hd => rfl); (case hg => rfl); (case hr => first | (go_simp; done) | (go_simp; rfl)); intro gb142 hg w21 hbox hb; have n0_ := Aside0.mk (blk_below (g := gb135) (o := .cells #[.string a0_0, .int .i64 a0_1, .int .i64 a0_2, .int .i64 a0_3, .int .i64 a0_4, .int .i64 a0_5, .int .i64 a0_6, .int .i64 a0_7, .int .u8 a0_8] 35 (0, 0)) (by (with_reducible repeat (first | refine blk_drewN ?_ _ | refine blk_drew ?_ | refine blk_alloc ?_ _)); exact BK135.out) hb); have n1_ := Aside0.mk (below_step (by repeat (first | (with_reducible first | exact HB.out | apply below_alloc | apply pw_below_drewN | apply below_drew1 | refine below_set ?_ GE135.out) | exact HB.out)) hb); have n2_ := Aside0.mk (hbox); have n3_ := Aside0.mk ((by rw [hg]; exact (below_size (by repeat (first | (with_reducible first | exact HB.out | apply below_alloc | apply pw_below_drewN | apply below_drew1 | refine below_set ?_ GE135.out) | exact HB.out))) : w.heap.size ≤ gb142)); have n4_ := Aside0.mk ((by rw [hg]; exact (below_size (by repeat (first | (with_reducible first | exact HB.out | apply below_alloc | apply pw_below_drewN | apply below_drew1 | refine below_set ?_ GE135.out) | exact HB.out))) : w.heap.size ≤ gb142)); have n5_ := Aside0.mk ((by rw [hg]; exact Nat.ne_of_lt (blk_lt (g := gb135) (o := .cells #[.string a0_0, .int .i64 a0_1, .int .i64 a0_2, .int .i64 a0_3, .int .i64 a0_4, .int .i64 a0_5, .int .i64 a0_6, .int .i64 a0_7, .int .u8 a0_8] 35 (0, 0)) (by (with_reducible repeat (first | refine blk_drewN ?_ _ | refine blk_drew ?_ | refine blk_alloc ?_ _)); exact BK135.out)) : gb135 ≠ gb142)); have n6_ := Aside0.mk ((by rw [hg]; exact Nat.ne_of_gt (blk_lt (g := gb135) (o := .cells #[.string a0_0, .int .i64 a0_1, .int .i64 a0_2, .int .i64 a0_3, .int .i64 a0_4, .int .i64 a0_5, .int .i64 a0_6, .int .i64 a0_7, .int .u8 a0_8] 35 (0, 0)) (by (with_reducible repeat (first | refine blk_drewN ?_ _ | refine blk_drew ?_ | refine blk_alloc ?_ _)); exact BK135.out)) : gb142 ≠ gb135)); clear BK135; clear HB; have BK135 := n0_; have HB := n1_; have BK142 := n2_; have GW142 := n3_; have GE142 := n4_; have NB135_142 := n5_; have NB142_135 := n6_; clear n0_ n1_ n2_ n3_ n4_ n5_ n6_; clear hb hbox hg; have hnb22 := NB142_135.out; have hnc22 := NB135_142.out; have hcz23_0 : w21.cell? ⟨gb142, 0, none⟩ = some (.int .i64 0) := (blk_cell BK142.out 0).trans rfl; have hcz23_1 : w21.cell? ⟨gb142, 1, none⟩ = some (.string (⟨#[]⟩ : ByteArray)) := (blk_cell BK142.out 1).trans rfl; have hcz23_2 : w21.cell? ⟨gb142, 2, none⟩ = some (.bool false) := (blk_cell BK142.out 2).trans rfl; have hcz23_3 : w21.cell? ⟨gb142, 3, none⟩ = some (.bool false) := (blk_cell BK142.out 3).trans rfl; have hfz23_0 := blk_frozen BK142.out 0; have hfz23_1 := blk_frozen BK142.out 1; have hfz23_2 := blk_frozen BK142.out 2; have hfz23_3 := blk_frozen BK142.out 3))
      (try simp only [Act.put, List.setIfInBounds_toArray, List.set_cons_zero, List.set_cons_succ])
      go_cut [67] (fun v67 wc => ∃ (kq : Nat) (x67_16 : Bool), v67 = .bool x67_16 ∧ Aside0 (spec_fits.j0 kq x67_16 a0_0 a0_1 a0_2 a0_3 a0_4 a0_5 a0_6 a0_7 a0_8 t137 t138 t139 t140 = some r) ∧ Aside0 (kq ≤ k) ∧ Aside0 (wc.heap[gb135]? = some (.cells #[.string a0_0, .int .i64 a0_1, .int .i64 a0_2, .int .i64 a0_3, .int .i64 a0_4, .int .i64 a0_5, .int .i64 a0_6, .int .i64 a0_7, .int .u8 a0_8] 35 (0, 0))) ∧ Aside0 (wc.heap[gb142]? = some (.cells #[.int .i64 t137, .string t138, .bool t139, .bool t140] 85 (0, 0))) ∧ Aside0 (Below w.heap.size w wc))
      case first =>
        have H := HC17.out
        clear HC17
        by_cases c24 : t141 = true
        · subst c24
          have H1 : (if a0_0.toList = ([] : List UInt8) then (if a0_1 < 1 then (spec_fits.j0 k true a0_0 a0_1 a0_2 a0_3 a0_4 a0_5 a0_6 a0_7 a0_8 t137 t138 t139 t140) else (if a0_1 > 64 then (spec_fits.j0 k true a0_0 a0_1 a0_2 a0_3 a0_4 a0_5 a0_6 a0_7 a0_8 t137 t138 t139 t140) else (if (Go.bits .andNot .i64 a0_2 t137) = 0 then ((spec_rule_allows.f t137 t138 t139 t140 a0_7).bind fun t143 => (spec_fits.j0 k (!t143) a0_0 a0_1 a0_2 a0_3 a0_4 a0_5 a0_6 a0_7 a0_8 t137 t138 t139 t140)) else (spec_fits.j0 k true a0_0 a0_1 a0_2 a0_3 a0_4 a0_5 a0_6 a0_7 a0_8 t137 t138 t139 t140)))) else (spec_fits.j0 k true a0_0 a0_1 a0_2 a0_3 a0_4 a0_5 a0_6 a0_7 a0_8 t137 t138 t139 t140)) = some r := by rw [if_pos rfl] at H; exact H
          clear H
          have H := H1
          clear H1
          by_cases c25 : a0_0.toList = ([] : List UInt8)
          · rw [if_pos c25] at H
            have c25b0 : (a0_0.toList == ([] : List UInt8)) = true := beq_iff_eq.mpr c25
            have c25b1 : (a0_0.toList != ([] : List UInt8)) = false := bne_eq_false_iff_eq.mpr c25
            clear c25
            (first | rw [c25b0] | (simp only [i64_w, i32_w]; rw [c25b0]) | skip)
            by_cases c26 : a0_1 < 1
            · rw [if_pos c26] at H
              have c26b0 : decide (a0_1 < 1) = true := decide_eq_true c26
              clear c26
              have H' := Aside0.mk H
              clear H
              have hnb27 := NB135_142.out
              have hnc27 := NB142_135.out
              have hcz28_0 : w21.cell? ⟨gb135, 0, none⟩ = some (.string a0_0) := (blk_cell BK135.out 0).trans rfl
              have hcz28_1 : w21.cell? ⟨gb135, 1, none⟩ = some (.int .i64 a0_1) := (blk_cell BK135.out 1).trans rfl
              have hcz28_2 : w21.cell? ⟨gb135, 2, none⟩ = some (.int .i64 a0_2) := (blk_cell BK135.out 2).trans rfl
              have hcz28_3 : w21.cell? ⟨gb135, 3, none⟩ = some (.int .i64 a0_3) := (blk_cell BK135.out 3).trans rfl
              have hcz28_4 : w21.cell? ⟨gb135, 4, none⟩ = some (.int .i64 a0_4) := (blk_cell BK135.out 4).trans rfl
              have hcz28_5 : w21.cell? ⟨gb135, 5, none⟩ = some (.int .i64 a0_5) := (blk_cell BK135.out 5).trans rfl
              have hcz28_6 : w21.cell? ⟨gb135, 6, none⟩ = some (.int .i64 a0_6) := (blk_cell BK135.out 6).trans rfl
              have hcz28_7 : w21.cell? ⟨gb135, 7, none⟩ = some (.int .i64 a0_7) := (blk_cell BK135.out 7).trans rfl
              have hcz28_8 : w21.cell? ⟨gb135, 8, none⟩ = some (.int .u8 a0_8) := (blk_cell BK135.out 8).trans rfl
              have hfz28_0 := blk_frozen BK135.out 0
              have hfz28_1 := blk_frozen BK135.out 1
              have hfz28_2 := blk_frozen BK135.out 2
              have hfz28_3 := blk_frozen BK135.out 3
              have hfz28_4 := blk_frozen BK135.out 4
              have hfz28_5 := blk_frozen BK135.out 5
              have hfz28_6 := blk_frozen BK135.out 6
              have hfz28_7 := blk_frozen BK135.out 7
              have hfz28_8 := blk_frozen BK135.out 8
              go_wp2
              go_meet
              case rel => exact ⟨_, (true), (by first | rfl | (simp; done) | (simp [*]; done)), H', ⟨by first | omega | exact Nat.le_refl _⟩, ⟨by (with_reducible repeat (first | refine blk_drewN ?_ _ | refine blk_drew ?_ | refine blk_alloc ?_ _)); refine blk_far ?_ NB135_142.out _; (with_reducible repeat (first | refine blk_drewN ?_ _ | refine blk_drew ?_ | refine blk_alloc ?_ _)); refine blk_far ?_ NB135_142.out _; (with_reducible repeat (first | refine blk_drewN ?_ _ | refine blk_drew ?_ | refine blk_alloc ?_ _)); refine blk_far ?_ NB135_142.out _; (with_reducible repeat (first | refine blk_drewN ?_ _ | refine blk_drew ?_ | refine blk_alloc ?_ _)); refine blk_far ?_ NB135_142.out _; (with_reducible repeat (first | refine blk_drewN ?_ _ | refine blk_drew ?_ | refine blk_alloc ?_ _)); exact BK135.out⟩, ⟨by (with_reducible repeat (first | refine blk_drewN ?_ _ | refine blk_drew ?_ | refine blk_alloc ?_ _)); refine blk_put (cs := #[.int .i64 t137, .string t138, .bool t139, .bool false]) ?_ 3 _ rfl; (with_reducible repeat (first | refine blk_drewN ?_ _ | refine blk_drew ?_ | refine blk_alloc ?_ _)); refine blk_put (cs := #[.int .i64 t137, .string t138, .bool false, .bool false]) ?_ 2 _ rfl; (with_reducible repeat (first | refine blk_drewN ?_ _ | refine blk_drew ?_ | refine blk_alloc ?_ _)); refine blk_put (cs := #[.int .i64 t137, .string (⟨#[]⟩ : ByteArray), .bool false, .bool false]) ?_ 1 _ rfl; (with_reducible repeat (first | refine blk_drewN ?_ _ | refine blk_drew ?_ | refine blk_alloc ?_ _)); refine blk_put (cs := #[.int .i64 0, .string (⟨#[]⟩ : ByteArray), .bool false, .bool false]) ?_ 0 _ rfl; (with_reducible repeat (first | refine blk_drewN ?_ _ | refine blk_drew ?_ | refine blk_alloc ?_ _)); exact BK142.out⟩, ⟨by repeat (first | (with_reducible first | exact HB.out | apply below_alloc | apply pw_below_drewN | apply below_drew1 | refine below_set ?_ GE135.out | refine below_set ?_ GE142.out) | exact HB.out)⟩⟩
            · rw [if_neg c26] at H
              have c26b0 : decide (a0_1 < 1) = false := decide_eq_false c26
              clear c26
              by_cases c29 : a0_1 > 64
              · rw [if_pos c29] at H
                have c29b0 : decide (64 < a0_1) = true := decide_eq_true c29
                clear c29
                have H' := Aside0.mk H
                clear H
                have hnb30 := NB135_142.out
                have hnc30 := NB142_135.out
                have hcz31_0 : w21.cell? ⟨gb135, 0, none⟩ = some (.string a0_0) := (blk_cell BK135.out 0).trans rfl
                have hcz31_1 : w21.cell? ⟨gb135, 1, none⟩ = some (.int .i64 a0_1) := (blk_cell BK135.out 1).trans rfl
                have hcz31_2 : w21.cell? ⟨gb135, 2, none⟩ = some (.int .i64 a0_2) := (blk_cell BK135.out 2).trans rfl
                have hcz31_3 : w21.cell? ⟨gb135, 3, none⟩ = some (.int .i64 a0_3) := (blk_cell BK135.out 3).trans rfl
                have hcz31_4 : w21.cell? ⟨gb135, 4, none⟩ = some (.int .i64 a0_4) := (blk_cell BK135.out 4).trans rfl
                have hcz31_5 : w21.cell? ⟨gb135, 5, none⟩ = some (.int .i64 a0_5) := (blk_cell BK135.out 5).trans rfl
                have hcz31_6 : w21.cell? ⟨gb135, 6, none⟩ = some (.int .i64 a0_6) := (blk_cell BK135.out 6).trans rfl
                have hcz31_7 : w21.cell? ⟨gb135, 7, none⟩ = some (.int .i64 a0_7) := (blk_cell BK135.out 7).trans rfl
                have hcz31_8 : w21.cell? ⟨gb135, 8, none⟩ = some (.int .u8 a0_8) := (blk_cell BK135.out 8).trans rfl
                have hfz31_0 := blk_frozen BK135.out 0
                have hfz31_1 := blk_frozen BK135.out 1
                have hfz31_2 := blk_frozen BK135.out 2
                have hfz31_3 := blk_frozen BK135.out 3
                have hfz31_4 := blk_frozen BK135.out 4
                have hfz31_5 := blk_frozen BK135.out 5
                have hfz31_6 := blk_frozen BK135.out 6
                have hfz31_7 := blk_frozen BK135.out 7
                have hfz31_8 := blk_frozen BK135.out 8
                go_wp2
                go_meet
                case rel => exact ⟨_, (true), (by first | rfl | (simp; done) | (simp [*]; done)), H', ⟨by first | omega | exact Nat.le_refl _⟩, ⟨by (with_reducible repeat (first | refine blk_drewN ?_ _ | refine blk_drew ?_ | refine blk_alloc ?_ _)); refine blk_far ?_ NB135_142.out _; (with_reducible repeat (first | refine blk_drewN ?_ _ | refine blk_drew ?_ | refine blk_alloc ?_ _)); refine blk_far ?_ NB135_142.out _; (with_reducible repeat (first | refine blk_drewN ?_ _ | refine blk_drew ?_ | refine blk_alloc ?_ _)); refine blk_far ?_ NB135_142.out _; (with_reducible repeat (first | refine blk_drewN ?_ _ | refine blk_drew ?_ | refine blk_alloc ?_ _)); refine blk_far ?_ NB135_142.out _; (with_reducible repeat (first | refine blk_drewN ?_ _ | refine blk_drew ?_ | refine blk_alloc ?_ _)); exact BK135.out⟩, ⟨by (with_reducible repeat (first | refine blk_drewN ?_ _ | refine blk_drew ?_ | refine blk_alloc ?_ _)); refine blk_put (cs := #[.int .i64 t137, .string t138, .bool t139, .bool false]) ?_ 3 _ rfl; (with_reducible repeat (first | refine blk_drewN ?_ _ | refine blk_drew ?_ | refine blk_alloc ?_ _)); refine blk_put (cs := #[.int .i64 t137, .string t138, .bool false, .bool false]) ?_ 2 _ rfl; (with_reducible repeat (first | refine blk_drewN ?_ _ | refine blk_drew ?_ | refine blk_alloc ?_ _)); refine blk_put (cs := #[.int .i64 t137, .string (⟨#[]⟩ : ByteArray), .bool false, .bool false]) ?_ 1 _ rfl; (with_reducible repeat (first | refine blk_drewN ?_ _ | refine blk_drew ?_ | refine blk_alloc ?_ _)); refine blk_put (cs := #[.int .i64 0, .string (⟨#[]⟩ : ByteArray), .bool false, .bool false]) ?_ 0 _ rfl; (with_reducible repeat (first | refine blk_drewN ?_ _ | refine blk_drew ?_ | refine blk_alloc ?_ _)); exact BK142.out⟩, ⟨by repeat (first | (with_reducible first | exact HB.out | apply below_alloc | apply pw_below_drewN | apply below_drew1 | refine below_set ?_ GE135.out | refine below_set ?_ GE142.out) | exact HB.out)⟩⟩
              · rw [if_neg c29] at H
                have c29b0 : decide (64 < a0_1) = false := decide_eq_false c29
                clear c29
                by_cases c32 : (Go.bits .andNot .i64 a0_2 t137) = 0
                · rw [if_pos c32] at H
                  have c32b0 : ((Go.bits .andNot .i64 a0_2 t137) == 0) = true := beq_iff_eq.mpr c32
                  have c32b1 : ((Go.bits .andNot .i64 a0_2 t137) != 0) = false := bne_eq_false_iff_eq.mpr c32
                  clear c32
                  replace H := Option.bind_eq_some_iff.mp H
                  obtain ⟨t143, A330, H⟩ := H
                  replace H : (spec_fits.j0 k (!t143) a0_0 a0_1 a0_2 a0_3 a0_4 a0_5 a0_6 a0_7 a0_8 t137 t138 t139 t140) = some r := H
                  have A33 := Aside0.mk A330
                  clear A330
                  have H' := Aside0.mk H
                  clear H
                  have hnb34 := NB135_142.out
                  have hnc34 := NB142_135.out
                  have hcz35_0 : w21.cell? ⟨gb135, 0, none⟩ = some (.string a0_0) := (blk_cell BK135.out 0).trans rfl
                  have hcz35_1 : w21.cell? ⟨gb135, 1, none⟩ = some (.int .i64 a0_1) := (blk_cell BK135.out 1).trans rfl
                  have hcz35_2 : w21.cell? ⟨gb135, 2, none⟩ = some (.int .i64 a0_2) := (blk_cell BK135.out 2).trans rfl
                  have hcz35_3 : w21.cell? ⟨gb135, 3, none⟩ = some (.int .i64 a0_3) := (blk_cell BK135.out 3).trans rfl
                  have hcz35_4 : w21.cell? ⟨gb135, 4, none⟩ = some (.int .i64 a0_4) := (blk_cell BK135.out 4).trans rfl
                  have hcz35_5 : w21.cell? ⟨gb135, 5, none⟩ = some (.int .i64 a0_5) := (blk_cell BK135.out 5).trans rfl
                  have hcz35_6 : w21.cell? ⟨gb135, 6, none⟩ = some (.int .i64 a0_6) := (blk_cell BK135.out 6).trans rfl
                  have hcz35_7 : w21.cell? ⟨gb135, 7, none⟩ = some (.int .i64 a0_7) := (blk_cell BK135.out 7).trans rfl
                  have hcz35_8 : w21.cell? ⟨gb135, 8, none⟩ = some (.int .u8 a0_8) := (blk_cell BK135.out 8).trans rfl
                  have hfz35_0 := blk_frozen BK135.out 0
                  have hfz35_1 := blk_frozen BK135.out 1
                  have hfz35_2 := blk_frozen BK135.out 2
                  have hfz35_3 := blk_frozen BK135.out 3
                  have hfz35_4 := blk_frozen BK135.out 4
                  have hfz35_5 := blk_frozen BK135.out 5
                  have hfz35_6 := blk_frozen BK135.out 6
                  have hfz35_7 := blk_frozen BK135.out 7
                  have hfz35_8 := blk_frozen BK135.out 8
                  have hcz36_0 : w21.cell? ⟨gb142, 0, none⟩ = some (.int .i64 0) := (blk_cell BK142.out 0).trans rfl
                  have hcz36_1 : w21.cell? ⟨gb142, 1, none⟩ = some (.string (⟨#[]⟩ : ByteArray)) := (blk_cell BK142.out 1).trans rfl
                  have hcz36_2 : w21.cell? ⟨gb142, 2, none⟩ = some (.bool false) := (blk_cell BK142.out 2).trans rfl
                  have hcz36_3 : w21.cell? ⟨gb142, 3, none⟩ = some (.bool false) := (blk_cell BK142.out 3).trans rfl
                  have hfz36_0 := blk_frozen BK142.out 0
                  have hfz36_1 := blk_frozen BK142.out 1
                  have hfz36_2 := blk_frozen BK142.out 2
                  have hfz36_3 := blk_frozen BK142.out 3
                  go_wp2_with (first | (go_at_call 76; (with_reducible refine (spec_rule_allows.calls t137 t138 t139 t140 a0_7 t143 _ A33.out).mono ?_); rintro e w37 ⟨rfl, hb⟩; have n0_ := Aside0.mk (blk_below (g := gb135) (o := .cells #[.string a0_0, .int .i64 a0_1, .int .i64 a0_2, .int .i64 a0_3, .int .i64 a0_4, .int .i64 a0_5, .int .i64 a0_6, .int .i64 a0_7, .int .u8 a0_8] 35 (0, 0)) (by (with_reducible repeat (first | refine blk_drewN ?_ _ | refine blk_drew ?_ | refine blk_alloc ?_ _)); refine blk_far ?_ NB135_142.out _; (with_reducible repeat (first | refine blk_drewN ?_ _ | refine blk_drew ?_ | refine blk_alloc ?_ _)); refine blk_far ?_ NB135_142.out _; (with_reducible repeat (first | refine blk_drewN ?_ _ | refine blk_drew ?_ | refine blk_alloc ?_ _)); refine blk_far ?_ NB135_142.out _; (with_reducible repeat (first | refine blk_drewN ?_ _ | refine blk_drew ?_ | refine blk_alloc ?_ _)); refine blk_far ?_ NB135_142.out _; (with_reducible repeat (first | refine blk_drewN ?_ _ | refine blk_drew ?_ | refine blk_alloc ?_ _)); exact BK135.out) hb); have n1_ := Aside0.mk (blk_below (g := gb142) (o := .cells #[.int .i64 t137, .string t138, .bool t139, .bool t140] 85 (0, 0)) (by (with_reducible repeat (first | refine blk_drewN ?_ _ | refine blk_drew ?_ | refine blk_alloc ?_ _)); refine blk_put (cs := #[.int .i64 t137, .string t138, .bool t139, .bool false]) ?_ 3 _ rfl; (with_reducible repeat (first | refine blk_drewN ?_ _ | refine blk_drew ?_ | refine blk_alloc ?_ _)); refine blk_put (cs := #[.int .i64 t137, .string t138, .bool false, .bool false]) ?_ 2 _ rfl; (with_reducible repeat (first | refine blk_drewN ?_ _ | refine blk_drew ?_ | refine blk_alloc ?_ _)); refine blk_put (cs := #[.int .i64 t137, .string (⟨#[]⟩ : ByteArray), .bool false, .bool false]) ?_ 1 _ rfl; (with_reducible repeat (first | refine blk_drewN ?_ _ | refine blk_drew ?_ | refine blk_alloc ?_ _)); refine blk_put (cs := #[.int .i64 0, .string (⟨#[]⟩ : ByteArray), .bool false, .bool false]) ?_ 0 _ rfl; (with_reducible repeat (first | refine blk_drewN ?_ _ | refine blk_drew ?_ | refine blk_alloc ?_ _)); exact BK142.out) hb); have n2_ := Aside0.mk (below_step (by repeat (first | (with_reducible first | exact HB.out | apply below_alloc | apply pw_below_drewN | apply below_drew1 | refine below_set ?_ GE135.out | refine below_set ?_ GE142.out) | exact HB.out)) hb); clear BK135; clear BK142; clear HB; have BK135 := n0_; have BK142 := n1_; have HB := n2_; clear n0_ n1_ n2_; (try clear hb); (try clear hb2); (try clear hk); (try clear hi)))
                  go_meet
                  case rel => exact ⟨_, (!t143), (by first | rfl | (simp; done) | (simp [*]; done)), H', ⟨by first | omega | exact Nat.le_refl _⟩, ⟨by (with_reducible repeat (first | refine blk_drewN ?_ _ | refine blk_drew ?_ | refine blk_alloc ?_ _)); exact BK135.out⟩, ⟨by (with_reducible repeat (first | refine blk_drewN ?_ _ | refine blk_drew ?_ | refine blk_alloc ?_ _)); exact BK142.out⟩, ⟨by repeat (first | (with_reducible first | exact HB.out | apply below_alloc | apply pw_below_drewN | apply below_drew1 | refine below_set ?_ GE135.out | refine below_set ?_ GE142.out) | exact HB.out)⟩⟩
                · rw [if_neg c32] at H
                  have c32b0 : ((Go.bits .andNot .i64 a0_2 t137) == 0) = false := beq_eq_false_iff_ne.mpr c32
                  have c32b1 : ((Go.bits .andNot .i64 a0_2 t137) != 0) = true := bne_iff_ne.mpr c32
                  have H' := Aside0.mk H
                  clear H
                  have hnb38 := NB135_142.out
                  have hnc38 := NB142_135.out
                  have hcz39_0 : w21.cell? ⟨gb135, 0, none⟩ = some (.string a0_0) := (blk_cell BK135.out 0).trans rfl
                  have hcz39_1 : w21.cell? ⟨gb135, 1, none⟩ = some (.int .i64 a0_1) := (blk_cell BK135.out 1).trans rfl
                  have hcz39_2 : w21.cell? ⟨gb135, 2, none⟩ = some (.int .i64 a0_2) := (blk_cell BK135.out 2).trans rfl
                  have hcz39_3 : w21.cell? ⟨gb135, 3, none⟩ = some (.int .i64 a0_3) := (blk_cell BK135.out 3).trans rfl
                  have hcz39_4 : w21.cell? ⟨gb135, 4, none⟩ = some (.int .i64 a0_4) := (blk_cell BK135.out 4).trans rfl
                  have hcz39_5 : w21.cell? ⟨gb135, 5, none⟩ = some (.int .i64 a0_5) := (blk_cell BK135.out 5).trans rfl
                  have hcz39_6 : w21.cell? ⟨gb135, 6, none⟩ = some (.int .i64 a0_6) := (blk_cell BK135.out 6).trans rfl
                  have hcz39_7 : w21.cell? ⟨gb135, 7, none⟩ = some (.int .i64 a0_7) := (blk_cell BK135.out 7).trans rfl
                  have hcz39_8 : w21.cell? ⟨gb135, 8, none⟩ = some (.int .u8 a0_8) := (blk_cell BK135.out 8).trans rfl
                  have hfz39_0 := blk_frozen BK135.out 0
                  have hfz39_1 := blk_frozen BK135.out 1
                  have hfz39_2 := blk_frozen BK135.out 2
                  have hfz39_3 := blk_frozen BK135.out 3
                  have hfz39_4 := blk_frozen BK135.out 4
                  have hfz39_5 := blk_frozen BK135.out 5
                  have hfz39_6 := blk_frozen BK135.out 6
                  have hfz39_7 := blk_frozen BK135.out 7
                  have hfz39_8 := blk_frozen BK135.out 8
                  have hcz40_0 : w21.cell? ⟨gb142, 0, none⟩ = some (.int .i64 0) := (blk_cell BK142.out 0).trans rfl
                  have hcz40_1 : w21.cell? ⟨gb142, 1, none⟩ = some (.string (⟨#[]⟩ : ByteArray)) := (blk_cell BK142.out 1).trans rfl
                  have hcz40_2 : w21.cell? ⟨gb142, 2, none⟩ = some (.bool false) := (blk_cell BK142.out 2).trans rfl
                  have hcz40_3 : w21.cell? ⟨gb142, 3, none⟩ = some (.bool false) := (blk_cell BK142.out 3).trans rfl
                  have hfz40_0 := blk_frozen BK142.out 0
                  have hfz40_1 := blk_frozen BK142.out 1
                  have hfz40_2 := blk_frozen BK142.out 2
                  have hfz40_3 := blk_frozen BK142.out 3
                  go_wp2
                  go_meet
                  case rel => exact ⟨_, (true), (by first | rfl | (simp; done) | (simp [*]; done)), H', ⟨by first | omega | exact Nat.le_refl _⟩, ⟨by (with_reducible repeat (first | refine blk_drewN ?_ _ | refine blk_drew ?_ | refine blk_alloc ?_ _)); refine blk_far ?_ NB135_142.out _; (with_reducible repeat (first | refine blk_drewN ?_ _ | refine blk_drew ?_ | refine blk_alloc ?_ _)); refine blk_far ?_ NB135_142.out _; (with_reducible repeat (first | refine blk_drewN ?_ _ | refine blk_drew ?_ | refine blk_alloc ?_ _)); refine blk_far ?_ NB135_142.out _; (with_reducible repeat (first | refine blk_drewN ?_ _ | refine blk_drew ?_ | refine blk_alloc ?_ _)); refine blk_far ?_ NB135_142.out _; (with_reducible repeat (first | refine blk_drewN ?_ _ | refine blk_drew ?_ | refine blk_alloc ?_ _)); exact BK135.out⟩, ⟨by (with_reducible repeat (first | refine blk_drewN ?_ _ | refine blk_drew ?_ | refine blk_alloc ?_ _)); refine blk_put (cs := #[.int .i64 t137, .string t138, .bool t139, .bool false]) ?_ 3 _ rfl; (with_reducible repeat (first | refine blk_drewN ?_ _ | refine blk_drew ?_ | refine blk_alloc ?_ _)); refine blk_put (cs := #[.int .i64 t137, .string t138, .bool false, .bool false]) ?_ 2 _ rfl; (with_reducible repeat (first | refine blk_drewN ?_ _ | refine blk_drew ?_ | refine blk_alloc ?_ _)); refine blk_put (cs := #[.int .i64 t137, .string (⟨#[]⟩ : ByteArray), .bool false, .bool false]) ?_ 1 _ rfl; (with_reducible repeat (first | refine blk_drewN ?_ _ | refine blk_drew ?_ | refine blk_alloc ?_ _)); refine blk_put (cs := #[.int .i64 0, .string (⟨#[]⟩ : ByteArray), .bool false, .bool false]) ?_ 0 _ rfl; (with_reducible repeat (first | refine blk_drewN ?_ _ | refine blk_drew ?_ | refine blk_alloc ?_ _)); exact BK142.out⟩, ⟨by repeat (first | (with_reducible first | exact HB.out | apply below_alloc | apply pw_below_drewN | apply below_drew1 | refine below_set ?_ GE135.out | refine below_set ?_ GE142.out) | exact HB.out)⟩⟩
          · rw [if_neg c25] at H
            have c25b0 : (a0_0.toList == ([] : List UInt8)) = false := beq_eq_false_iff_ne.mpr c25
            have c25b1 : (a0_0.toList != ([] : List UInt8)) = true := bne_iff_ne.mpr c25
            (first | rw [c25b0] | (simp only [i64_w, i32_w]; rw [c25b0]) | skip)
            have H' := Aside0.mk H
            clear H
            have hnb41 := NB135_142.out
            have hnc41 := NB142_135.out
            have hcz42_0 : w21.cell? ⟨gb135, 0, none⟩ = some (.string a0_0) := (blk_cell BK135.out 0).trans rfl
            have hcz42_1 : w21.cell? ⟨gb135, 1, none⟩ = some (.int .i64 a0_1) := (blk_cell BK135.out 1).trans rfl
            have hcz42_2 : w21.cell? ⟨gb135, 2, none⟩ = some (.int .i64 a0_2) := (blk_cell BK135.out 2).trans rfl
            have hcz42_3 : w21.cell? ⟨gb135, 3, none⟩ = some (.int .i64 a0_3) := (blk_cell BK135.out 3).trans rfl
            have hcz42_4 : w21.cell? ⟨gb135, 4, none⟩ = some (.int .i64 a0_4) := (blk_cell BK135.out 4).trans rfl
            have hcz42_5 : w21.cell? ⟨gb135, 5, none⟩ = some (.int .i64 a0_5) := (blk_cell BK135.out 5).trans rfl
            have hcz42_6 : w21.cell? ⟨gb135, 6, none⟩ = some (.int .i64 a0_6) := (blk_cell BK135.out 6).trans rfl
            have hcz42_7 : w21.cell? ⟨gb135, 7, none⟩ = some (.int .i64 a0_7) := (blk_cell BK135.out 7).trans rfl
            have hcz42_8 : w21.cell? ⟨gb135, 8, none⟩ = some (.int .u8 a0_8) := (blk_cell BK135.out 8).trans rfl
            have hfz42_0 := blk_frozen BK135.out 0
            have hfz42_1 := blk_frozen BK135.out 1
            have hfz42_2 := blk_frozen BK135.out 2
            have hfz42_3 := blk_frozen BK135.out 3
            have hfz42_4 := blk_frozen BK135.out 4
            have hfz42_5 := blk_frozen BK135.out 5
            have hfz42_6 := blk_frozen BK135.out 6
            have hfz42_7 := blk_frozen BK135.out 7
            have hfz42_8 := blk_frozen BK135.out 8
            go_wp2
            go_meet
            case rel => exact ⟨_, (true), (by first | rfl | (simp; done) | (simp [*]; done)), H', ⟨by first | omega | exact Nat.le_refl _⟩, ⟨by (with_reducible repeat (first | refine blk_drewN ?_ _ | refine blk_drew ?_ | refine blk_alloc ?_ _)); refine blk_far ?_ NB135_142.out _; (with_reducible repeat (first | refine blk_drewN ?_ _ | refine blk_drew ?_ | refine blk_alloc ?_ _)); refine blk_far ?_ NB135_142.out _; (with_reducible repeat (first | refine blk_drewN ?_ _ | refine blk_drew ?_ | refine blk_alloc ?_ _)); refine blk_far ?_ NB135_142.out _; (with_reducible repeat (first | refine blk_drewN ?_ _ | refine blk_drew ?_ | refine blk_alloc ?_ _)); refine blk_far ?_ NB135_142.out _; (with_reducible repeat (first | refine blk_drewN ?_ _ | refine blk_drew ?_ | refine blk_alloc ?_ _)); exact BK135.out⟩, ⟨by (with_reducible repeat (first | refine blk_drewN ?_ _ | refine blk_drew ?_ | refine blk_alloc ?_ _)); refine blk_put (cs := #[.int .i64 t137, .string t138, .bool t139, .bool false]) ?_ 3 _ rfl; (with_reducible repeat (first | refine blk_drewN ?_ _ | refine blk_drew ?_ | refine blk_alloc ?_ _)); refine blk_put (cs := #[.int .i64 t137, .string t138, .bool false, .bool false]) ?_ 2 _ rfl; (with_reducible repeat (first | refine blk_drewN ?_ _ | refine blk_drew ?_ | refine blk_alloc ?_ _)); refine blk_put (cs := #[.int .i64 t137, .string (⟨#[]⟩ : ByteArray), .bool false, .bool false]) ?_ 1 _ rfl; (with_reducible repeat (first | refine blk_drewN ?_ _ | refine blk_drew ?_ | refine blk_alloc ?_ _)); refine blk_put (cs := #[.int .i64 0, .string (⟨#[]⟩ : ByteArray), .bool false, .bool false]) ?_ 0 _ rfl; (with_reducible repeat (first | refine blk_drewN ?_ _ | refine blk_drew ?_ | refine blk_alloc ?_ _)); exact BK142.out⟩, ⟨by repeat (first | (with_reducible first | exact HB.out | apply below_alloc | apply pw_below_drewN | apply below_drew1 | refine below_set ?_ GE135.out | refine below_set ?_ GE142.out) | exact HB.out)⟩⟩
        · replace c24 := Bool.eq_false_iff.mpr c24
          subst c24
          have H1 : (spec_fits.j0 k true a0_0 a0_1 a0_2 a0_3 a0_4 a0_5 a0_6 a0_7 a0_8 t137 t138 t139 t140) = some r := by rw [if_neg (show ¬ (false = true) by decide)] at H; exact H
          clear H
          have H := H1
          clear H1
          have H' := Aside0.mk H
          clear H
          go_wp2
          go_meet
          case rel => exact ⟨_, (true), (by first | rfl | (simp; done) | (simp [*]; done)), H', ⟨by first | omega | exact Nat.le_refl _⟩, ⟨by (with_reducible repeat (first | refine blk_drewN ?_ _ | refine blk_drew ?_ | refine blk_alloc ?_ _)); refine blk_far ?_ NB135_142.out _; (with_reducible repeat (first | refine blk_drewN ?_ _ | refine blk_drew ?_ | refine blk_alloc ?_ _)); refine blk_far ?_ NB135_142.out _; (with_reducible repeat (first | refine blk_drewN ?_ _ | refine blk_drew ?_ | refine blk_alloc ?_ _)); refine blk_far ?_ NB135_142.out _; (with_reducible repeat (first | refine blk_drewN ?_ _ | refine blk_drew ?_ | refine blk_alloc ?_ _)); refine blk_far ?_ NB135_142.out _; (with_reducible repeat (first | refine blk_drewN ?_ _ | refine blk_drew ?_ | refine blk_alloc ?_ _)); exact BK135.out⟩, ⟨by (with_reducible repeat (first | refine blk_drewN ?_ _ | refine blk_drew ?_ | refine blk_alloc ?_ _)); refine blk_put (cs := #[.int .i64 t137, .string t138, .bool t139, .bool false]) ?_ 3 _ rfl; (with_reducible repeat (first | refine blk_drewN ?_ _ | refine blk_drew ?_ | refine blk_alloc ?_ _)); refine blk_put (cs := #[.int .i64 t137, .string t138, .bool false, .bool false]) ?_ 2 _ rfl; (with_reducible repeat (first | refine blk_drewN ?_ _ | refine blk_drew ?_ | refine blk_alloc ?_ _)); refine blk_put (cs := #[.int .i64 t137, .string (⟨#[]⟩ : ByteArray), .bool false, .bool false]) ?_ 1 _ rfl; (with_reducible repeat (first | refine blk_drewN ?_ _ | refine blk_drew ?_ | refine blk_alloc ?_ _)); refine blk_put (cs := #[.int .i64 0, .string (⟨#[]⟩ : ByteArray), .bool false, .bool false]) ?_ 0 _ rfl; (with_reducible repeat (first | refine blk_drewN ?_ _ | refine blk_drew ?_ | refine blk_alloc ?_ _)); exact BK142.out⟩, ⟨by repeat (first | (with_reducible first | exact HB.out | apply below_alloc | apply pw_below_drewN | apply below_drew1 | refine below_set ?_ GE135.out | refine below_set ?_ GE142.out) | exact HB.out)⟩⟩
      case rest =>
        clear HC17
        try clear c1
        try clear c2
        try clear c2b0
        try clear c2b1
        try clear p2
        try clear c3
        try clear c3b0
        try clear c3b1
        try clear c3b2
        try clear c4
        try clear c4b0
        try clear c4b1
        try clear c13
        try clear c13b0
        try clear c13b1
        try clear c22
        try clear c24
        try clear c25
        try clear c25b0
        try clear c25b1
        try clear c26
        try clear c26b0
        try clear c27
        try clear c29
        try clear c29b0
        try clear c30
        try clear c32
        try clear c32b0
        try clear c32b1
        try clear c34
        try clear c38
        try clear c41
        try clear hcz12_0
        try clear hcz12_1
        try clear hcz12_2
        try clear hcz12_3
        try clear hcz12_4
        try clear hcz12_5
        try clear hcz12_6
        try clear hcz12_7
        try clear hcz12_8
        try clear hcz15_0
        try clear hcz15_1
        try clear hcz15_2
        try clear hcz15_3
        try clear hcz15_4
        try clear hcz15_5
        try clear hcz15_6
        try clear hcz15_7
        try clear hcz15_8
        try clear hcz19_0
        try clear hcz19_1
        try clear hcz19_2
        try clear hcz19_3
        try clear hcz19_4
        try clear hcz19_5
        try clear hcz19_6
        try clear hcz19_7
        try clear hcz19_8
        try clear hcz23_0
        try clear hcz23_1
        try clear hcz23_2
        try clear hcz23_3
        try clear hcz28_0
        try clear hcz28_1
        try clear hcz28_2
        try clear hcz28_3
        try clear hcz28_4
        try clear hcz28_5
        try clear hcz28_6
        try clear hcz28_7
        try clear hcz28_8
        try clear hcz31_0
        try clear hcz31_1
        try clear hcz31_2
        try clear hcz31_3
        try clear hcz31_4
        try clear hcz31_5
        try clear hcz31_6
        try clear hcz31_7
        try clear hcz31_8
        try clear hcz35_0
        try clear hcz35_1
        try clear hcz35_2
        try clear hcz35_3
        try clear hcz35_4
        try clear hcz35_5
        try clear hcz35_6
        try clear hcz35_7
        try clear hcz35_8
        try clear hcz36_0
        try clear hcz36_1
        try clear hcz36_2
        try clear hcz36_3
        try clear hcz39_0
        try clear hcz39_1
        try clear hcz39_2
        try clear hcz39_3
        try clear hcz39_4
        try clear hcz39_5
        try clear hcz39_6
        try clear hcz39_7
        try clear hcz39_8
        try clear hcz40_0
        try clear hcz40_1
        try clear hcz40_2
        try clear hcz40_3
        try clear hcz42_0
        try clear hcz42_1
        try clear hcz42_2
        try clear hcz42_3
        try clear hcz42_4
        try clear hcz42_5
        try clear hcz42_6
        try clear hcz42_7
        try clear hcz42_8
        try clear hcz6_0
        try clear hcz6_1
        try clear hcz6_2
        try clear hcz6_3
        try clear hcz6_4
        try clear hcz6_5
        try clear hcz6_6
        try clear hcz6_7
        try clear hcz6_8
        try clear hcz9_0
        try clear hcz9_1
        try clear hcz9_2
        try clear hcz9_3
        try clear hcz9_4
        try clear hcz9_5
        try clear hcz9_6
        try clear hcz9_7
        try clear hcz9_8
        try clear hfz12_0
        try clear hfz12_1
        try clear hfz12_2
        try clear hfz12_3
        try clear hfz12_4
        try clear hfz12_5
        try clear hfz12_6
        try clear hfz12_7
        try clear hfz12_8
        try clear hfz15_0
        try clear hfz15_1
        try clear hfz15_2
        try clear hfz15_3
        try clear hfz15_4
        try clear hfz15_5
        try clear hfz15_6
        try clear hfz15_7
        try clear hfz15_8
        try clear hfz19_0
        try clear hfz19_1
        try clear hfz19_2
        try clear hfz19_3
        try clear hfz19_4
        try clear hfz19_5
        try clear hfz19_6
        try clear hfz19_7
        try clear hfz19_8
        try clear hfz23_0
        try clear hfz23_1
        try clear hfz23_2
        try clear hfz23_3
        try clear hfz28_0
        try clear hfz28_1
        try clear hfz28_2
        try clear hfz28_3
        try clear hfz28_4
        try clear hfz28_5
        try clear hfz28_6
        try clear hfz28_7
        try clear hfz28_8
        try clear hfz31_0
        try clear hfz31_1
        try clear hfz31_2
        try clear hfz31_3
        try clear hfz31_4
        try clear hfz31_5
        try clear hfz31_6
        try clear hfz31_7
        try clear hfz31_8
        try clear hfz35_0
        try clear hfz35_1
        try clear hfz35_2
        try clear hfz35_3
        try clear hfz35_4
        try clear hfz35_5
        try clear hfz35_6
        try clear hfz35_7
        try clear hfz35_8
        try clear hfz36_0
        try clear hfz36_1
        try clear hfz36_2
        try clear hfz36_3
        try clear hfz39_0
        try clear hfz39_1
        try clear hfz39_2
        try clear hfz39_3
        try clear hfz39_4
        try clear hfz39_5
        try clear hfz39_6
        try clear hfz39_7
        try clear hfz39_8
        try clear hfz40_0
        try clear hfz40_1
        try clear hfz40_2
        try clear hfz40_3
        try clear hfz42_0
        try clear hfz42_1
        try clear hfz42_2
        try clear hfz42_3
        try clear hfz42_4
        try clear hfz42_5
        try clear hfz42_6
        try clear hfz42_7
        try clear hfz42_8
        try clear hfz6_0
        try clear hfz6_1
        try clear hfz6_2
        try clear hfz6_3
        try clear hfz6_4
        try clear hfz6_5
        try clear hfz6_6
        try clear hfz6_7
        try clear hfz6_8
        try clear hfz9_0
        try clear hfz9_1
        try clear hfz9_2
        try clear hfz9_3
        try clear hfz9_4
        try clear hfz9_5
        try clear hfz9_6
        try clear hfz9_7
        try clear hfz9_8
        obtain ⟨kq, x67_16, rfl, HA, HJ16, BK135, BK142, HB⟩ := hcut
        cases kq with
        | zero => exact absurd HA.out (by simp [spec_fits.j0])
        | succ kj16 =>
          have H := HA.out
          clear HA
          simp only [spec_fits.j0] at H
          by_cases c43 : x67_16 = true
          · subst c43
            have H1 : (some false) = some r := by rw [if_pos rfl] at H; exact H
            clear H
            have H := H1
            clear H1
            obtain rfl := Option.some.inj H
            go_wp2
            go_ret
            exact ⟨by first | rfl | (simp [errW_none, errW_some] <;> rfl) | (simp [*, errW_none, errW_some] <;> rfl), by repeat (first | (with_reducible first | exact HB.out | apply below_alloc | apply pw_below_drewN | apply below_drew1 | refine below_set ?_ GE135.out | refine below_set ?_ GE142.out) | exact HB.out)⟩
          · replace c43 := Bool.eq_false_iff.mpr c43
            subst c43
            have H1 : ((spec_within.f a0_3 1).bind fun t144 => (if t144 = true then ((spec_within.f a0_5 0).bind fun t145 => (if t145 = true then (if a0_4 < 0 then (spec_fits.j1 kj16 true a0_0 a0_1 a0_2 a0_3 a0_4 a0_5 a0_6 a0_7 a0_8 t137 t138 t139 t140) else (if a0_4 > 64 then (spec_fits.j1 kj16 true a0_0 a0_1 a0_2 a0_3 a0_4 a0_5 a0_6 a0_7 a0_8 t137 t138 t139 t140) else (if a0_6 < 0 then (spec_fits.j1 kj16 true a0_0 a0_1 a0_2 a0_3 a0_4 a0_5 a0_6 a0_7 a0_8 t137 t138 t139 t140) else (spec_fits.j1 kj16 (decide (a0_6 > 64)) a0_0 a0_1 a0_2 a0_3 a0_4 a0_5 a0_6 a0_7 a0_8 t137 t138 t139 t140)))) else (spec_fits.j1 kj16 true a0_0 a0_1 a0_2 a0_3 a0_4 a0_5 a0_6 a0_7 a0_8 t137 t138 t139 t140))) else (spec_fits.j1 kj16 true a0_0 a0_1 a0_2 a0_3 a0_4 a0_5 a0_6 a0_7 a0_8 t137 t138 t139 t140))) = some r := by rw [if_neg (show ¬ (false = true) by decide)] at H; exact H
            clear H
            have H := H1
            clear H1
            have HC44 := Aside0.mk H
            clear H
            go_upto_region 9 with (fail)
            go_cut [97] (fun v97 wc => ∃ (kq : Nat) (x97_43 : Bool), v97 = .bool x97_43 ∧ Aside0 (spec_fits.j1 kq x97_43 a0_0 a0_1 a0_2 a0_3 a0_4 a0_5 a0_6 a0_7 a0_8 t137 t138 t139 t140 = some r) ∧ Aside0 (kq ≤ kj16) ∧ Aside0 (wc.heap[gb135]? = some (.cells #[.string a0_0, .int .i64 a0_1, .int .i64 a0_2, .int .i64 a0_3, .int .i64 a0_4, .int .i64 a0_5, .int .i64 a0_6, .int .i64 a0_7, .int .u8 a0_8] 35 (0, 0))) ∧ Aside0 (wc.heap[gb142]? = some (.cells #[.int .i64 t137, .string t138, .bool t139, .bool t140] 85 (0, 0))) ∧ Aside0 (Below w.heap.size w wc))
            case first =>
              have H := HC44.out
              clear HC44
              replace H := Option.bind_eq_some_iff.mp H
              obtain ⟨t144, A450, H⟩ := H
              replace H : (if t144 = true then ((spec_within.f a0_5 0).bind fun t145 => (if t145 = true then (if a0_4 < 0 then (spec_fits.j1 kj16 true a0_0 a0_1 a0_2 a0_3 a0_4 a0_5 a0_6 a0_7 a0_8 t137 t138 t139 t140) else (if a0_4 > 64 then (spec_fits.j1 kj16 true a0_0 a0_1 a0_2 a0_3 a0_4 a0_5 a0_6 a0_7 a0_8 t137 t138 t139 t140) else (if a0_6 < 0 then (spec_fits.j1 kj16 true a0_0 a0_1 a0_2 a0_3 a0_4 a0_5 a0_6 a0_7 a0_8 t137 t138 t139 t140) else (spec_fits.j1 kj16 (decide (a0_6 > 64)) a0_0 a0_1 a0_2 a0_3 a0_4 a0_5 a0_6 a0_7 a0_8 t137 t138 t139 t140)))) else (spec_fits.j1 kj16 true a0_0 a0_1 a0_2 a0_3 a0_4 a0_5 a0_6 a0_7 a0_8 t137 t138 t139 t140))) else (spec_fits.j1 kj16 true a0_0 a0_1 a0_2 a0_3 a0_4 a0_5 a0_6 a0_7 a0_8 t137 t138 t139 t140)) = some r := H
              have A45 := Aside0.mk A450
              clear A450
              by_cases c46 : t144 = true
              · subst c46
                have H1 : ((spec_within.f a0_5 0).bind fun t145 => (if t145 = true then (if a0_4 < 0 then (spec_fits.j1 kj16 true a0_0 a0_1 a0_2 a0_3 a0_4 a0_5 a0_6 a0_7 a0_8 t137 t138 t139 t140) else (if a0_4 > 64 then (spec_fits.j1 kj16 true a0_0 a0_1 a0_2 a0_3 a0_4 a0_5 a0_6 a0_7 a0_8 t137 t138 t139 t140) else (if a0_6 < 0 then (spec_fits.j1 kj16 true a0_0 a0_1 a0_2 a0_3 a0_4 a0_5 a0_6 a0_7 a0_8 t137 t138 t139 t140) else (spec_fits.j1 kj16 (decide (a0_6 > 64)) a0_0 a0_1 a0_2 a0_3 a0_4 a0_5 a0_6 a0_7 a0_8 t137 t138 t139 t140)))) else (spec_fits.j1 kj16 true a0_0 a0_1 a0_2 a0_3 a0_4 a0_5 a0_6 a0_7 a0_8 t137 t138 t139 t140))) = some r := by rw [if_pos rfl] at H; exact H
                clear H
                have H := H1
                clear H1
                replace H := Option.bind_eq_some_iff.mp H
                obtain ⟨t145, A470, H⟩ := H
                replace H : (if t145 = true then (if a0_4 < 0 then (spec_fits.j1 kj16 true a0_0 a0_1 a0_2 a0_3 a0_4 a0_5 a0_6 a0_7 a0_8 t137 t138 t139 t140) else (if a0_4 > 64 then (spec_fits.j1 kj16 true a0_0 a0_1 a0_2 a0_3 a0_4 a0_5 a0_6 a0_7 a0_8 t137 t138 t139 t140) else (if a0_6 < 0 then (spec_fits.j1 kj16 true a0_0 a0_1 a0_2 a0_3 a0_4 a0_5 a0_6 a0_7 a0_8 t137 t138 t139 t140) else (spec_fits.j1 kj16 (decide (a0_6 > 64)) a0_0 a0_1 a0_2 a0_3 a0_4 a0_5 a0_6 a0_7 a0_8 t137 t138 t139 t140)))) else (spec_fits.j1 kj16 true a0_0 a0_1 a0_2 a0_3 a0_4 a0_5 a0_6 a0_7 a0_8 t137 t138 t139 t140)) = some r := H
                have A47 := Aside0.mk A470
                clear A470
                by_cases c48 : t145 = true
                · subst c48
                  have H1 : (if a0_4 < 0 then (spec_fits.j1 kj16 true a0_0 a0_1 a0_2 a0_3 a0_4 a0_5 a0_6 a0_7 a0_8 t137 t138 t139 t140) else (if a0_4 > 64 then (spec_fits.j1 kj16 true a0_0 a0_1 a0_2 a0_3 a0_4 a0_5 a0_6 a0_7 a0_8 t137 t138 t139 t140) else (if a0_6 < 0 then (spec_fits.j1 kj16 true a0_0 a0_1 a0_2 a0_3 a0_4 a0_5 a0_6 a0_7 a0_8 t137 t138 t139 t140) else (spec_fits.j1 kj16 (decide (a0_6 > 64)) a0_0 a0_1 a0_2 a0_3 a0_4 a0_5 a0_6 a0_7 a0_8 t137 t138 t139 t140)))) = some r := by rw [if_pos rfl] at H; exact H
                  clear H
                  have H := H1
                  clear H1
                  by_cases c49 : a0_4 < 0
                  · rw [if_pos c49] at H
                    have c49b0 : decide (a0_4 < 0) = true := decide_eq_true c49
                    clear c49
                    (first | rw [c49b0] | (simp only [i64_w, i32_w]; rw [c49b0]) | skip)
                    have H' := Aside0.mk H
                    clear H
                    have hnb50 := NB135_142.out
                    have hnc50 := NB142_135.out
                    have hcz51_0 : wc.cell? ⟨gb135, 0, none⟩ = some (.string a0_0) := (blk_cell BK135.out 0).trans rfl
                    have hcz51_1 : wc.cell? ⟨gb135, 1, none⟩ = some (.int .i64 a0_1) := (blk_cell BK135.out 1).trans rfl
                    have hcz51_2 : wc.cell? ⟨gb135, 2, none⟩ = some (.int .i64 a0_2) := (blk_cell BK135.out 2).trans rfl
                    have hcz51_3 : wc.cell? ⟨gb135, 3, none⟩ = some (.int .i64 a0_3) := (blk_cell BK135.out 3).trans rfl
                    have hcz51_4 : wc.cell? ⟨gb135, 4, none⟩ = some (.int .i64 a0_4) := (blk_cell BK135.out 4).trans rfl
                    have hcz51_5 : wc.cell? ⟨gb135, 5, none⟩ = some (.int .i64 a0_5) := (blk_cell BK135.out 5).trans rfl
                    have hcz51_6 : wc.cell? ⟨gb135, 6, none⟩ = some (.int .i64 a0_6) := (blk_cell BK135.out 6).trans rfl
                    have hcz51_7 : wc.cell? ⟨gb135, 7, none⟩ = some (.int .i64 a0_7) := (blk_cell BK135.out 7).trans rfl
                    have hcz51_8 : wc.cell? ⟨gb135, 8, none⟩ = some (.int .u8 a0_8) := (blk_cell BK135.out 8).trans rfl
                    have hfz51_0 := blk_frozen BK135.out 0
                    have hfz51_1 := blk_frozen BK135.out 1
                    have hfz51_2 := blk_frozen BK135.out 2
                    have hfz51_3 := blk_frozen BK135.out 3
                    have hfz51_4 := blk_frozen BK135.out 4
                    have hfz51_5 := blk_frozen BK135.out 5
                    have hfz51_6 := blk_frozen BK135.out 6
                    have hfz51_7 := blk_frozen BK135.out 7
                    have hfz51_8 := blk_frozen BK135.out 8
                    go_wp2_with (first | ((with_reducible refine gate_callee (f := 77) rfl ?_); refine goesL_ (some 70) rfl rfl Tryz.func77 (by kernel_rfl) rfl #[.int .i64 a0_3, .int .i64 1] rfl (by (try simp only [List.map_toArray, List.map_cons, List.map_nil]); first | done | rfl | (simp only [List.length_drop, List.length_take]; rfl)) ?_; (with_reducible refine (spec_within.calls a0_3 1 true _ A45.out).mono ?_); rintro e w' ⟨rfl, ⟨nd, rfl⟩⟩; refine ⟨_, rfl, ?_⟩) | (go_at_call 77; (with_reducible refine (spec_within.calls a0_5 0 true _ A47.out).mono ?_); rintro e w' ⟨rfl, ⟨nd, rfl⟩⟩))
                    go_meet
                    case rel => exact ⟨_, (true), (by first | rfl | (simp; done) | (simp [*]; done)), H', ⟨by have := HJ16.out; first | omega | exact Nat.le_refl _⟩, ⟨by (with_reducible repeat (first | refine blk_drewN ?_ _ | refine blk_drew ?_ | refine blk_alloc ?_ _)); exact BK135.out⟩, ⟨by (with_reducible repeat (first | refine blk_drewN ?_ _ | refine blk_drew ?_ | refine blk_alloc ?_ _)); exact BK142.out⟩, ⟨by repeat (first | (with_reducible first | exact HB.out | apply below_alloc | apply pw_below_drewN | apply below_drew1 | refine below_set ?_ GE135.out | refine below_set ?_ GE142.out) | exact HB.out)⟩⟩
                  · rw [if_neg c49] at H
                    have c49b0 : decide (a0_4 < 0) = false := decide_eq_false c49
                    clear c49
                    (first | rw [c49b0] | (simp only [i64_w, i32_w]; rw [c49b0]) | skip)
                    by_cases c52 : a0_4 > 64
                    · rw [if_pos c52] at H
                      have c52b0 : decide (64 < a0_4) = true := decide_eq_true c52
                      clear c52
                      have H' := Aside0.mk H
                      clear H
                      have hnb53 := NB135_142.out
                      have hnc53 := NB142_135.out
                      have hcz54_0 : wc.cell? ⟨gb135, 0, none⟩ = some (.string a0_0) := (blk_cell BK135.out 0).trans rfl
                      have hcz54_1 : wc.cell? ⟨gb135, 1, none⟩ = some (.int .i64 a0_1) := (blk_cell BK135.out 1).trans rfl
                      have hcz54_2 : wc.cell? ⟨gb135, 2, none⟩ = some (.int .i64 a0_2) := (blk_cell BK135.out 2).trans rfl
                      have hcz54_3 : wc.cell? ⟨gb135, 3, none⟩ = some (.int .i64 a0_3) := (blk_cell BK135.out 3).trans rfl
                      have hcz54_4 : wc.cell? ⟨gb135, 4, none⟩ = some (.int .i64 a0_4) := (blk_cell BK135.out 4).trans rfl
                      have hcz54_5 : wc.cell? ⟨gb135, 5, none⟩ = some (.int .i64 a0_5) := (blk_cell BK135.out 5).trans rfl
                      have hcz54_6 : wc.cell? ⟨gb135, 6, none⟩ = some (.int .i64 a0_6) := (blk_cell BK135.out 6).trans rfl
                      have hcz54_7 : wc.cell? ⟨gb135, 7, none⟩ = some (.int .i64 a0_7) := (blk_cell BK135.out 7).trans rfl
                      have hcz54_8 : wc.cell? ⟨gb135, 8, none⟩ = some (.int .u8 a0_8) := (blk_cell BK135.out 8).trans rfl
                      have hfz54_0 := blk_frozen BK135.out 0
                      have hfz54_1 := blk_frozen BK135.out 1
                      have hfz54_2 := blk_frozen BK135.out 2
                      have hfz54_3 := blk_frozen BK135.out 3
                      have hfz54_4 := blk_frozen BK135.out 4
                      have hfz54_5 := blk_frozen BK135.out 5
                      have hfz54_6 := blk_frozen BK135.out 6
                      have hfz54_7 := blk_frozen BK135.out 7
                      have hfz54_8 := blk_frozen BK135.out 8
                      go_wp2_with (first | ((with_reducible refine gate_callee (f := 77) rfl ?_); refine goesL_ (some 70) rfl rfl Tryz.func77 (by kernel_rfl) rfl #[.int .i64 a0_3, .int .i64 1] rfl (by (try simp only [List.map_toArray, List.map_cons, List.map_nil]); first | done | rfl | (simp only [List.length_drop, List.length_take]; rfl)) ?_; (with_reducible refine (spec_within.calls a0_3 1 true _ A45.out).mono ?_); rintro e w' ⟨rfl, ⟨nd, rfl⟩⟩; refine ⟨_, rfl, ?_⟩) | (go_at_call 77; (with_reducible refine (spec_within.calls a0_5 0 true _ A47.out).mono ?_); rintro e w' ⟨rfl, ⟨nd, rfl⟩⟩))
                      go_meet
                      case rel => exact ⟨_, (true), (by first | rfl | (simp; done) | (simp [*]; done)), H', ⟨by have := HJ16.out; first | omega | exact Nat.le_refl _⟩, ⟨by (with_reducible repeat (first | refine blk_drewN ?_ _ | refine blk_drew ?_ | refine blk_alloc ?_ _)); exact BK135.out⟩, ⟨by (with_reducible repeat (first | refine blk_drewN ?_ _ | refine blk_drew ?_ | refine blk_alloc ?_ _)); exact BK142.out⟩, ⟨by repeat (first | (with_reducible first | exact HB.out | apply below_alloc | apply pw_below_drewN | apply below_drew1 | refine below_set ?_ GE135.out | refine below_set ?_ GE142.out) | exact HB.out)⟩⟩
                    · rw [if_neg c52] at H
                      have c52b0 : decide (64 < a0_4) = false := decide_eq_false c52
                      clear c52
                      by_cases c55 : a0_6 < 0
                      · rw [if_pos c55] at H
                        have c55b0 : decide (a0_6 < 0) = true := decide_eq_true c55
                        clear c55
                        have H' := Aside0.mk H
                        clear H
                        have hnb56 := NB135_142.out
                        have hnc56 := NB142_135.out
                        have hcz57_0 : wc.cell? ⟨gb135, 0, none⟩ = some (.string a0_0) := (blk_cell BK135.out 0).trans rfl
                        have hcz57_1 : wc.cell? ⟨gb135, 1, none⟩ = some (.int .i64 a0_1) := (blk_cell BK135.out 1).trans rfl
                        have hcz57_2 : wc.cell? ⟨gb135, 2, none⟩ = some (.int .i64 a0_2) := (blk_cell BK135.out 2).trans rfl
                        have hcz57_3 : wc.cell? ⟨gb135, 3, none⟩ = some (.int .i64 a0_3) := (blk_cell BK135.out 3).trans rfl
                        have hcz57_4 : wc.cell? ⟨gb135, 4, none⟩ = some (.int .i64 a0_4) := (blk_cell BK135.out 4).trans rfl
                        have hcz57_5 : wc.cell? ⟨gb135, 5, none⟩ = some (.int .i64 a0_5) := (blk_cell BK135.out 5).trans rfl
                        have hcz57_6 : wc.cell? ⟨gb135, 6, none⟩ = some (.int .i64 a0_6) := (blk_cell BK135.out 6).trans rfl
                        have hcz57_7 : wc.cell? ⟨gb135, 7, none⟩ = some (.int .i64 a0_7) := (blk_cell BK135.out 7).trans rfl
                        have hcz57_8 : wc.cell? ⟨gb135, 8, none⟩ = some (.int .u8 a0_8) := (blk_cell BK135.out 8).trans rfl
                        have hfz57_0 := blk_frozen BK135.out 0
                        have hfz57_1 := blk_frozen BK135.out 1
                        have hfz57_2 := blk_frozen BK135.out 2
                        have hfz57_3 := blk_frozen BK135.out 3
                        have hfz57_4 := blk_frozen BK135.out 4
                        have hfz57_5 := blk_frozen BK135.out 5
                        have hfz57_6 := blk_frozen BK135.out 6
                        have hfz57_7 := blk_frozen BK135.out 7
                        have hfz57_8 := blk_frozen BK135.out 8
                        go_wp2_with (first | ((with_reducible refine gate_callee (f := 77) rfl ?_); refine goesL_ (some 70) rfl rfl Tryz.func77 (by kernel_rfl) rfl #[.int .i64 a0_3, .int .i64 1] rfl (by (try simp only [List.map_toArray, List.map_cons, List.map_nil]); first | done | rfl | (simp only [List.length_drop, List.length_take]; rfl)) ?_; (with_reducible refine (spec_within.calls a0_3 1 true _ A45.out).mono ?_); rintro e w' ⟨rfl, ⟨nd, rfl⟩⟩; refine ⟨_, rfl, ?_⟩) | (go_at_call 77; (with_reducible refine (spec_within.calls a0_5 0 true _ A47.out).mono ?_); rintro e w' ⟨rfl, ⟨nd, rfl⟩⟩))
                        go_meet
                        case rel => exact ⟨_, (true), (by first | rfl | (simp; done) | (simp [*]; done)), H', ⟨by have := HJ16.out; first | omega | exact Nat.le_refl _⟩, ⟨by (with_reducible repeat (first | refine blk_drewN ?_ _ | refine blk_drew ?_ | refine blk_alloc ?_ _)); exact BK135.out⟩, ⟨by (with_reducible repeat (first | refine blk_drewN ?_ _ | refine blk_drew ?_ | refine blk_alloc ?_ _)); exact BK142.out⟩, ⟨by repeat (first | (with_reducible first | exact HB.out | apply below_alloc | apply pw_below_drewN | apply below_drew1 | refine below_set ?_ GE135.out | refine below_set ?_ GE142.out) | exact HB.out)⟩⟩
                      · rw [if_neg c55] at H
                        have c55b0 : decide (a0_6 < 0) = false := decide_eq_false c55
                        clear c55
                        have H' := Aside0.mk H
                        clear H
                        have hnb58 := NB135_142.out
                        have hnc58 := NB142_135.out
                        have hcz59_0 : wc.cell? ⟨gb135, 0, none⟩ = some (.string a0_0) := (blk_cell BK135.out 0).trans rfl
                        have hcz59_1 : wc.cell? ⟨gb135, 1, none⟩ = some (.int .i64 a0_1) := (blk_cell BK135.out 1).trans rfl
                        have hcz59_2 : wc.cell? ⟨gb135, 2, none⟩ = some (.int .i64 a0_2) := (blk_cell BK135.out 2).trans rfl
                        have hcz59_3 : wc.cell? ⟨gb135, 3, none⟩ = some (.int .i64 a0_3) := (blk_cell BK135.out 3).trans rfl
                        have hcz59_4 : wc.cell? ⟨gb135, 4, none⟩ = some (.int .i64 a0_4) := (blk_cell BK135.out 4).trans rfl
                        have hcz59_5 : wc.cell? ⟨gb135, 5, none⟩ = some (.int .i64 a0_5) := (blk_cell BK135.out 5).trans rfl
                        have hcz59_6 : wc.cell? ⟨gb135, 6, none⟩ = some (.int .i64 a0_6) := (blk_cell BK135.out 6).trans rfl
                        have hcz59_7 : wc.cell? ⟨gb135, 7, none⟩ = some (.int .i64 a0_7) := (blk_cell BK135.out 7).trans rfl
                        have hcz59_8 : wc.cell? ⟨gb135, 8, none⟩ = some (.int .u8 a0_8) := (blk_cell BK135.out 8).trans rfl
                        have hfz59_0 := blk_frozen BK135.out 0
                        have hfz59_1 := blk_frozen BK135.out 1
                        have hfz59_2 := blk_frozen BK135.out 2
                        have hfz59_3 := blk_frozen BK135.out 3
                        have hfz59_4 := blk_frozen BK135.out 4
                        have hfz59_5 := blk_frozen BK135.out 5
                        have hfz59_6 := blk_frozen BK135.out 6
                        have hfz59_7 := blk_frozen BK135.out 7
                        have hfz59_8 := blk_frozen BK135.out 8
                        go_wp2_with (first | ((with_reducible refine gate_callee (f := 77) rfl ?_); refine goesL_ (some 70) rfl rfl Tryz.func77 (by kernel_rfl) rfl #[.int .i64 a0_3, .int .i64 1] rfl (by (try simp only [List.map_toArray, List.map_cons, List.map_nil]); first | done | rfl | (simp only [List.length_drop, List.length_take]; rfl)) ?_; (with_reducible refine (spec_within.calls a0_3 1 true _ A45.out).mono ?_); rintro e w' ⟨rfl, ⟨nd, rfl⟩⟩; refine ⟨_, rfl, ?_⟩) | (go_at_call 77; (with_reducible refine (spec_within.calls a0_5 0 true _ A47.out).mono ?_); rintro e w' ⟨rfl, ⟨nd, rfl⟩⟩))
                        go_meet
                        case rel => exact ⟨_, (decide (a0_6 > 64)), (by first | rfl | (simp; done) | (simp [*]; done)), H', ⟨by have := HJ16.out; first | omega | exact Nat.le_refl _⟩, ⟨by (with_reducible repeat (first | refine blk_drewN ?_ _ | refine blk_drew ?_ | refine blk_alloc ?_ _)); exact BK135.out⟩, ⟨by (with_reducible repeat (first | refine blk_drewN ?_ _ | refine blk_drew ?_ | refine blk_alloc ?_ _)); exact BK142.out⟩, ⟨by repeat (first | (with_reducible first | exact HB.out | apply below_alloc | apply pw_below_drewN | apply below_drew1 | refine below_set ?_ GE135.out | refine below_set ?_ GE142.out) | exact HB.out)⟩⟩
                · replace c48 := Bool.eq_false_iff.mpr c48
                  subst c48
                  have H1 : (spec_fits.j1 kj16 true a0_0 a0_1 a0_2 a0_3 a0_4 a0_5 a0_6 a0_7 a0_8 t137 t138 t139 t140) = some r := by rw [if_neg (show ¬ (false = true) by decide)] at H; exact H
                  clear H
                  have H := H1
                  clear H1
                  have H' := Aside0.mk H
                  clear H
                  have hnb60 := NB135_142.out
                  have hnc60 := NB142_135.out
                  have hcz61_0 : wc.cell? ⟨gb135, 0, none⟩ = some (.string a0_0) := (blk_cell BK135.out 0).trans rfl
                  have hcz61_1 : wc.cell? ⟨gb135, 1, none⟩ = some (.int .i64 a0_1) := (blk_cell BK135.out 1).trans rfl
                  have hcz61_2 : wc.cell? ⟨gb135, 2, none⟩ = some (.int .i64 a0_2) := (blk_cell BK135.out 2).trans rfl
                  have hcz61_3 : wc.cell? ⟨gb135, 3, none⟩ = some (.int .i64 a0_3) := (blk_cell BK135.out 3).trans rfl
                  have hcz61_4 : wc.cell? ⟨gb135, 4, none⟩ = some (.int .i64 a0_4) := (blk_cell BK135.out 4).trans rfl
                  have hcz61_5 : wc.cell? ⟨gb135, 5, none⟩ = some (.int .i64 a0_5) := (blk_cell BK135.out 5).trans rfl
                  have hcz61_6 : wc.cell? ⟨gb135, 6, none⟩ = some (.int .i64 a0_6) := (blk_cell BK135.out 6).trans rfl
                  have hcz61_7 : wc.cell? ⟨gb135, 7, none⟩ = some (.int .i64 a0_7) := (blk_cell BK135.out 7).trans rfl
                  have hcz61_8 : wc.cell? ⟨gb135, 8, none⟩ = some (.int .u8 a0_8) := (blk_cell BK135.out 8).trans rfl
                  have hfz61_0 := blk_frozen BK135.out 0
                  have hfz61_1 := blk_frozen BK135.out 1
                  have hfz61_2 := blk_frozen BK135.out 2
                  have hfz61_3 := blk_frozen BK135.out 3
                  have hfz61_4 := blk_frozen BK135.out 4
                  have hfz61_5 := blk_frozen BK135.out 5
                  have hfz61_6 := blk_frozen BK135.out 6
                  have hfz61_7 := blk_frozen BK135.out 7
                  have hfz61_8 := blk_frozen BK135.out 8
                  go_wp2_with (first | ((with_reducible refine gate_callee (f := 77) rfl ?_); refine goesL_ (some 70) rfl rfl Tryz.func77 (by kernel_rfl) rfl #[.int .i64 a0_3, .int .i64 1] rfl (by (try simp only [List.map_toArray, List.map_cons, List.map_nil]); first | done | rfl | (simp only [List.length_drop, List.length_take]; rfl)) ?_; (with_reducible refine (spec_within.calls a0_3 1 true _ A45.out).mono ?_); rintro e w' ⟨rfl, ⟨nd, rfl⟩⟩; refine ⟨_, rfl, ?_⟩) | (go_at_call 77; (with_reducible refine (spec_within.calls a0_5 0 false _ A47.out).mono ?_); rintro e w' ⟨rfl, ⟨nd, rfl⟩⟩))
                  go_meet
                  case rel => exact ⟨_, (true), (by first | rfl | (simp; done) | (simp [*]; done)), H', ⟨by have := HJ16.out; first | omega | exact Nat.le_refl _⟩, ⟨by (with_reducible repeat (first | refine blk_drewN ?_ _ | refine blk_drew ?_ | refine blk_alloc ?_ _)); exact BK135.out⟩, ⟨by (with_reducible repeat (first | refine blk_drewN ?_ _ | refine blk_drew ?_ | refine blk_alloc ?_ _)); exact BK142.out⟩, ⟨by repeat (first | (with_reducible first | exact HB.out | apply below_alloc | apply pw_below_drewN | apply below_drew1 | refine below_set ?_ GE135.out | refine below_set ?_ GE142.out) | exact HB.out)⟩⟩
              · replace c46 := Bool.eq_false_iff.mpr c46
                subst c46
                have H1 : (spec_fits.j1 kj16 true a0_0 a0_1 a0_2 a0_3 a0_4 a0_5 a0_6 a0_7 a0_8 t137 t138 t139 t140) = some r := by rw [if_neg (show ¬ (false = true) by decide)] at H; exact H
                clear H
                have H := H1
                clear H1
                have H' := Aside0.mk H
                clear H
                have hnb62 := NB135_142.out
                have hnc62 := NB142_135.out
                have hcz63_0 : wc.cell? ⟨gb135, 0, none⟩ = some (.string a0_0) := (blk_cell BK135.out 0).trans rfl
                have hcz63_1 : wc.cell? ⟨gb135, 1, none⟩ = some (.int .i64 a0_1) := (blk_cell BK135.out 1).trans rfl
                have hcz63_2 : wc.cell? ⟨gb135, 2, none⟩ = some (.int .i64 a0_2) := (blk_cell BK135.out 2).trans rfl
                have hcz63_3 : wc.cell? ⟨gb135, 3, none⟩ = some (.int .i64 a0_3) := (blk_cell BK135.out 3).trans rfl
                have hcz63_4 : wc.cell? ⟨gb135, 4, none⟩ = some (.int .i64 a0_4) := (blk_cell BK135.out 4).trans rfl
                have hcz63_5 : wc.cell? ⟨gb135, 5, none⟩ = some (.int .i64 a0_5) := (blk_cell BK135.out 5).trans rfl
                have hcz63_6 : wc.cell? ⟨gb135, 6, none⟩ = some (.int .i64 a0_6) := (blk_cell BK135.out 6).trans rfl
                have hcz63_7 : wc.cell? ⟨gb135, 7, none⟩ = some (.int .i64 a0_7) := (blk_cell BK135.out 7).trans rfl
                have hcz63_8 : wc.cell? ⟨gb135, 8, none⟩ = some (.int .u8 a0_8) := (blk_cell BK135.out 8).trans rfl
                have hfz63_0 := blk_frozen BK135.out 0
                have hfz63_1 := blk_frozen BK135.out 1
                have hfz63_2 := blk_frozen BK135.out 2
                have hfz63_3 := blk_frozen BK135.out 3
                have hfz63_4 := blk_frozen BK135.out 4
                have hfz63_5 := blk_frozen BK135.out 5
                have hfz63_6 := blk_frozen BK135.out 6
                have hfz63_7 := blk_frozen BK135.out 7
                have hfz63_8 := blk_frozen BK135.out 8
                go_wp2_with (first | ((with_reducible refine gate_callee (f := 77) rfl ?_); refine goesL_ (some 70) rfl rfl Tryz.func77 (by kernel_rfl) rfl #[.int .i64 a0_3, .int .i64 1] rfl (by (try simp only [List.map_toArray, List.map_cons, List.map_nil]); first | done | rfl | (simp only [List.length_drop, List.length_take]; rfl)) ?_; (with_reducible refine (spec_within.calls a0_3 1 false _ A45.out).mono ?_); rintro e w' ⟨rfl, ⟨nd, rfl⟩⟩; refine ⟨_, rfl, ?_⟩))
                go_meet
                case rel => exact ⟨_, (true), (by first | rfl | (simp; done) | (simp [*]; done)), H', ⟨by have := HJ16.out; first | omega | exact Nat.le_refl _⟩, ⟨by (with_reducible repeat (first | refine blk_drewN ?_ _ | refine blk_drew ?_ | refine blk_alloc ?_ _)); exact BK135.out⟩, ⟨by (with_reducible repeat (first | refine blk_drewN ?_ _ | refine blk_drew ?_ | refine blk_alloc ?_ _)); exact BK142.out⟩, ⟨by repeat (first | (with_reducible first | exact HB.out | apply below_alloc | apply pw_below_drewN | apply below_drew1 | refine below_set ?_ GE135.out | refine below_set ?_ GE142.out) | exact HB.out)⟩⟩
            case rest =>
              clear HC44
              try clear c1
              try clear c2
              try clear c2b0
              try clear c2b1
              try clear p2
              try clear c3
              try clear c3b0
              try clear c3b1
              try clear c3b2
              try clear c4
              try clear c4b0
              try clear c4b1
              try clear c5
              try clear c6
              try clear c7
              try clear c13
              try clear c13b0
              try clear c13b1
              try clear c22
              try clear c24
              try clear c25
              try clear c25b0
              try clear c25b1
              try clear c26
              try clear c26b0
              try clear c27
              try clear c29
              try clear c29b0
              try clear c30
              try clear c32
              try clear c32b0
              try clear c32b1
              try clear c34
              try clear c38
              try clear c41
              try clear c43
              try clear c46
              try clear c48
              try clear c49
              try clear c49b0
              try clear c50
              try clear c52
              try clear c52b0
              try clear c53
              try clear c55
              try clear c55b0
              try clear c56
              try clear c58
              try clear c60
              try clear c62
              try clear hcz12_0
              try clear hcz12_1
              try clear hcz12_2
              try clear hcz12_3
              try clear hcz12_4
              try clear hcz12_5
              try clear hcz12_6
              try clear hcz12_7
              try clear hcz12_8
              try clear hcz15_0
              try clear hcz15_1
              try clear hcz15_2
              try clear hcz15_3
              try clear hcz15_4
              try clear hcz15_5
              try clear hcz15_6
              try clear hcz15_7
              try clear hcz15_8
              try clear hcz19_0
              try clear hcz19_1
              try clear hcz19_2
              try clear hcz19_3
              try clear hcz19_4
              try clear hcz19_5
              try clear hcz19_6
              try clear hcz19_7
              try clear hcz19_8
              try clear hcz23_0
              try clear hcz23_1
              try clear hcz23_2
              try clear hcz23_3
              try clear hcz28_0
              try clear hcz28_1
              try clear hcz28_2
              try clear hcz28_3
              try clear hcz28_4
              try clear hcz28_5
              try clear hcz28_6
              try clear hcz28_7
              try clear hcz28_8
              try clear hcz31_0
              try clear hcz31_1
              try clear hcz31_2
              try clear hcz31_3
              try clear hcz31_4
              try clear hcz31_5
              try clear hcz31_6
              try clear hcz31_7
              try clear hcz31_8
              try clear hcz35_0
              try clear hcz35_1
              try clear hcz35_2
              try clear hcz35_3
              try clear hcz35_4
              try clear hcz35_5
              try clear hcz35_6
              try clear hcz35_7
              try clear hcz35_8
              try clear hcz36_0
              try clear hcz36_1
              try clear hcz36_2
              try clear hcz36_3
              try clear hcz39_0
              try clear hcz39_1
              try clear hcz39_2
              try clear hcz39_3
              try clear hcz39_4
              try clear hcz39_5
              try clear hcz39_6
              try clear hcz39_7
              try clear hcz39_8
              try clear hcz40_0
              try clear hcz40_1
              try clear hcz40_2
              try clear hcz40_3
              try clear hcz42_0
              try clear hcz42_1
              try clear hcz42_2
              try clear hcz42_3
              try clear hcz42_4
              try clear hcz42_5
              try clear hcz42_6
              try clear hcz42_7
              try clear hcz42_8
              try clear hcz51_0
              try clear hcz51_1
              try clear hcz51_2
              try clear hcz51_3
              try clear hcz51_4
              try clear hcz51_5
              try clear hcz51_6
              try clear hcz51_7
              try clear hcz51_8
              try clear hcz54_0
              try clear hcz54_1
              try clear hcz54_2
              try clear hcz54_3
              try clear hcz54_4
              try clear hcz54_5
              try clear hcz54_6
              try clear hcz54_7
              try clear hcz54_8
              try clear hcz57_0
              try clear hcz57_1
              try clear hcz57_2
              try clear hcz57_3
              try clear hcz57_4
              try clear hcz57_5
              try clear hcz57_6
              try clear hcz57_7
              try clear hcz57_8
              try clear hcz59_0
              try clear hcz59_1
              try clear hcz59_2
              try clear hcz59_3
              try clear hcz59_4
              try clear hcz59_5
              try clear hcz59_6
              try clear hcz59_7
              try clear hcz59_8
              try clear hcz61_0
              try clear hcz61_1
              try clear hcz61_2
              try clear hcz61_3
              try clear hcz61_4
              try clear hcz61_5
              try clear hcz61_6
              try clear hcz61_7
              try clear hcz61_8
              try clear hcz63_0
              try clear hcz63_1
              try clear hcz63_2
              try clear hcz63_3
              try clear hcz63_4
              try clear hcz63_5
              try clear hcz63_6
              try clear hcz63_7
              try clear hcz63_8
              try clear hcz6_0
              try clear hcz6_1
              try clear hcz6_2
              try clear hcz6_3
              try clear hcz6_4
              try clear hcz6_5
              try clear hcz6_6
              try clear hcz6_7
              try clear hcz6_8
              try clear hcz9_0
              try clear hcz9_1
              try clear hcz9_2
              try clear hcz9_3
              try clear hcz9_4
              try clear hcz9_5
              try clear hcz9_6
              try clear hcz9_7
              try clear hcz9_8
              try clear hfz12_0
              try clear hfz12_1
              try clear hfz12_2
              try clear hfz12_3
              try clear hfz12_4
              try clear hfz12_5
              try clear hfz12_6
              try clear hfz12_7
              try clear hfz12_8
              try clear hfz15_0
              try clear hfz15_1
              try clear hfz15_2
              try clear hfz15_3
              try clear hfz15_4
              try clear hfz15_5
              try clear hfz15_6
              try clear hfz15_7
              try clear hfz15_8
              try clear hfz19_0
              try clear hfz19_1
              try clear hfz19_2
              try clear hfz19_3
              try clear hfz19_4
              try clear hfz19_5
              try clear hfz19_6
              try clear hfz19_7
              try clear hfz19_8
              try clear hfz23_0
              try clear hfz23_1
              try clear hfz23_2
              try clear hfz23_3
              try clear hfz28_0
              try clear hfz28_1
              try clear hfz28_2
              try clear hfz28_3
              try clear hfz28_4
              try clear hfz28_5
              try clear hfz28_6
              try clear hfz28_7
              try clear hfz28_8
              try clear hfz31_0
              try clear hfz31_1
              try clear hfz31_2
              try clear hfz31_3
              try clear hfz31_4
              try clear hfz31_5
              try clear hfz31_6
              try clear hfz31_7
              try clear hfz31_8
              try clear hfz35_0
              try clear hfz35_1
              try clear hfz35_2
              try clear hfz35_3
              try clear hfz35_4
              try clear hfz35_5
              try clear hfz35_6
              try clear hfz35_7
              try clear hfz35_8
              try clear hfz36_0
              try clear hfz36_1
              try clear hfz36_2
              try clear hfz36_3
              try clear hfz39_0
              try clear hfz39_1
              try clear hfz39_2
              try clear hfz39_3
              try clear hfz39_4
              try clear hfz39_5
              try clear hfz39_6
              try clear hfz39_7
              try clear hfz39_8
              try clear hfz40_0
              try clear hfz40_1
              try clear hfz40_2
              try clear hfz40_3
              try clear hfz42_0
              try clear hfz42_1
              try clear hfz42_2
              try clear hfz42_3
              try clear hfz42_4
              try clear hfz42_5
              try clear hfz42_6
              try clear hfz42_7
              try clear hfz42_8
              try clear hfz51_0
              try clear hfz51_1
              try clear hfz51_2
              try clear hfz51_3
              try clear hfz51_4
              try clear hfz51_5
              try clear hfz51_6
              try clear hfz51_7
              try clear hfz51_8
              try clear hfz54_0
              try clear hfz54_1
              try clear hfz54_2
              try clear hfz54_3
              try clear hfz54_4
              try clear hfz54_5
              try clear hfz54_6
              try clear hfz54_7
              try clear hfz54_8
              try clear hfz57_0
              try clear hfz57_1
              try clear hfz57_2
              try clear hfz57_3
              try clear hfz57_4
              try clear hfz57_5
              try clear hfz57_6
              try clear hfz57_7
              try clear hfz57_8
              try clear hfz59_0
              try clear hfz59_1
              try clear hfz59_2
              try clear hfz59_3
              try clear hfz59_4
              try clear hfz59_5
              try clear hfz59_6
              try clear hfz59_7
              try clear hfz59_8
              try clear hfz61_0
              try clear hfz61_1
              try clear hfz61_2
              try clear hfz61_3
              try clear hfz61_4
              try clear hfz61_5
              try clear hfz61_6
              try clear hfz61_7
              try clear hfz61_8
              try clear hfz63_0
              try clear hfz63_1
              try clear hfz63_2
              try clear hfz63_3
              try clear hfz63_4
              try clear hfz63_5
              try clear hfz63_6
              try clear hfz63_7
              try clear hfz63_8
              try clear hfz6_0
              try clear hfz6_1
              try clear hfz6_2
              try clear hfz6_3
              try clear hfz6_4
              try clear hfz6_5
              try clear hfz6_6
              try clear hfz6_7
              try clear hfz6_8
              try clear hfz9_0
              try clear hfz9_1
              try clear hfz9_2
              try clear hfz9_3
              try clear hfz9_4
              try clear hfz9_5
              try clear hfz9_6
              try clear hfz9_7
              try clear hfz9_8
              try clear p2
              obtain ⟨kq, x97_43, rfl, HA, HJ43, BK135, BK142, HB⟩ := hcut
              cases kq with
              | zero => exact absurd HA.out (by simp [spec_fits.j1])
              | succ kj43 =>
                have H := HA.out
                clear HA
                simp only [spec_fits.j1] at H
                by_cases c64 : x97_43 = true
                · subst c64
                  have H1 : (some false) = some r := by rw [if_pos rfl] at H; exact H
                  clear H
                  have H := H1
                  clear H1
                  obtain rfl := Option.some.inj H
                  go_wp2
                  go_ret
                  exact ⟨by first | rfl | (simp [errW_none, errW_some] <;> rfl) | (simp [*, errW_none, errW_some] <;> rfl), by repeat (first | (with_reducible first | exact HB.out | apply below_alloc | apply pw_below_drewN | apply below_drew1 | refine below_set ?_ GE135.out | refine below_set ?_ GE142.out) | exact HB.out)⟩
                · replace c64 := Bool.eq_false_iff.mpr c64
                  subst c64
                  have H1 : (if a0_4 = 0 then (if a0_6 = 0 then (if t139 = true then (if t140 = true then (some true) else (if a0_5 = (-1) then (some (a0_6 == 0)) else (some false))) else (if a0_3 = (-1) then (if t140 = true then (some true) else (if a0_5 = (-1) then (some (a0_6 == 0)) else (some false))) else (some false))) else (if a0_5 = (-1) then (if t139 = true then (if t140 = true then (some true) else (some (a0_6 == 0))) else (if a0_3 = (-1) then (if t140 = true then (some true) else (some (a0_6 == 0))) else (some false))) else (some false))) else (if a0_3 = (-1) then (if a0_6 = 0 then (if t139 = true then (if t140 = true then (some true) else (if a0_5 = (-1) then (some (a0_6 == 0)) else (some false))) else (some false)) else (if a0_5 = (-1) then (if t139 = true then (if t140 = true then (some true) else (some (a0_6 == 0))) else (some false)) else (some false))) else (some false))) = some r := by rw [if_neg (show ¬ (false = true) by decide)] at H; exact H
                  clear H
                  have H := H1
                  clear H1
                  by_cases c65 : a0_4 = 0
                  · rw [if_pos c65] at H
                    have c65b0 : (a0_4 == 0) = true := beq_iff_eq.mpr c65
                    have c65b1 : (a0_4 != 0) = false := bne_eq_false_iff_eq.mpr c65
                    clear c65
                    by_cases c66 : a0_6 = 0
                    · rw [if_pos c66] at H
                      have c66b0 : (a0_6 == 0) = true := beq_iff_eq.mpr c66
                      have c66b1 : (a0_6 != 0) = false := bne_eq_false_iff_eq.mpr c66
                      clear c66
                      by_cases c67 : t139 = true
                      · subst c67
                        have H1 : (if t140 = true then (some true) else (if a0_5 = (-1) then (some (a0_6 == 0)) else (some false))) = some r := by rw [if_pos rfl] at H; exact H
                        clear H
                        have H := H1
                        clear H1
                        by_cases c68 : t140 = true
                        · subst c68
                          have H1 : (some true) = some r := by rw [if_pos rfl] at H; exact H
                          clear H
                          have H := H1
                          clear H1
                          obtain rfl := Option.some.inj H
                          have hnb69 := NB135_142.out
                          have hnc69 := NB142_135.out
                          have hcz70_0 : wc.cell? ⟨gb135, 0, none⟩ = some (.string a0_0) := (blk_cell BK135.out 0).trans rfl
                          have hcz70_1 : wc.cell? ⟨gb135, 1, none⟩ = some (.int .i64 a0_1) := (blk_cell BK135.out 1).trans rfl
                          have hcz70_2 : wc.cell? ⟨gb135, 2, none⟩ = some (.int .i64 a0_2) := (blk_cell BK135.out 2).trans rfl
                          have hcz70_3 : wc.cell? ⟨gb135, 3, none⟩ = some (.int .i64 a0_3) := (blk_cell BK135.out 3).trans rfl
                          have hcz70_4 : wc.cell? ⟨gb135, 4, none⟩ = some (.int .i64 a0_4) := (blk_cell BK135.out 4).trans rfl
                          have hcz70_5 : wc.cell? ⟨gb135, 5, none⟩ = some (.int .i64 a0_5) := (blk_cell BK135.out 5).trans rfl
                          have hcz70_6 : wc.cell? ⟨gb135, 6, none⟩ = some (.int .i64 a0_6) := (blk_cell BK135.out 6).trans rfl
                          have hcz70_7 : wc.cell? ⟨gb135, 7, none⟩ = some (.int .i64 a0_7) := (blk_cell BK135.out 7).trans rfl
                          have hcz70_8 : wc.cell? ⟨gb135, 8, none⟩ = some (.int .u8 a0_8) := (blk_cell BK135.out 8).trans rfl
                          have hfz70_0 := blk_frozen BK135.out 0
                          have hfz70_1 := blk_frozen BK135.out 1
                          have hfz70_2 := blk_frozen BK135.out 2
                          have hfz70_3 := blk_frozen BK135.out 3
                          have hfz70_4 := blk_frozen BK135.out 4
                          have hfz70_5 := blk_frozen BK135.out 5
                          have hfz70_6 := blk_frozen BK135.out 6
                          have hfz70_7 := blk_frozen BK135.out 7
                          have hfz70_8 := blk_frozen BK135.out 8
                          have hcz71_0 : wc.cell? ⟨gb142, 0, none⟩ = some (.int .i64 t137) := (blk_cell BK142.out 0).trans rfl
                          have hcz71_1 : wc.cell? ⟨gb142, 1, none⟩ = some (.string t138) := (blk_cell BK142.out 1).trans rfl
                          have hcz71_2 : wc.cell? ⟨gb142, 2, none⟩ = some (.bool true) := (blk_cell BK142.out 2).trans rfl
                          have hcz71_3 : wc.cell? ⟨gb142, 3, none⟩ = some (.bool true) := (blk_cell BK142.out 3).trans rfl
                          have hfz71_0 := blk_frozen BK142.out 0
                          have hfz71_1 := blk_frozen BK142.out 1
                          have hfz71_2 := blk_frozen BK142.out 2
                          have hfz71_3 := blk_frozen BK142.out 3
                          go_wp2
                          go_ret
                          exact ⟨by first | rfl | (simp [errW_none, errW_some] <;> rfl) | (simp [*, errW_none, errW_some] <;> rfl), by repeat (first | (with_reducible first | exact HB.out | apply below_alloc | apply pw_below_drewN | apply below_drew1 | refine below_set ?_ GE135.out | refine below_set ?_ GE142.out) | exact HB.out)⟩
                        · replace c68 := Bool.eq_false_iff.mpr c68
                          subst c68
                          have H1 : (if a0_5 = (-1) then (some (a0_6 == 0)) else (some false)) = some r := by rw [if_neg (show ¬ (false = true) by decide)] at H; exact H
                          clear H
                          have H := H1
                          clear H1
                          by_cases c72 : a0_5 = (-1)
                          · rw [if_pos c72] at H
                            have c72b0 : (a0_5 == (-1)) = true := beq_iff_eq.mpr c72
                            have c72b1 : (a0_5 != (-1)) = false := bne_eq_false_iff_eq.mpr c72
                            clear c72
                            obtain rfl := Option.some.inj H
                            have hnb73 := NB135_142.out
                            have hnc73 := NB142_135.out
                            have hcz74_0 : wc.cell? ⟨gb135, 0, none⟩ = some (.string a0_0) := (blk_cell BK135.out 0).trans rfl
                            have hcz74_1 : wc.cell? ⟨gb135, 1, none⟩ = some (.int .i64 a0_1) := (blk_cell BK135.out 1).trans rfl
                            have hcz74_2 : wc.cell? ⟨gb135, 2, none⟩ = some (.int .i64 a0_2) := (blk_cell BK135.out 2).trans rfl
                            have hcz74_3 : wc.cell? ⟨gb135, 3, none⟩ = some (.int .i64 a0_3) := (blk_cell BK135.out 3).trans rfl
                            have hcz74_4 : wc.cell? ⟨gb135, 4, none⟩ = some (.int .i64 a0_4) := (blk_cell BK135.out 4).trans rfl
                            have hcz74_5 : wc.cell? ⟨gb135, 5, none⟩ = some (.int .i64 a0_5) := (blk_cell BK135.out 5).trans rfl
                            have hcz74_6 : wc.cell? ⟨gb135, 6, none⟩ = some (.int .i64 a0_6) := (blk_cell BK135.out 6).trans rfl
                            have hcz74_7 : wc.cell? ⟨gb135, 7, none⟩ = some (.int .i64 a0_7) := (blk_cell BK135.out 7).trans rfl
                            have hcz74_8 : wc.cell? ⟨gb135, 8, none⟩ = some (.int .u8 a0_8) := (blk_cell BK135.out 8).trans rfl
                            have hfz74_0 := blk_frozen BK135.out 0
                            have hfz74_1 := blk_frozen BK135.out 1
                            have hfz74_2 := blk_frozen BK135.out 2
                            have hfz74_3 := blk_frozen BK135.out 3
                            have hfz74_4 := blk_frozen BK135.out 4
                            have hfz74_5 := blk_frozen BK135.out 5
                            have hfz74_6 := blk_frozen BK135.out 6
                            have hfz74_7 := blk_frozen BK135.out 7
                            have hfz74_8 := blk_frozen BK135.out 8
                            have hcz75_0 : wc.cell? ⟨gb142, 0, none⟩ = some (.int .i64 t137) := (blk_cell BK142.out 0).trans rfl
                            have hcz75_1 : wc.cell? ⟨gb142, 1, none⟩ = some (.string t138) := (blk_cell BK142.out 1).trans rfl
                            have hcz75_2 : wc.cell? ⟨gb142, 2, none⟩ = some (.bool true) := (blk_cell BK142.out 2).trans rfl
                            have hcz75_3 : wc.cell? ⟨gb142, 3, none⟩ = some (.bool false) := (blk_cell BK142.out 3).trans rfl
                            have hfz75_0 := blk_frozen BK142.out 0
                            have hfz75_1 := blk_frozen BK142.out 1
                            have hfz75_2 := blk_frozen BK142.out 2
                            have hfz75_3 := blk_frozen BK142.out 3
                            go_wp2
                            go_ret
                            exact ⟨by first | rfl | (simp [errW_none, errW_some] <;> rfl) | (simp [*, errW_none, errW_some] <;> rfl), by repeat (first | (with_reducible first | exact HB.out | apply below_alloc | apply pw_below_drewN | apply below_drew1 | refine below_set ?_ GE135.out | refine below_set ?_ GE142.out) | exact HB.out)⟩
                          · rw [if_neg c72] at H
                            have c72b0 : (a0_5 == (-1)) = false := beq_eq_false_iff_ne.mpr c72
                            have c72b1 : (a0_5 != (-1)) = true := bne_iff_ne.mpr c72
                            obtain rfl := Option.some.inj H
                            have hnb76 := NB135_142.out
                            have hnc76 := NB142_135.out
                            have hcz77_0 : wc.cell? ⟨gb135, 0, none⟩ = some (.string a0_0) := (blk_cell BK135.out 0).trans rfl
                            have hcz77_1 : wc.cell? ⟨gb135, 1, none⟩ = some (.int .i64 a0_1) := (blk_cell BK135.out 1).trans rfl
                            have hcz77_2 : wc.cell? ⟨gb135, 2, none⟩ = some (.int .i64 a0_2) := (blk_cell BK135.out 2).trans rfl
                            have hcz77_3 : wc.cell? ⟨gb135, 3, none⟩ = some (.int .i64 a0_3) := (blk_cell BK135.out 3).trans rfl
                            have hcz77_4 : wc.cell? ⟨gb135, 4, none⟩ = some (.int .i64 a0_4) := (blk_cell BK135.out 4).trans rfl
                            have hcz77_5 : wc.cell? ⟨gb135, 5, none⟩ = some (.int .i64 a0_5) := (blk_cell BK135.out 5).trans rfl
                            have hcz77_6 : wc.cell? ⟨gb135, 6, none⟩ = some (.int .i64 a0_6) := (blk_cell BK135.out 6).trans rfl
                            have hcz77_7 : wc.cell? ⟨gb135, 7, none⟩ = some (.int .i64 a0_7) := (blk_cell BK135.out 7).trans rfl
                            have hcz77_8 : wc.cell? ⟨gb135, 8, none⟩ = some (.int .u8 a0_8) := (blk_cell BK135.out 8).trans rfl
                            have hfz77_0 := blk_frozen BK135.out 0
                            have hfz77_1 := blk_frozen BK135.out 1
                            have hfz77_2 := blk_frozen BK135.out 2
                            have hfz77_3 := blk_frozen BK135.out 3
                            have hfz77_4 := blk_frozen BK135.out 4
                            have hfz77_5 := blk_frozen BK135.out 5
                            have hfz77_6 := blk_frozen BK135.out 6
                            have hfz77_7 := blk_frozen BK135.out 7
                            have hfz77_8 := blk_frozen BK135.out 8
                            have hcz78_0 : wc.cell? ⟨gb142, 0, none⟩ = some (.int .i64 t137) := (blk_cell BK142.out 0).trans rfl
                            have hcz78_1 : wc.cell? ⟨gb142, 1, none⟩ = some (.string t138) := (blk_cell BK142.out 1).trans rfl
                            have hcz78_2 : wc.cell? ⟨gb142, 2, none⟩ = some (.bool true) := (blk_cell BK142.out 2).trans rfl
                            have hcz78_3 : wc.cell? ⟨gb142, 3, none⟩ = some (.bool false) := (blk_cell BK142.out 3).trans rfl
                            have hfz78_0 := blk_frozen BK142.out 0
                            have hfz78_1 := blk_frozen BK142.out 1
                            have hfz78_2 := blk_frozen BK142.out 2
                            have hfz78_3 := blk_frozen BK142.out 3
                            go_wp2
                            go_ret
                            exact ⟨by first | rfl | (simp [errW_none, errW_some] <;> rfl) | (simp [*, errW_none, errW_some] <;> rfl), by repeat (first | (with_reducible first | exact HB.out | apply below_alloc | apply pw_below_drewN | apply below_drew1 | refine below_set ?_ GE135.out | refine below_set ?_ GE142.out) | exact HB.out)⟩
                      · replace c67 := Bool.eq_false_iff.mpr c67
                        subst c67
                        have H1 : (if a0_3 = (-1) then (if t140 = true then (some true) else (if a0_5 = (-1) then (some (a0_6 == 0)) else (some false))) else (some false)) = some r := by rw [if_neg (show ¬ (false = true) by decide)] at H; exact H
                        clear H
                        have H := H1
                        clear H1
                        by_cases c79 : a0_3 = (-1)
                        · rw [if_pos c79] at H
                          have c79b0 : (a0_3 == (-1)) = true := beq_iff_eq.mpr c79
                          have c79b1 : (a0_3 != (-1)) = false := bne_eq_false_iff_eq.mpr c79
                          clear c79
                          by_cases c80 : t140 = true
                          · subst c80
                            have H1 : (some true) = some r := by rw [if_pos rfl] at H; exact H
                            clear H
                            have H := H1
                            clear H1
                            obtain rfl := Option.some.inj H
                            have hnb81 := NB135_142.out
                            have hnc81 := NB142_135.out
                            have hcz82_0 : wc.cell? ⟨gb135, 0, none⟩ = some (.string a0_0) := (blk_cell BK135.out 0).trans rfl
                            have hcz82_1 : wc.cell? ⟨gb135, 1, none⟩ = some (.int .i64 a0_1) := (blk_cell BK135.out 1).trans rfl
                            have hcz82_2 : wc.cell? ⟨gb135, 2, none⟩ = some (.int .i64 a0_2) := (blk_cell BK135.out 2).trans rfl
                            have hcz82_3 : wc.cell? ⟨gb135, 3, none⟩ = some (.int .i64 a0_3) := (blk_cell BK135.out 3).trans rfl
                            have hcz82_4 : wc.cell? ⟨gb135, 4, none⟩ = some (.int .i64 a0_4) := (blk_cell BK135.out 4).trans rfl
                            have hcz82_5 : wc.cell? ⟨gb135, 5, none⟩ = some (.int .i64 a0_5) := (blk_cell BK135.out 5).trans rfl
                            have hcz82_6 : wc.cell? ⟨gb135, 6, none⟩ = some (.int .i64 a0_6) := (blk_cell BK135.out 6).trans rfl
                            have hcz82_7 : wc.cell? ⟨gb135, 7, none⟩ = some (.int .i64 a0_7) := (blk_cell BK135.out 7).trans rfl
                            have hcz82_8 : wc.cell? ⟨gb135, 8, none⟩ = some (.int .u8 a0_8) := (blk_cell BK135.out 8).trans rfl
                            have hfz82_0 := blk_frozen BK135.out 0
                            have hfz82_1 := blk_frozen BK135.out 1
                            have hfz82_2 := blk_frozen BK135.out 2
                            have hfz82_3 := blk_frozen BK135.out 3
                            have hfz82_4 := blk_frozen BK135.out 4
                            have hfz82_5 := blk_frozen BK135.out 5
                            have hfz82_6 := blk_frozen BK135.out 6
                            have hfz82_7 := blk_frozen BK135.out 7
                            have hfz82_8 := blk_frozen BK135.out 8
                            have hcz83_0 : wc.cell? ⟨gb142, 0, none⟩ = some (.int .i64 t137) := (blk_cell BK142.out 0).trans rfl
                            have hcz83_1 : wc.cell? ⟨gb142, 1, none⟩ = some (.string t138) := (blk_cell BK142.out 1).trans rfl
                            have hcz83_2 : wc.cell? ⟨gb142, 2, none⟩ = some (.bool false) := (blk_cell BK142.out 2).trans rfl
                            have hcz83_3 : wc.cell? ⟨gb142, 3, none⟩ = some (.bool true) := (blk_cell BK142.out 3).trans rfl
                            have hfz83_0 := blk_frozen BK142.out 0
                            have hfz83_1 := blk_frozen BK142.out 1
                            have hfz83_2 := blk_frozen BK142.out 2
                            have hfz83_3 := blk_frozen BK142.out 3
                            go_wp2
                            go_ret
                            exact ⟨by first | rfl | (simp [errW_none, errW_some] <;> rfl) | (simp [*, errW_none, errW_some] <;> rfl), by repeat (first | (with_reducible first | exact HB.out | apply below_alloc | apply pw_below_drewN | apply below_drew1 | refine below_set ?_ GE135.out | refine below_set ?_ GE142.out) | exact HB.out)⟩
                          · replace c80 := Bool.eq_false_iff.mpr c80
                            subst c80
                            have H1 : (if a0_5 = (-1) then (some (a0_6 == 0)) else (some false)) = some r := by rw [if_neg (show ¬ (false = true) by decide)] at H; exact H
                            clear H
                            have H := H1
                            clear H1
                            by_cases c84 : a0_5 = (-1)
                            · rw [if_pos c84] at H
                              have c84b0 : (a0_5 == (-1)) = true := beq_iff_eq.mpr c84
                              have c84b1 : (a0_5 != (-1)) = false := bne_eq_false_iff_eq.mpr c84
                              clear c84
                              obtain rfl := Option.some.inj H
                              have hnb85 := NB135_142.out
                              have hnc85 := NB142_135.out
                              have hcz86_0 : wc.cell? ⟨gb135, 0, none⟩ = some (.string a0_0) := (blk_cell BK135.out 0).trans rfl
                              have hcz86_1 : wc.cell? ⟨gb135, 1, none⟩ = some (.int .i64 a0_1) := (blk_cell BK135.out 1).trans rfl
                              have hcz86_2 : wc.cell? ⟨gb135, 2, none⟩ = some (.int .i64 a0_2) := (blk_cell BK135.out 2).trans rfl
                              have hcz86_3 : wc.cell? ⟨gb135, 3, none⟩ = some (.int .i64 a0_3) := (blk_cell BK135.out 3).trans rfl
                              have hcz86_4 : wc.cell? ⟨gb135, 4, none⟩ = some (.int .i64 a0_4) := (blk_cell BK135.out 4).trans rfl
                              have hcz86_5 : wc.cell? ⟨gb135, 5, none⟩ = some (.int .i64 a0_5) := (blk_cell BK135.out 5).trans rfl
                              have hcz86_6 : wc.cell? ⟨gb135, 6, none⟩ = some (.int .i64 a0_6) := (blk_cell BK135.out 6).trans rfl
                              have hcz86_7 : wc.cell? ⟨gb135, 7, none⟩ = some (.int .i64 a0_7) := (blk_cell BK135.out 7).trans rfl
                              have hcz86_8 : wc.cell? ⟨gb135, 8, none⟩ = some (.int .u8 a0_8) := (blk_cell BK135.out 8).trans rfl
                              have hfz86_0 := blk_frozen BK135.out 0
                              have hfz86_1 := blk_frozen BK135.out 1
                              have hfz86_2 := blk_frozen BK135.out 2
                              have hfz86_3 := blk_frozen BK135.out 3
                              have hfz86_4 := blk_frozen BK135.out 4
                              have hfz86_5 := blk_frozen BK135.out 5
                              have hfz86_6 := blk_frozen BK135.out 6
                              have hfz86_7 := blk_frozen BK135.out 7
                              have hfz86_8 := blk_frozen BK135.out 8
                              have hcz87_0 : wc.cell? ⟨gb142, 0, none⟩ = some (.int .i64 t137) := (blk_cell BK142.out 0).trans rfl
                              have hcz87_1 : wc.cell? ⟨gb142, 1, none⟩ = some (.string t138) := (blk_cell BK142.out 1).trans rfl
                              have hcz87_2 : wc.cell? ⟨gb142, 2, none⟩ = some (.bool false) := (blk_cell BK142.out 2).trans rfl
                              have hcz87_3 : wc.cell? ⟨gb142, 3, none⟩ = some (.bool false) := (blk_cell BK142.out 3).trans rfl
                              have hfz87_0 := blk_frozen BK142.out 0
                              have hfz87_1 := blk_frozen BK142.out 1
                              have hfz87_2 := blk_frozen BK142.out 2
                              have hfz87_3 := blk_frozen BK142.out 3
                              go_wp2
                              go_ret
                              exact ⟨by first | rfl | (simp [errW_none, errW_some] <;> rfl) | (simp [*, errW_none, errW_some] <;> rfl), by repeat (first | (with_reducible first | exact HB.out | apply below_alloc | apply pw_below_drewN | apply below_drew1 | refine below_set ?_ GE135.out | refine below_set ?_ GE142.out) | exact HB.out)⟩
                            · rw [if_neg c84] at H
                              have c84b0 : (a0_5 == (-1)) = false := beq_eq_false_iff_ne.mpr c84
                              have c84b1 : (a0_5 != (-1)) = true := bne_iff_ne.mpr c84
                              obtain rfl := Option.some.inj H
                              have hnb88 := NB135_142.out
                              have hnc88 := NB142_135.out
                              have hcz89_0 : wc.cell? ⟨gb135, 0, none⟩ = some (.string a0_0) := (blk_cell BK135.out 0).trans rfl
                              have hcz89_1 : wc.cell? ⟨gb135, 1, none⟩ = some (.int .i64 a0_1) := (blk_cell BK135.out 1).trans rfl
                              have hcz89_2 : wc.cell? ⟨gb135, 2, none⟩ = some (.int .i64 a0_2) := (blk_cell BK135.out 2).trans rfl
                              have hcz89_3 : wc.cell? ⟨gb135, 3, none⟩ = some (.int .i64 a0_3) := (blk_cell BK135.out 3).trans rfl
                              have hcz89_4 : wc.cell? ⟨gb135, 4, none⟩ = some (.int .i64 a0_4) := (blk_cell BK135.out 4).trans rfl
                              have hcz89_5 : wc.cell? ⟨gb135, 5, none⟩ = some (.int .i64 a0_5) := (blk_cell BK135.out 5).trans rfl
                              have hcz89_6 : wc.cell? ⟨gb135, 6, none⟩ = some (.int .i64 a0_6) := (blk_cell BK135.out 6).trans rfl
                              have hcz89_7 : wc.cell? ⟨gb135, 7, none⟩ = some (.int .i64 a0_7) := (blk_cell BK135.out 7).trans rfl
                              have hcz89_8 : wc.cell? ⟨gb135, 8, none⟩ = some (.int .u8 a0_8) := (blk_cell BK135.out 8).trans rfl
                              have hfz89_0 := blk_frozen BK135.out 0
                              have hfz89_1 := blk_frozen BK135.out 1
                              have hfz89_2 := blk_frozen BK135.out 2
                              have hfz89_3 := blk_frozen BK135.out 3
                              have hfz89_4 := blk_frozen BK135.out 4
                              have hfz89_5 := blk_frozen BK135.out 5
                              have hfz89_6 := blk_frozen BK135.out 6
                              have hfz89_7 := blk_frozen BK135.out 7
                              have hfz89_8 := blk_frozen BK135.out 8
                              have hcz90_0 : wc.cell? ⟨gb142, 0, none⟩ = some (.int .i64 t137) := (blk_cell BK142.out 0).trans rfl
                              have hcz90_1 : wc.cell? ⟨gb142, 1, none⟩ = some (.string t138) := (blk_cell BK142.out 1).trans rfl
                              have hcz90_2 : wc.cell? ⟨gb142, 2, none⟩ = some (.bool false) := (blk_cell BK142.out 2).trans rfl
                              have hcz90_3 : wc.cell? ⟨gb142, 3, none⟩ = some (.bool false) := (blk_cell BK142.out 3).trans rfl
                              have hfz90_0 := blk_frozen BK142.out 0
                              have hfz90_1 := blk_frozen BK142.out 1
                              have hfz90_2 := blk_frozen BK142.out 2
                              have hfz90_3 := blk_frozen BK142.out 3
                              go_wp2
                              go_ret
                              exact ⟨by first | rfl | (simp [errW_none, errW_some] <;> rfl) | (simp [*, errW_none, errW_some] <;> rfl), by repeat (first | (with_reducible first | exact HB.out | apply below_alloc | apply pw_below_drewN | apply below_drew1 | refine below_set ?_ GE135.out | refine below_set ?_ GE142.out) | exact HB.out)⟩
                        · rw [if_neg c79] at H
                          have c79b0 : (a0_3 == (-1)) = false := beq_eq_false_iff_ne.mpr c79
                          have c79b1 : (a0_3 != (-1)) = true := bne_iff_ne.mpr c79
                          obtain rfl := Option.some.inj H
                          have hnb91 := NB135_142.out
                          have hnc91 := NB142_135.out
                          have hcz92_0 : wc.cell? ⟨gb135, 0, none⟩ = some (.string a0_0) := (blk_cell BK135.out 0).trans rfl
                          have hcz92_1 : wc.cell? ⟨gb135, 1, none⟩ = some (.int .i64 a0_1) := (blk_cell BK135.out 1).trans rfl
                          have hcz92_2 : wc.cell? ⟨gb135, 2, none⟩ = some (.int .i64 a0_2) := (blk_cell BK135.out 2).trans rfl
                          have hcz92_3 : wc.cell? ⟨gb135, 3, none⟩ = some (.int .i64 a0_3) := (blk_cell BK135.out 3).trans rfl
                          have hcz92_4 : wc.cell? ⟨gb135, 4, none⟩ = some (.int .i64 a0_4) := (blk_cell BK135.out 4).trans rfl
                          have hcz92_5 : wc.cell? ⟨gb135, 5, none⟩ = some (.int .i64 a0_5) := (blk_cell BK135.out 5).trans rfl
                          have hcz92_6 : wc.cell? ⟨gb135, 6, none⟩ = some (.int .i64 a0_6) := (blk_cell BK135.out 6).trans rfl
                          have hcz92_7 : wc.cell? ⟨gb135, 7, none⟩ = some (.int .i64 a0_7) := (blk_cell BK135.out 7).trans rfl
                          have hcz92_8 : wc.cell? ⟨gb135, 8, none⟩ = some (.int .u8 a0_8) := (blk_cell BK135.out 8).trans rfl
                          have hfz92_0 := blk_frozen BK135.out 0
                          have hfz92_1 := blk_frozen BK135.out 1
                          have hfz92_2 := blk_frozen BK135.out 2
                          have hfz92_3 := blk_frozen BK135.out 3
                          have hfz92_4 := blk_frozen BK135.out 4
                          have hfz92_5 := blk_frozen BK135.out 5
                          have hfz92_6 := blk_frozen BK135.out 6
                          have hfz92_7 := blk_frozen BK135.out 7
                          have hfz92_8 := blk_frozen BK135.out 8
                          have hcz93_0 : wc.cell? ⟨gb142, 0, none⟩ = some (.int .i64 t137) := (blk_cell BK142.out 0).trans rfl
                          have hcz93_1 : wc.cell? ⟨gb142, 1, none⟩ = some (.string t138) := (blk_cell BK142.out 1).trans rfl
                          have hcz93_2 : wc.cell? ⟨gb142, 2, none⟩ = some (.bool false) := (blk_cell BK142.out 2).trans rfl
                          have hcz93_3 : wc.cell? ⟨gb142, 3, none⟩ = some (.bool t140) := (blk_cell BK142.out 3).trans rfl
                          have hfz93_0 := blk_frozen BK142.out 0
                          have hfz93_1 := blk_frozen BK142.out 1
                          have hfz93_2 := blk_frozen BK142.out 2
                          have hfz93_3 := blk_frozen BK142.out 3
                          go_wp2
                          go_ret
                          exact ⟨by first | rfl | (simp [errW_none, errW_some] <;> rfl) | (simp [*, errW_none, errW_some] <;> rfl), by repeat (first | (with_reducible first | exact HB.out | apply below_alloc | apply pw_below_drewN | apply below_drew1 | refine below_set ?_ GE135.out | refine below_set ?_ GE142.out) | exact HB.out)⟩
                    · rw [if_neg c66] at H
                      have c66b0 : (a0_6 == 0) = false := beq_eq_false_iff_ne.mpr c66
                      have c66b1 : (a0_6 != 0) = true := bne_iff_ne.mpr c66
                      by_cases c94 : a0_5 = (-1)
                      · rw [if_pos c94] at H
                        have c94b0 : (a0_5 == (-1)) = true := beq_iff_eq.mpr c94
                        have c94b1 : (a0_5 != (-1)) = false := bne_eq_false_iff_eq.mpr c94
                        clear c94
                        by_cases c95 : t139 = true
                        · subst c95
                          have H1 : (if t140 = true then (some true) else (some (a0_6 == 0))) = some r := by rw [if_pos rfl] at H; exact H
                          clear H
                          have H := H1
                          clear H1
                          by_cases c96 : t140 = true
                          · subst c96
                            have H1 : (some true) = some r := by rw [if_pos rfl] at H; exact H
                            clear H
                            have H := H1
                            clear H1
                            obtain rfl := Option.some.inj H
                            have hnb97 := NB135_142.out
                            have hnc97 := NB142_135.out
                            have hcz98_0 : wc.cell? ⟨gb135, 0, none⟩ = some (.string a0_0) := (blk_cell BK135.out 0).trans rfl
                            have hcz98_1 : wc.cell? ⟨gb135, 1, none⟩ = some (.int .i64 a0_1) := (blk_cell BK135.out 1).trans rfl
                            have hcz98_2 : wc.cell? ⟨gb135, 2, none⟩ = some (.int .i64 a0_2) := (blk_cell BK135.out 2).trans rfl
                            have hcz98_3 : wc.cell? ⟨gb135, 3, none⟩ = some (.int .i64 a0_3) := (blk_cell BK135.out 3).trans rfl
                            have hcz98_4 : wc.cell? ⟨gb135, 4, none⟩ = some (.int .i64 a0_4) := (blk_cell BK135.out 4).trans rfl
                            have hcz98_5 : wc.cell? ⟨gb135, 5, none⟩ = some (.int .i64 a0_5) := (blk_cell BK135.out 5).trans rfl
                            have hcz98_6 : wc.cell? ⟨gb135, 6, none⟩ = some (.int .i64 a0_6) := (blk_cell BK135.out 6).trans rfl
                            have hcz98_7 : wc.cell? ⟨gb135, 7, none⟩ = some (.int .i64 a0_7) := (blk_cell BK135.out 7).trans rfl
                            have hcz98_8 : wc.cell? ⟨gb135, 8, none⟩ = some (.int .u8 a0_8) := (blk_cell BK135.out 8).trans rfl
                            have hfz98_0 := blk_frozen BK135.out 0
                            have hfz98_1 := blk_frozen BK135.out 1
                            have hfz98_2 := blk_frozen BK135.out 2
                            have hfz98_3 := blk_frozen BK135.out 3
                            have hfz98_4 := blk_frozen BK135.out 4
                            have hfz98_5 := blk_frozen BK135.out 5
                            have hfz98_6 := blk_frozen BK135.out 6
                            have hfz98_7 := blk_frozen BK135.out 7
                            have hfz98_8 := blk_frozen BK135.out 8
                            have hcz99_0 : wc.cell? ⟨gb142, 0, none⟩ = some (.int .i64 t137) := (blk_cell BK142.out 0).trans rfl
                            have hcz99_1 : wc.cell? ⟨gb142, 1, none⟩ = some (.string t138) := (blk_cell BK142.out 1).trans rfl
                            have hcz99_2 : wc.cell? ⟨gb142, 2, none⟩ = some (.bool true) := (blk_cell BK142.out 2).trans rfl
                            have hcz99_3 : wc.cell? ⟨gb142, 3, none⟩ = some (.bool true) := (blk_cell BK142.out 3).trans rfl
                            have hfz99_0 := blk_frozen BK142.out 0
                            have hfz99_1 := blk_frozen BK142.out 1
                            have hfz99_2 := blk_frozen BK142.out 2
                            have hfz99_3 := blk_frozen BK142.out 3
                            go_wp2
                            go_ret
                            exact ⟨by first | rfl | (simp [errW_none, errW_some] <;> rfl) | (simp [*, errW_none, errW_some] <;> rfl), by repeat (first | (with_reducible first | exact HB.out | apply below_alloc | apply pw_below_drewN | apply below_drew1 | refine below_set ?_ GE135.out | refine below_set ?_ GE142.out) | exact HB.out)⟩
                          · replace c96 := Bool.eq_false_iff.mpr c96
                            subst c96
                            have H1 : (some (a0_6 == 0)) = some r := by rw [if_neg (show ¬ (false = true) by decide)] at H; exact H
                            clear H
                            have H := H1
                            clear H1
                            obtain rfl := Option.some.inj H
                            have hnb100 := NB135_142.out
                            have hnc100 := NB142_135.out
                            have hcz101_0 : wc.cell? ⟨gb135, 0, none⟩ = some (.string a0_0) := (blk_cell BK135.out 0).trans rfl
                            have hcz101_1 : wc.cell? ⟨gb135, 1, none⟩ = some (.int .i64 a0_1) := (blk_cell BK135.out 1).trans rfl
                            have hcz101_2 : wc.cell? ⟨gb135, 2, none⟩ = some (.int .i64 a0_2) := (blk_cell BK135.out 2).trans rfl
                            have hcz101_3 : wc.cell? ⟨gb135, 3, none⟩ = some (.int .i64 a0_3) := (blk_cell BK135.out 3).trans rfl
                            have hcz101_4 : wc.cell? ⟨gb135, 4, none⟩ = some (.int .i64 a0_4) := (blk_cell BK135.out 4).trans rfl
                            have hcz101_5 : wc.cell? ⟨gb135, 5, none⟩ = some (.int .i64 a0_5) := (blk_cell BK135.out 5).trans rfl
                            have hcz101_6 : wc.cell? ⟨gb135, 6, none⟩ = some (.int .i64 a0_6) := (blk_cell BK135.out 6).trans rfl
                            have hcz101_7 : wc.cell? ⟨gb135, 7, none⟩ = some (.int .i64 a0_7) := (blk_cell BK135.out 7).trans rfl
                            have hcz101_8 : wc.cell? ⟨gb135, 8, none⟩ = some (.int .u8 a0_8) := (blk_cell BK135.out 8).trans rfl
                            have hfz101_0 := blk_frozen BK135.out 0
                            have hfz101_1 := blk_frozen BK135.out 1
                            have hfz101_2 := blk_frozen BK135.out 2
                            have hfz101_3 := blk_frozen BK135.out 3
                            have hfz101_4 := blk_frozen BK135.out 4
                            have hfz101_5 := blk_frozen BK135.out 5
                            have hfz101_6 := blk_frozen BK135.out 6
                            have hfz101_7 := blk_frozen BK135.out 7
                            have hfz101_8 := blk_frozen BK135.out 8
                            have hcz102_0 : wc.cell? ⟨gb142, 0, none⟩ = some (.int .i64 t137) := (blk_cell BK142.out 0).trans rfl
                            have hcz102_1 : wc.cell? ⟨gb142, 1, none⟩ = some (.string t138) := (blk_cell BK142.out 1).trans rfl
                            have hcz102_2 : wc.cell? ⟨gb142, 2, none⟩ = some (.bool true) := (blk_cell BK142.out 2).trans rfl
                            have hcz102_3 : wc.cell? ⟨gb142, 3, none⟩ = some (.bool false) := (blk_cell BK142.out 3).trans rfl
                            have hfz102_0 := blk_frozen BK142.out 0
                            have hfz102_1 := blk_frozen BK142.out 1
                            have hfz102_2 := blk_frozen BK142.out 2
                            have hfz102_3 := blk_frozen BK142.out 3
                            go_wp2
                            go_ret
                            exact ⟨by first | rfl | (simp [errW_none, errW_some] <;> rfl) | (simp [*, errW_none, errW_some] <;> rfl), by repeat (first | (with_reducible first | exact HB.out | apply below_alloc | apply pw_below_drewN | apply below_drew1 | refine below_set ?_ GE135.out | refine below_set ?_ GE142.out) | exact HB.out)⟩
                        · replace c95 := Bool.eq_false_iff.mpr c95
                          subst c95
                          have H1 : (if a0_3 = (-1) then (if t140 = true then (some true) else (some (a0_6 == 0))) else (some false)) = some r := by rw [if_neg (show ¬ (false = true) by decide)] at H; exact H
                          clear H
                          have H := H1
                          clear H1
                          by_cases c103 : a0_3 = (-1)
                          · rw [if_pos c103] at H
                            have c103b0 : (a0_3 == (-1)) = true := beq_iff_eq.mpr c103
                            have c103b1 : (a0_3 != (-1)) = false := bne_eq_false_iff_eq.mpr c103
                            clear c103
                            by_cases c104 : t140 = true
                            · subst c104
                              have H1 : (some true) = some r := by rw [if_pos rfl] at H; exact H
                              clear H
                              have H := H1
                              clear H1
                              obtain rfl := Option.some.inj H
                              have hnb105 := NB135_142.out
                              have hnc105 := NB142_135.out
                              have hcz106_0 : wc.cell? ⟨gb135, 0, none⟩ = some (.string a0_0) := (blk_cell BK135.out 0).trans rfl
                              have hcz106_1 : wc.cell? ⟨gb135, 1, none⟩ = some (.int .i64 a0_1) := (blk_cell BK135.out 1).trans rfl
                              have hcz106_2 : wc.cell? ⟨gb135, 2, none⟩ = some (.int .i64 a0_2) := (blk_cell BK135.out 2).trans rfl
                              have hcz106_3 : wc.cell? ⟨gb135, 3, none⟩ = some (.int .i64 a0_3) := (blk_cell BK135.out 3).trans rfl
                              have hcz106_4 : wc.cell? ⟨gb135, 4, none⟩ = some (.int .i64 a0_4) := (blk_cell BK135.out 4).trans rfl
                              have hcz106_5 : wc.cell? ⟨gb135, 5, none⟩ = some (.int .i64 a0_5) := (blk_cell BK135.out 5).trans rfl
                              have hcz106_6 : wc.cell? ⟨gb135, 6, none⟩ = some (.int .i64 a0_6) := (blk_cell BK135.out 6).trans rfl
                              have hcz106_7 : wc.cell? ⟨gb135, 7, none⟩ = some (.int .i64 a0_7) := (blk_cell BK135.out 7).trans rfl
                              have hcz106_8 : wc.cell? ⟨gb135, 8, none⟩ = some (.int .u8 a0_8) := (blk_cell BK135.out 8).trans rfl
                              have hfz106_0 := blk_frozen BK135.out 0
                              have hfz106_1 := blk_frozen BK135.out 1
                              have hfz106_2 := blk_frozen BK135.out 2
                              have hfz106_3 := blk_frozen BK135.out 3
                              have hfz106_4 := blk_frozen BK135.out 4
                              have hfz106_5 := blk_frozen BK135.out 5
                              have hfz106_6 := blk_frozen BK135.out 6
                              have hfz106_7 := blk_frozen BK135.out 7
                              have hfz106_8 := blk_frozen BK135.out 8
                              have hcz107_0 : wc.cell? ⟨gb142, 0, none⟩ = some (.int .i64 t137) := (blk_cell BK142.out 0).trans rfl
                              have hcz107_1 : wc.cell? ⟨gb142, 1, none⟩ = some (.string t138) := (blk_cell BK142.out 1).trans rfl
                              have hcz107_2 : wc.cell? ⟨gb142, 2, none⟩ = some (.bool false) := (blk_cell BK142.out 2).trans rfl
                              have hcz107_3 : wc.cell? ⟨gb142, 3, none⟩ = some (.bool true) := (blk_cell BK142.out 3).trans rfl
                              have hfz107_0 := blk_frozen BK142.out 0
                              have hfz107_1 := blk_frozen BK142.out 1
                              have hfz107_2 := blk_frozen BK142.out 2
                              have hfz107_3 := blk_frozen BK142.out 3
                              go_wp2
                              go_ret
                              exact ⟨by first | rfl | (simp [errW_none, errW_some] <;> rfl) | (simp [*, errW_none, errW_some] <;> rfl), by repeat (first | (with_reducible first | exact HB.out | apply below_alloc | apply pw_below_drewN | apply below_drew1 | refine below_set ?_ GE135.out | refine below_set ?_ GE142.out) | exact HB.out)⟩
                            · replace c104 := Bool.eq_false_iff.mpr c104
                              subst c104
                              have H1 : (some (a0_6 == 0)) = some r := by rw [if_neg (show ¬ (false = true) by decide)] at H; exact H
                              clear H
                              have H := H1
                              clear H1
                              obtain rfl := Option.some.inj H
                              have hnb108 := NB135_142.out
                              have hnc108 := NB142_135.out
                              have hcz109_0 : wc.cell? ⟨gb135, 0, none⟩ = some (.string a0_0) := (blk_cell BK135.out 0).trans rfl
                              have hcz109_1 : wc.cell? ⟨gb135, 1, none⟩ = some (.int .i64 a0_1) := (blk_cell BK135.out 1).trans rfl
                              have hcz109_2 : wc.cell? ⟨gb135, 2, none⟩ = some (.int .i64 a0_2) := (blk_cell BK135.out 2).trans rfl
                              have hcz109_3 : wc.cell? ⟨gb135, 3, none⟩ = some (.int .i64 a0_3) := (blk_cell BK135.out 3).trans rfl
                              have hcz109_4 : wc.cell? ⟨gb135, 4, none⟩ = some (.int .i64 a0_4) := (blk_cell BK135.out 4).trans rfl
                              have hcz109_5 : wc.cell? ⟨gb135, 5, none⟩ = some (.int .i64 a0_5) := (blk_cell BK135.out 5).trans rfl
                              have hcz109_6 : wc.cell? ⟨gb135, 6, none⟩ = some (.int .i64 a0_6) := (blk_cell BK135.out 6).trans rfl
                              have hcz109_7 : wc.cell? ⟨gb135, 7, none⟩ = some (.int .i64 a0_7) := (blk_cell BK135.out 7).trans rfl
                              have hcz109_8 : wc.cell? ⟨gb135, 8, none⟩ = some (.int .u8 a0_8) := (blk_cell BK135.out 8).trans rfl
                              have hfz109_0 := blk_frozen BK135.out 0
                              have hfz109_1 := blk_frozen BK135.out 1
                              have hfz109_2 := blk_frozen BK135.out 2
                              have hfz109_3 := blk_frozen BK135.out 3
                              have hfz109_4 := blk_frozen BK135.out 4
                              have hfz109_5 := blk_frozen BK135.out 5
                              have hfz109_6 := blk_frozen BK135.out 6
                              have hfz109_7 := blk_frozen BK135.out 7
                              have hfz109_8 := blk_frozen BK135.out 8
                              have hcz110_0 : wc.cell? ⟨gb142, 0, none⟩ = some (.int .i64 t137) := (blk_cell BK142.out 0).trans rfl
                              have hcz110_1 : wc.cell? ⟨gb142, 1, none⟩ = some (.string t138) := (blk_cell BK142.out 1).trans rfl
                              have hcz110_2 : wc.cell? ⟨gb142, 2, none⟩ = some (.bool false) := (blk_cell BK142.out 2).trans rfl
                              have hcz110_3 : wc.cell? ⟨gb142, 3, none⟩ = some (.bool false) := (blk_cell BK142.out 3).trans rfl
                              have hfz110_0 := blk_frozen BK142.out 0
                              have hfz110_1 := blk_frozen BK142.out 1
                              have hfz110_2 := blk_frozen BK142.out 2
                              have hfz110_3 := blk_frozen BK142.out 3
                              go_wp2
                              go_ret
                              exact ⟨by first | rfl | (simp [errW_none, errW_some] <;> rfl) | (simp [*, errW_none, errW_some] <;> rfl), by repeat (first | (with_reducible first | exact HB.out | apply below_alloc | apply pw_below_drewN | apply below_drew1 | refine below_set ?_ GE135.out | refine below_set ?_ GE142.out) | exact HB.out)⟩
                          · rw [if_neg c103] at H
                            have c103b0 : (a0_3 == (-1)) = false := beq_eq_false_iff_ne.mpr c103
                            have c103b1 : (a0_3 != (-1)) = true := bne_iff_ne.mpr c103
                            obtain rfl := Option.some.inj H
                            have hnb111 := NB135_142.out
                            have hnc111 := NB142_135.out
                            have hcz112_0 : wc.cell? ⟨gb135, 0, none⟩ = some (.string a0_0) := (blk_cell BK135.out 0).trans rfl
                            have hcz112_1 : wc.cell? ⟨gb135, 1, none⟩ = some (.int .i64 a0_1) := (blk_cell BK135.out 1).trans rfl
                            have hcz112_2 : wc.cell? ⟨gb135, 2, none⟩ = some (.int .i64 a0_2) := (blk_cell BK135.out 2).trans rfl
                            have hcz112_3 : wc.cell? ⟨gb135, 3, none⟩ = some (.int .i64 a0_3) := (blk_cell BK135.out 3).trans rfl
                            have hcz112_4 : wc.cell? ⟨gb135, 4, none⟩ = some (.int .i64 a0_4) := (blk_cell BK135.out 4).trans rfl
                            have hcz112_5 : wc.cell? ⟨gb135, 5, none⟩ = some (.int .i64 a0_5) := (blk_cell BK135.out 5).trans rfl
                            have hcz112_6 : wc.cell? ⟨gb135, 6, none⟩ = some (.int .i64 a0_6) := (blk_cell BK135.out 6).trans rfl
                            have hcz112_7 : wc.cell? ⟨gb135, 7, none⟩ = some (.int .i64 a0_7) := (blk_cell BK135.out 7).trans rfl
                            have hcz112_8 : wc.cell? ⟨gb135, 8, none⟩ = some (.int .u8 a0_8) := (blk_cell BK135.out 8).trans rfl
                            have hfz112_0 := blk_frozen BK135.out 0
                            have hfz112_1 := blk_frozen BK135.out 1
                            have hfz112_2 := blk_frozen BK135.out 2
                            have hfz112_3 := blk_frozen BK135.out 3
                            have hfz112_4 := blk_frozen BK135.out 4
                            have hfz112_5 := blk_frozen BK135.out 5
                            have hfz112_6 := blk_frozen BK135.out 6
                            have hfz112_7 := blk_frozen BK135.out 7
                            have hfz112_8 := blk_frozen BK135.out 8
                            have hcz113_0 : wc.cell? ⟨gb142, 0, none⟩ = some (.int .i64 t137) := (blk_cell BK142.out 0).trans rfl
                            have hcz113_1 : wc.cell? ⟨gb142, 1, none⟩ = some (.string t138) := (blk_cell BK142.out 1).trans rfl
                            have hcz113_2 : wc.cell? ⟨gb142, 2, none⟩ = some (.bool false) := (blk_cell BK142.out 2).trans rfl
                            have hcz113_3 : wc.cell? ⟨gb142, 3, none⟩ = some (.bool t140) := (blk_cell BK142.out 3).trans rfl
                            have hfz113_0 := blk_frozen BK142.out 0
                            have hfz113_1 := blk_frozen BK142.out 1
                            have hfz113_2 := blk_frozen BK142.out 2
                            have hfz113_3 := blk_frozen BK142.out 3
                            go_wp2
                            go_ret
                            exact ⟨by first | rfl | (simp [errW_none, errW_some] <;> rfl) | (simp [*, errW_none, errW_some] <;> rfl), by repeat (first | (with_reducible first | exact HB.out | apply below_alloc | apply pw_below_drewN | apply below_drew1 | refine below_set ?_ GE135.out | refine below_set ?_ GE142.out) | exact HB.out)⟩
                      · rw [if_neg c94] at H
                        have c94b0 : (a0_5 == (-1)) = false := beq_eq_false_iff_ne.mpr c94
                        have c94b1 : (a0_5 != (-1)) = true := bne_iff_ne.mpr c94
                        obtain rfl := Option.some.inj H
                        have hnb114 := NB135_142.out
                        have hnc114 := NB142_135.out
                        have hcz115_0 : wc.cell? ⟨gb135, 0, none⟩ = some (.string a0_0) := (blk_cell BK135.out 0).trans rfl
                        have hcz115_1 : wc.cell? ⟨gb135, 1, none⟩ = some (.int .i64 a0_1) := (blk_cell BK135.out 1).trans rfl
                        have hcz115_2 : wc.cell? ⟨gb135, 2, none⟩ = some (.int .i64 a0_2) := (blk_cell BK135.out 2).trans rfl
                        have hcz115_3 : wc.cell? ⟨gb135, 3, none⟩ = some (.int .i64 a0_3) := (blk_cell BK135.out 3).trans rfl
                        have hcz115_4 : wc.cell? ⟨gb135, 4, none⟩ = some (.int .i64 a0_4) := (blk_cell BK135.out 4).trans rfl
                        have hcz115_5 : wc.cell? ⟨gb135, 5, none⟩ = some (.int .i64 a0_5) := (blk_cell BK135.out 5).trans rfl
                        have hcz115_6 : wc.cell? ⟨gb135, 6, none⟩ = some (.int .i64 a0_6) := (blk_cell BK135.out 6).trans rfl
                        have hcz115_7 : wc.cell? ⟨gb135, 7, none⟩ = some (.int .i64 a0_7) := (blk_cell BK135.out 7).trans rfl
                        have hcz115_8 : wc.cell? ⟨gb135, 8, none⟩ = some (.int .u8 a0_8) := (blk_cell BK135.out 8).trans rfl
                        have hfz115_0 := blk_frozen BK135.out 0
                        have hfz115_1 := blk_frozen BK135.out 1
                        have hfz115_2 := blk_frozen BK135.out 2
                        have hfz115_3 := blk_frozen BK135.out 3
                        have hfz115_4 := blk_frozen BK135.out 4
                        have hfz115_5 := blk_frozen BK135.out 5
                        have hfz115_6 := blk_frozen BK135.out 6
                        have hfz115_7 := blk_frozen BK135.out 7
                        have hfz115_8 := blk_frozen BK135.out 8
                        go_wp2
                        go_ret
                        exact ⟨by first | rfl | (simp [errW_none, errW_some] <;> rfl) | (simp [*, errW_none, errW_some] <;> rfl), by repeat (first | (with_reducible first | exact HB.out | apply below_alloc | apply pw_below_drewN | apply below_drew1 | refine below_set ?_ GE135.out | refine below_set ?_ GE142.out) | exact HB.out)⟩
                  · rw [if_neg c65] at H
                    have c65b0 : (a0_4 == 0) = false := beq_eq_false_iff_ne.mpr c65
                    have c65b1 : (a0_4 != 0) = true := bne_iff_ne.mpr c65
                    by_cases c116 : a0_3 = (-1)
                    · rw [if_pos c116] at H
                      have c116b0 : (a0_3 == (-1)) = true := beq_iff_eq.mpr c116
                      have c116b1 : (a0_3 != (-1)) = false := bne_eq_false_iff_eq.mpr c116
                      clear c116
                      by_cases c117 : a0_6 = 0
                      · rw [if_pos c117] at H
                        have c117b0 : (a0_6 == 0) = true := beq_iff_eq.mpr c117
                        have c117b1 : (a0_6 != 0) = false := bne_eq_false_iff_eq.mpr c117
                        clear c117
                        by_cases c118 : t139 = true
                        · subst c118
                          have H1 : (if t140 = true then (some true) else (if a0_5 = (-1) then (some (a0_6 == 0)) else (some false))) = some r := by rw [if_pos rfl] at H; exact H
                          clear H
                          have H := H1
                          clear H1
                          by_cases c119 : t140 = true
                          · subst c119
                            have H1 : (some true) = some r := by rw [if_pos rfl] at H; exact H
                            clear H
                            have H := H1
                            clear H1
                            obtain rfl := Option.some.inj H
                            have hnb120 := NB135_142.out
                            have hnc120 := NB142_135.out
                            have hcz121_0 : wc.cell? ⟨gb135, 0, none⟩ = some (.string a0_0) := (blk_cell BK135.out 0).trans rfl
                            have hcz121_1 : wc.cell? ⟨gb135, 1, none⟩ = some (.int .i64 a0_1) := (blk_cell BK135.out 1).trans rfl
                            have hcz121_2 : wc.cell? ⟨gb135, 2, none⟩ = some (.int .i64 a0_2) := (blk_cell BK135.out 2).trans rfl
                            have hcz121_3 : wc.cell? ⟨gb135, 3, none⟩ = some (.int .i64 a0_3) := (blk_cell BK135.out 3).trans rfl
                            have hcz121_4 : wc.cell? ⟨gb135, 4, none⟩ = some (.int .i64 a0_4) := (blk_cell BK135.out 4).trans rfl
                            have hcz121_5 : wc.cell? ⟨gb135, 5, none⟩ = some (.int .i64 a0_5) := (blk_cell BK135.out 5).trans rfl
                            have hcz121_6 : wc.cell? ⟨gb135, 6, none⟩ = some (.int .i64 a0_6) := (blk_cell BK135.out 6).trans rfl
                            have hcz121_7 : wc.cell? ⟨gb135, 7, none⟩ = some (.int .i64 a0_7) := (blk_cell BK135.out 7).trans rfl
                            have hcz121_8 : wc.cell? ⟨gb135, 8, none⟩ = some (.int .u8 a0_8) := (blk_cell BK135.out 8).trans rfl
                            have hfz121_0 := blk_frozen BK135.out 0
                            have hfz121_1 := blk_frozen BK135.out 1
                            have hfz121_2 := blk_frozen BK135.out 2
                            have hfz121_3 := blk_frozen BK135.out 3
                            have hfz121_4 := blk_frozen BK135.out 4
                            have hfz121_5 := blk_frozen BK135.out 5
                            have hfz121_6 := blk_frozen BK135.out 6
                            have hfz121_7 := blk_frozen BK135.out 7
                            have hfz121_8 := blk_frozen BK135.out 8
                            have hcz122_0 : wc.cell? ⟨gb142, 0, none⟩ = some (.int .i64 t137) := (blk_cell BK142.out 0).trans rfl
                            have hcz122_1 : wc.cell? ⟨gb142, 1, none⟩ = some (.string t138) := (blk_cell BK142.out 1).trans rfl
                            have hcz122_2 : wc.cell? ⟨gb142, 2, none⟩ = some (.bool true) := (blk_cell BK142.out 2).trans rfl
                            have hcz122_3 : wc.cell? ⟨gb142, 3, none⟩ = some (.bool true) := (blk_cell BK142.out 3).trans rfl
                            have hfz122_0 := blk_frozen BK142.out 0
                            have hfz122_1 := blk_frozen BK142.out 1
                            have hfz122_2 := blk_frozen BK142.out 2
                            have hfz122_3 := blk_frozen BK142.out 3
                            go_wp2
                            go_ret
                            exact ⟨by first | rfl | (simp [errW_none, errW_some] <;> rfl) | (simp [*, errW_none, errW_some] <;> rfl), by repeat (first | (with_reducible first | exact HB.out | apply below_alloc | apply pw_below_drewN | apply below_drew1 | refine below_set ?_ GE135.out | refine below_set ?_ GE142.out) | exact HB.out)⟩
                          · replace c119 := Bool.eq_false_iff.mpr c119
                            subst c119
                            have H1 : (if a0_5 = (-1) then (some (a0_6 == 0)) else (some false)) = some r := by rw [if_neg (show ¬ (false = true) by decide)] at H; exact H
                            clear H
                            have H := H1
                            clear H1
                            by_cases c123 : a0_5 = (-1)
                            · rw [if_pos c123] at H
                              have c123b0 : (a0_5 == (-1)) = true := beq_iff_eq.mpr c123
                              have c123b1 : (a0_5 != (-1)) = false := bne_eq_false_iff_eq.mpr c123
                              clear c123
                              obtain rfl := Option.some.inj H
                              have hnb124 := NB135_142.out
                              have hnc124 := NB142_135.out
                              have hcz125_0 : wc.cell? ⟨gb135, 0, none⟩ = some (.string a0_0) := (blk_cell BK135.out 0).trans rfl
                              have hcz125_1 : wc.cell? ⟨gb135, 1, none⟩ = some (.int .i64 a0_1) := (blk_cell BK135.out 1).trans rfl
                              have hcz125_2 : wc.cell? ⟨gb135, 2, none⟩ = some (.int .i64 a0_2) := (blk_cell BK135.out 2).trans rfl
                              have hcz125_3 : wc.cell? ⟨gb135, 3, none⟩ = some (.int .i64 a0_3) := (blk_cell BK135.out 3).trans rfl
                              have hcz125_4 : wc.cell? ⟨gb135, 4, none⟩ = some (.int .i64 a0_4) := (blk_cell BK135.out 4).trans rfl
                              have hcz125_5 : wc.cell? ⟨gb135, 5, none⟩ = some (.int .i64 a0_5) := (blk_cell BK135.out 5).trans rfl
                              have hcz125_6 : wc.cell? ⟨gb135, 6, none⟩ = some (.int .i64 a0_6) := (blk_cell BK135.out 6).trans rfl
                              have hcz125_7 : wc.cell? ⟨gb135, 7, none⟩ = some (.int .i64 a0_7) := (blk_cell BK135.out 7).trans rfl
                              have hcz125_8 : wc.cell? ⟨gb135, 8, none⟩ = some (.int .u8 a0_8) := (blk_cell BK135.out 8).trans rfl
                              have hfz125_0 := blk_frozen BK135.out 0
                              have hfz125_1 := blk_frozen BK135.out 1
                              have hfz125_2 := blk_frozen BK135.out 2
                              have hfz125_3 := blk_frozen BK135.out 3
                              have hfz125_4 := blk_frozen BK135.out 4
                              have hfz125_5 := blk_frozen BK135.out 5
                              have hfz125_6 := blk_frozen BK135.out 6
                              have hfz125_7 := blk_frozen BK135.out 7
                              have hfz125_8 := blk_frozen BK135.out 8
                              have hcz126_0 : wc.cell? ⟨gb142, 0, none⟩ = some (.int .i64 t137) := (blk_cell BK142.out 0).trans rfl
                              have hcz126_1 : wc.cell? ⟨gb142, 1, none⟩ = some (.string t138) := (blk_cell BK142.out 1).trans rfl
                              have hcz126_2 : wc.cell? ⟨gb142, 2, none⟩ = some (.bool true) := (blk_cell BK142.out 2).trans rfl
                              have hcz126_3 : wc.cell? ⟨gb142, 3, none⟩ = some (.bool false) := (blk_cell BK142.out 3).trans rfl
                              have hfz126_0 := blk_frozen BK142.out 0
                              have hfz126_1 := blk_frozen BK142.out 1
                              have hfz126_2 := blk_frozen BK142.out 2
                              have hfz126_3 := blk_frozen BK142.out 3
                              go_wp2
                              go_ret
                              exact ⟨by first | rfl | (simp [errW_none, errW_some] <;> rfl) | (simp [*, errW_none, errW_some] <;> rfl), by repeat (first | (with_reducible first | exact HB.out | apply below_alloc | apply pw_below_drewN | apply below_drew1 | refine below_set ?_ GE135.out | refine below_set ?_ GE142.out) | exact HB.out)⟩
                            · rw [if_neg c123] at H
                              have c123b0 : (a0_5 == (-1)) = false := beq_eq_false_iff_ne.mpr c123
                              have c123b1 : (a0_5 != (-1)) = true := bne_iff_ne.mpr c123
                              obtain rfl := Option.some.inj H
                              have hnb127 := NB135_142.out
                              have hnc127 := NB142_135.out
                              have hcz128_0 : wc.cell? ⟨gb135, 0, none⟩ = some (.string a0_0) := (blk_cell BK135.out 0).trans rfl
                              have hcz128_1 : wc.cell? ⟨gb135, 1, none⟩ = some (.int .i64 a0_1) := (blk_cell BK135.out 1).trans rfl
                              have hcz128_2 : wc.cell? ⟨gb135, 2, none⟩ = some (.int .i64 a0_2) := (blk_cell BK135.out 2).trans rfl
                              have hcz128_3 : wc.cell? ⟨gb135, 3, none⟩ = some (.int .i64 a0_3) := (blk_cell BK135.out 3).trans rfl
                              have hcz128_4 : wc.cell? ⟨gb135, 4, none⟩ = some (.int .i64 a0_4) := (blk_cell BK135.out 4).trans rfl
                              have hcz128_5 : wc.cell? ⟨gb135, 5, none⟩ = some (.int .i64 a0_5) := (blk_cell BK135.out 5).trans rfl
                              have hcz128_6 : wc.cell? ⟨gb135, 6, none⟩ = some (.int .i64 a0_6) := (blk_cell BK135.out 6).trans rfl
                              have hcz128_7 : wc.cell? ⟨gb135, 7, none⟩ = some (.int .i64 a0_7) := (blk_cell BK135.out 7).trans rfl
                              have hcz128_8 : wc.cell? ⟨gb135, 8, none⟩ = some (.int .u8 a0_8) := (blk_cell BK135.out 8).trans rfl
                              have hfz128_0 := blk_frozen BK135.out 0
                              have hfz128_1 := blk_frozen BK135.out 1
                              have hfz128_2 := blk_frozen BK135.out 2
                              have hfz128_3 := blk_frozen BK135.out 3
                              have hfz128_4 := blk_frozen BK135.out 4
                              have hfz128_5 := blk_frozen BK135.out 5
                              have hfz128_6 := blk_frozen BK135.out 6
                              have hfz128_7 := blk_frozen BK135.out 7
                              have hfz128_8 := blk_frozen BK135.out 8
                              have hcz129_0 : wc.cell? ⟨gb142, 0, none⟩ = some (.int .i64 t137) := (blk_cell BK142.out 0).trans rfl
                              have hcz129_1 : wc.cell? ⟨gb142, 1, none⟩ = some (.string t138) := (blk_cell BK142.out 1).trans rfl
                              have hcz129_2 : wc.cell? ⟨gb142, 2, none⟩ = some (.bool true) := (blk_cell BK142.out 2).trans rfl
                              have hcz129_3 : wc.cell? ⟨gb142, 3, none⟩ = some (.bool false) := (blk_cell BK142.out 3).trans rfl
                              have hfz129_0 := blk_frozen BK142.out 0
                              have hfz129_1 := blk_frozen BK142.out 1
                              have hfz129_2 := blk_frozen BK142.out 2
                              have hfz129_3 := blk_frozen BK142.out 3
                              go_wp2
                              go_ret
                              exact ⟨by first | rfl | (simp [errW_none, errW_some] <;> rfl) | (simp [*, errW_none, errW_some] <;> rfl), by repeat (first | (with_reducible first | exact HB.out | apply below_alloc | apply pw_below_drewN | apply below_drew1 | refine below_set ?_ GE135.out | refine below_set ?_ GE142.out) | exact HB.out)⟩
                        · replace c118 := Bool.eq_false_iff.mpr c118
                          subst c118
                          have H1 : (some false) = some r := by rw [if_neg (show ¬ (false = true) by decide)] at H; exact H
                          clear H
                          have H := H1
                          clear H1
                          obtain rfl := Option.some.inj H
                          have hnb130 := NB135_142.out
                          have hnc130 := NB142_135.out
                          have hcz131_0 : wc.cell? ⟨gb135, 0, none⟩ = some (.string a0_0) := (blk_cell BK135.out 0).trans rfl
                          have hcz131_1 : wc.cell? ⟨gb135, 1, none⟩ = some (.int .i64 a0_1) := (blk_cell BK135.out 1).trans rfl
                          have hcz131_2 : wc.cell? ⟨gb135, 2, none⟩ = some (.int .i64 a0_2) := (blk_cell BK135.out 2).trans rfl
                          have hcz131_3 : wc.cell? ⟨gb135, 3, none⟩ = some (.int .i64 a0_3) := (blk_cell BK135.out 3).trans rfl
                          have hcz131_4 : wc.cell? ⟨gb135, 4, none⟩ = some (.int .i64 a0_4) := (blk_cell BK135.out 4).trans rfl
                          have hcz131_5 : wc.cell? ⟨gb135, 5, none⟩ = some (.int .i64 a0_5) := (blk_cell BK135.out 5).trans rfl
                          have hcz131_6 : wc.cell? ⟨gb135, 6, none⟩ = some (.int .i64 a0_6) := (blk_cell BK135.out 6).trans rfl
                          have hcz131_7 : wc.cell? ⟨gb135, 7, none⟩ = some (.int .i64 a0_7) := (blk_cell BK135.out 7).trans rfl
                          have hcz131_8 : wc.cell? ⟨gb135, 8, none⟩ = some (.int .u8 a0_8) := (blk_cell BK135.out 8).trans rfl
                          have hfz131_0 := blk_frozen BK135.out 0
                          have hfz131_1 := blk_frozen BK135.out 1
                          have hfz131_2 := blk_frozen BK135.out 2
                          have hfz131_3 := blk_frozen BK135.out 3
                          have hfz131_4 := blk_frozen BK135.out 4
                          have hfz131_5 := blk_frozen BK135.out 5
                          have hfz131_6 := blk_frozen BK135.out 6
                          have hfz131_7 := blk_frozen BK135.out 7
                          have hfz131_8 := blk_frozen BK135.out 8
                          have hcz132_0 : wc.cell? ⟨gb142, 0, none⟩ = some (.int .i64 t137) := (blk_cell BK142.out 0).trans rfl
                          have hcz132_1 : wc.cell? ⟨gb142, 1, none⟩ = some (.string t138) := (blk_cell BK142.out 1).trans rfl
                          have hcz132_2 : wc.cell? ⟨gb142, 2, none⟩ = some (.bool false) := (blk_cell BK142.out 2).trans rfl
                          have hcz132_3 : wc.cell? ⟨gb142, 3, none⟩ = some (.bool t140) := (blk_cell BK142.out 3).trans rfl
                          have hfz132_0 := blk_frozen BK142.out 0
                          have hfz132_1 := blk_frozen BK142.out 1
                          have hfz132_2 := blk_frozen BK142.out 2
                          have hfz132_3 := blk_frozen BK142.out 3
                          go_wp2
                          go_ret
                          exact ⟨by first | rfl | (simp [errW_none, errW_some] <;> rfl) | (simp [*, errW_none, errW_some] <;> rfl), by repeat (first | (with_reducible first | exact HB.out | apply below_alloc | apply pw_below_drewN | apply below_drew1 | refine below_set ?_ GE135.out | refine below_set ?_ GE142.out) | exact HB.out)⟩
                      · rw [if_neg c117] at H
                        have c117b0 : (a0_6 == 0) = false := beq_eq_false_iff_ne.mpr c117
                        have c117b1 : (a0_6 != 0) = true := bne_iff_ne.mpr c117
                        by_cases c133 : a0_5 = (-1)
                        · rw [if_pos c133] at H
                          have c133b0 : (a0_5 == (-1)) = true := beq_iff_eq.mpr c133
                          have c133b1 : (a0_5 != (-1)) = false := bne_eq_false_iff_eq.mpr c133
                          clear c133
                          by_cases c134 : t139 = true
                          · subst c134
                            have H1 : (if t140 = true then (some true) else (some (a0_6 == 0))) = some r := by rw [if_pos rfl] at H; exact H
                            clear H
                            have H := H1
                            clear H1
                            by_cases c135 : t140 = true
                            · subst c135
                              have H1 : (some true) = some r := by rw [if_pos rfl] at H; exact H
                              clear H
                              have H := H1
                              clear H1
                              obtain rfl := Option.some.inj H
                              have hnb136 := NB135_142.out
                              have hnc136 := NB142_135.out
                              have hcz137_0 : wc.cell? ⟨gb135, 0, none⟩ = some (.string a0_0) := (blk_cell BK135.out 0).trans rfl
                              have hcz137_1 : wc.cell? ⟨gb135, 1, none⟩ = some (.int .i64 a0_1) := (blk_cell BK135.out 1).trans rfl
                              have hcz137_2 : wc.cell? ⟨gb135, 2, none⟩ = some (.int .i64 a0_2) := (blk_cell BK135.out 2).trans rfl
                              have hcz137_3 : wc.cell? ⟨gb135, 3, none⟩ = some (.int .i64 a0_3) := (blk_cell BK135.out 3).trans rfl
                              have hcz137_4 : wc.cell? ⟨gb135, 4, none⟩ = some (.int .i64 a0_4) := (blk_cell BK135.out 4).trans rfl
                              have hcz137_5 : wc.cell? ⟨gb135, 5, none⟩ = some (.int .i64 a0_5) := (blk_cell BK135.out 5).trans rfl
                              have hcz137_6 : wc.cell? ⟨gb135, 6, none⟩ = some (.int .i64 a0_6) := (blk_cell BK135.out 6).trans rfl
                              have hcz137_7 : wc.cell? ⟨gb135, 7, none⟩ = some (.int .i64 a0_7) := (blk_cell BK135.out 7).trans rfl
                              have hcz137_8 : wc.cell? ⟨gb135, 8, none⟩ = some (.int .u8 a0_8) := (blk_cell BK135.out 8).trans rfl
                              have hfz137_0 := blk_frozen BK135.out 0
                              have hfz137_1 := blk_frozen BK135.out 1
                              have hfz137_2 := blk_frozen BK135.out 2
                              have hfz137_3 := blk_frozen BK135.out 3
                              have hfz137_4 := blk_frozen BK135.out 4
                              have hfz137_5 := blk_frozen BK135.out 5
                              have hfz137_6 := blk_frozen BK135.out 6
                              have hfz137_7 := blk_frozen BK135.out 7
                              have hfz137_8 := blk_frozen BK135.out 8
                              have hcz138_0 : wc.cell? ⟨gb142, 0, none⟩ = some (.int .i64 t137) := (blk_cell BK142.out 0).trans rfl
                              have hcz138_1 : wc.cell? ⟨gb142, 1, none⟩ = some (.string t138) := (blk_cell BK142.out 1).trans rfl
                              have hcz138_2 : wc.cell? ⟨gb142, 2, none⟩ = some (.bool true) := (blk_cell BK142.out 2).trans rfl
                              have hcz138_3 : wc.cell? ⟨gb142, 3, none⟩ = some (.bool true) := (blk_cell BK142.out 3).trans rfl
                              have hfz138_0 := blk_frozen BK142.out 0
                              have hfz138_1 := blk_frozen BK142.out 1
                              have hfz138_2 := blk_frozen BK142.out 2
                              have hfz138_3 := blk_frozen BK142.out 3
                              go_wp2
                              go_ret
                              exact ⟨by first | rfl | (simp [errW_none, errW_some] <;> rfl) | (simp [*, errW_none, errW_some] <;> rfl), by repeat (first | (with_reducible first | exact HB.out | apply below_alloc | apply pw_below_drewN | apply below_drew1 | refine below_set ?_ GE135.out | refine below_set ?_ GE142.out) | exact HB.out)⟩
                            · replace c135 := Bool.eq_false_iff.mpr c135
                              subst c135
                              have H1 : (some (a0_6 == 0)) = some r := by rw [if_neg (show ¬ (false = true) by decide)] at H; exact H
                              clear H
                              have H := H1
                              clear H1
                              obtain rfl := Option.some.inj H
                              have hnb139 := NB135_142.out
                              have hnc139 := NB142_135.out
                              have hcz140_0 : wc.cell? ⟨gb135, 0, none⟩ = some (.string a0_0) := (blk_cell BK135.out 0).trans rfl
                              have hcz140_1 : wc.cell? ⟨gb135, 1, none⟩ = some (.int .i64 a0_1) := (blk_cell BK135.out 1).trans rfl
                              have hcz140_2 : wc.cell? ⟨gb135, 2, none⟩ = some (.int .i64 a0_2) := (blk_cell BK135.out 2).trans rfl
                              have hcz140_3 : wc.cell? ⟨gb135, 3, none⟩ = some (.int .i64 a0_3) := (blk_cell BK135.out 3).trans rfl
                              have hcz140_4 : wc.cell? ⟨gb135, 4, none⟩ = some (.int .i64 a0_4) := (blk_cell BK135.out 4).trans rfl
                              have hcz140_5 : wc.cell? ⟨gb135, 5, none⟩ = some (.int .i64 a0_5) := (blk_cell BK135.out 5).trans rfl
                              have hcz140_6 : wc.cell? ⟨gb135, 6, none⟩ = some (.int .i64 a0_6) := (blk_cell BK135.out 6).trans rfl
                              have hcz140_7 : wc.cell? ⟨gb135, 7, none⟩ = some (.int .i64 a0_7) := (blk_cell BK135.out 7).trans rfl
                              have hcz140_8 : wc.cell? ⟨gb135, 8, none⟩ = some (.int .u8 a0_8) := (blk_cell BK135.out 8).trans rfl
                              have hfz140_0 := blk_frozen BK135.out 0
                              have hfz140_1 := blk_frozen BK135.out 1
                              have hfz140_2 := blk_frozen BK135.out 2
                              have hfz140_3 := blk_frozen BK135.out 3
                              have hfz140_4 := blk_frozen BK135.out 4
                              have hfz140_5 := blk_frozen BK135.out 5
                              have hfz140_6 := blk_frozen BK135.out 6
                              have hfz140_7 := blk_frozen BK135.out 7
                              have hfz140_8 := blk_frozen BK135.out 8
                              have hcz141_0 : wc.cell? ⟨gb142, 0, none⟩ = some (.int .i64 t137) := (blk_cell BK142.out 0).trans rfl
                              have hcz141_1 : wc.cell? ⟨gb142, 1, none⟩ = some (.string t138) := (blk_cell BK142.out 1).trans rfl
                              have hcz141_2 : wc.cell? ⟨gb142, 2, none⟩ = some (.bool true) := (blk_cell BK142.out 2).trans rfl
                              have hcz141_3 : wc.cell? ⟨gb142, 3, none⟩ = some (.bool false) := (blk_cell BK142.out 3).trans rfl
                              have hfz141_0 := blk_frozen BK142.out 0
                              have hfz141_1 := blk_frozen BK142.out 1
                              have hfz141_2 := blk_frozen BK142.out 2
                              have hfz141_3 := blk_frozen BK142.out 3
                              go_wp2
                              go_ret
                              exact ⟨by first | rfl | (simp [errW_none, errW_some] <;> rfl) | (simp [*, errW_none, errW_some] <;> rfl), by repeat (first | (with_reducible first | exact HB.out | apply below_alloc | apply pw_below_drewN | apply below_drew1 | refine below_set ?_ GE135.out | refine below_set ?_ GE142.out) | exact HB.out)⟩
                          · replace c134 := Bool.eq_false_iff.mpr c134
                            subst c134
                            have H1 : (some false) = some r := by rw [if_neg (show ¬ (false = true) by decide)] at H; exact H
                            clear H
                            have H := H1
                            clear H1
                            obtain rfl := Option.some.inj H
                            have hnb142 := NB135_142.out
                            have hnc142 := NB142_135.out
                            have hcz143_0 : wc.cell? ⟨gb135, 0, none⟩ = some (.string a0_0) := (blk_cell BK135.out 0).trans rfl
                            have hcz143_1 : wc.cell? ⟨gb135, 1, none⟩ = some (.int .i64 a0_1) := (blk_cell BK135.out 1).trans rfl
                            have hcz143_2 : wc.cell? ⟨gb135, 2, none⟩ = some (.int .i64 a0_2) := (blk_cell BK135.out 2).trans rfl
                            have hcz143_3 : wc.cell? ⟨gb135, 3, none⟩ = some (.int .i64 a0_3) := (blk_cell BK135.out 3).trans rfl
                            have hcz143_4 : wc.cell? ⟨gb135, 4, none⟩ = some (.int .i64 a0_4) := (blk_cell BK135.out 4).trans rfl
                            have hcz143_5 : wc.cell? ⟨gb135, 5, none⟩ = some (.int .i64 a0_5) := (blk_cell BK135.out 5).trans rfl
                            have hcz143_6 : wc.cell? ⟨gb135, 6, none⟩ = some (.int .i64 a0_6) := (blk_cell BK135.out 6).trans rfl
                            have hcz143_7 : wc.cell? ⟨gb135, 7, none⟩ = some (.int .i64 a0_7) := (blk_cell BK135.out 7).trans rfl
                            have hcz143_8 : wc.cell? ⟨gb135, 8, none⟩ = some (.int .u8 a0_8) := (blk_cell BK135.out 8).trans rfl
                            have hfz143_0 := blk_frozen BK135.out 0
                            have hfz143_1 := blk_frozen BK135.out 1
                            have hfz143_2 := blk_frozen BK135.out 2
                            have hfz143_3 := blk_frozen BK135.out 3
                            have hfz143_4 := blk_frozen BK135.out 4
                            have hfz143_5 := blk_frozen BK135.out 5
                            have hfz143_6 := blk_frozen BK135.out 6
                            have hfz143_7 := blk_frozen BK135.out 7
                            have hfz143_8 := blk_frozen BK135.out 8
                            have hcz144_0 : wc.cell? ⟨gb142, 0, none⟩ = some (.int .i64 t137) := (blk_cell BK142.out 0).trans rfl
                            have hcz144_1 : wc.cell? ⟨gb142, 1, none⟩ = some (.string t138) := (blk_cell BK142.out 1).trans rfl
                            have hcz144_2 : wc.cell? ⟨gb142, 2, none⟩ = some (.bool false) := (blk_cell BK142.out 2).trans rfl
                            have hcz144_3 : wc.cell? ⟨gb142, 3, none⟩ = some (.bool t140) := (blk_cell BK142.out 3).trans rfl
                            have hfz144_0 := blk_frozen BK142.out 0
                            have hfz144_1 := blk_frozen BK142.out 1
                            have hfz144_2 := blk_frozen BK142.out 2
                            have hfz144_3 := blk_frozen BK142.out 3
                            go_wp2
                            go_ret
                            exact ⟨by first | rfl | (simp [errW_none, errW_some] <;> rfl) | (simp [*, errW_none, errW_some] <;> rfl), by repeat (first | (with_reducible first | exact HB.out | apply below_alloc | apply pw_below_drewN | apply below_drew1 | refine below_set ?_ GE135.out | refine below_set ?_ GE142.out) | exact HB.out)⟩
                        · rw [if_neg c133] at H
                          have c133b0 : (a0_5 == (-1)) = false := beq_eq_false_iff_ne.mpr c133
                          have c133b1 : (a0_5 != (-1)) = true := bne_iff_ne.mpr c133
                          obtain rfl := Option.some.inj H
                          have hnb145 := NB135_142.out
                          have hnc145 := NB142_135.out
                          have hcz146_0 : wc.cell? ⟨gb135, 0, none⟩ = some (.string a0_0) := (blk_cell BK135.out 0).trans rfl
                          have hcz146_1 : wc.cell? ⟨gb135, 1, none⟩ = some (.int .i64 a0_1) := (blk_cell BK135.out 1).trans rfl
                          have hcz146_2 : wc.cell? ⟨gb135, 2, none⟩ = some (.int .i64 a0_2) := (blk_cell BK135.out 2).trans rfl
                          have hcz146_3 : wc.cell? ⟨gb135, 3, none⟩ = some (.int .i64 a0_3) := (blk_cell BK135.out 3).trans rfl
                          have hcz146_4 : wc.cell? ⟨gb135, 4, none⟩ = some (.int .i64 a0_4) := (blk_cell BK135.out 4).trans rfl
                          have hcz146_5 : wc.cell? ⟨gb135, 5, none⟩ = some (.int .i64 a0_5) := (blk_cell BK135.out 5).trans rfl
                          have hcz146_6 : wc.cell? ⟨gb135, 6, none⟩ = some (.int .i64 a0_6) := (blk_cell BK135.out 6).trans rfl
                          have hcz146_7 : wc.cell? ⟨gb135, 7, none⟩ = some (.int .i64 a0_7) := (blk_cell BK135.out 7).trans rfl
                          have hcz146_8 : wc.cell? ⟨gb135, 8, none⟩ = some (.int .u8 a0_8) := (blk_cell BK135.out 8).trans rfl
                          have hfz146_0 := blk_frozen BK135.out 0
                          have hfz146_1 := blk_frozen BK135.out 1
                          have hfz146_2 := blk_frozen BK135.out 2
                          have hfz146_3 := blk_frozen BK135.out 3
                          have hfz146_4 := blk_frozen BK135.out 4
                          have hfz146_5 := blk_frozen BK135.out 5
                          have hfz146_6 := blk_frozen BK135.out 6
                          have hfz146_7 := blk_frozen BK135.out 7
                          have hfz146_8 := blk_frozen BK135.out 8
                          go_wp2
                          go_ret
                          exact ⟨by first | rfl | (simp [errW_none, errW_some] <;> rfl) | (simp [*, errW_none, errW_some] <;> rfl), by repeat (first | (with_reducible first | exact HB.out | apply below_alloc | apply pw_below_drewN | apply below_drew1 | refine below_set ?_ GE135.out | refine below_set ?_ GE142.out) | exact HB.out)⟩
                    · rw [if_neg c116] at H
                      have c116b0 : (a0_3 == (-1)) = false := beq_eq_false_iff_ne.mpr c116
                      have c116b1 : (a0_3 != (-1)) = true := bne_iff_ne.mpr c116
                      obtain rfl := Option.some.inj H
                      have hnb147 := NB135_142.out
                      have hnc147 := NB142_135.out
                      have hcz148_0 : wc.cell? ⟨gb135, 0, none⟩ = some (.string a0_0) := (blk_cell BK135.out 0).trans rfl
                      have hcz148_1 : wc.cell? ⟨gb135, 1, none⟩ = some (.int .i64 a0_1) := (blk_cell BK135.out 1).trans rfl
                      have hcz148_2 : wc.cell? ⟨gb135, 2, none⟩ = some (.int .i64 a0_2) := (blk_cell BK135.out 2).trans rfl
                      have hcz148_3 : wc.cell? ⟨gb135, 3, none⟩ = some (.int .i64 a0_3) := (blk_cell BK135.out 3).trans rfl
                      have hcz148_4 : wc.cell? ⟨gb135, 4, none⟩ = some (.int .i64 a0_4) := (blk_cell BK135.out 4).trans rfl
                      have hcz148_5 : wc.cell? ⟨gb135, 5, none⟩ = some (.int .i64 a0_5) := (blk_cell BK135.out 5).trans rfl
                      have hcz148_6 : wc.cell? ⟨gb135, 6, none⟩ = some (.int .i64 a0_6) := (blk_cell BK135.out 6).trans rfl
                      have hcz148_7 : wc.cell? ⟨gb135, 7, none⟩ = some (.int .i64 a0_7) := (blk_cell BK135.out 7).trans rfl
                      have hcz148_8 : wc.cell? ⟨gb135, 8, none⟩ = some (.int .u8 a0_8) := (blk_cell BK135.out 8).trans rfl
                      have hfz148_0 := blk_frozen BK135.out 0
                      have hfz148_1 := blk_frozen BK135.out 1
                      have hfz148_2 := blk_frozen BK135.out 2
                      have hfz148_3 := blk_frozen BK135.out 3
                      have hfz148_4 := blk_frozen BK135.out 4
                      have hfz148_5 := blk_frozen BK135.out 5
                      have hfz148_6 := blk_frozen BK135.out 6
                      have hfz148_7 := blk_frozen BK135.out 7
                      have hfz148_8 := blk_frozen BK135.out 8
                      go_wp2
                      go_ret
                      exact ⟨by first | rfl | (simp [errW_none, errW_some] <;> rfl) | (simp [*, errW_none, errW_some] <;> rfl), by repeat (first | (with_reducible first | exact HB.out | apply below_alloc | apply pw_below_drewN | apply below_drew1 | refine below_set ?_ GE135.out | refine below_set ?_ GE142.out) | exact HB.out)⟩
end Go.Proofs.YtnhbgahfmcicnaaGreatDoor.PA
end
