/- A part of the proof of the claim's statement. -/
import Derived.Test.YtnhbgahfmcicnaaGreatDoorPcPAx4
import Derived.Test.YtnhbgahfmcicnaaGreatDoorPcPAx7
import Derived.Test.YtnhbgahfmcicnaaGreatDoorPcM2
import Derived.Test.YtnhbgahfmcicnaaGreatDoorPcG3p
import Derived.Deep.CutRange
import Derived.Deep.DeepCutAuto
import Derived.WalkSpells
section
namespace Go.Proofs.YtnhbgahfmcicnaaGreatDoor.PA
set_option linter.unusedVariables false
set_option linter.unusedSimpArgs false
open Go.RowKit Go.Shelf Go.Proofs.YtnhbgahfmcicnaaGreatDoorW.PrintWords Go.Proofs.YtnhbgahfmcicnaaGreatDoorW.PrintLast Go.Proofs.YtnhbgahfmcicnaaGreatDoorW.PrintMore
set_option maxRecDepth 100000 in
set_option maxHeartbeats 4000000 in
theorem clone_calls (A0 : Option Addr) (c0 : Nat) (l0 : List S35) (w : World) (hr0 : Kd.C k35 w A0 l0.length l0) (hl : l0.length ≤ 1000000) :
  Calls Tryz.prog 45 #[.slice A0 l0.length c0] w fun e w' => ∃ v : Value, e = .returned v ∧ Kd.R k35 35 w' w.heap.size (fun _ => True) v l0 ∧ Below w.heap.size w w' := by
 cases A0 with
 | none =>
  have h0 : l0 = [] := by
   cases l0 with
   | nil => rfl
   | cons x l =>
    obtain ⟨ad, h, _⟩ := hr0.2.2 (by simp)
    cases h
  subst h0
  have heq := fun (W : World) => Lib.run_eql_slice_nil (P := Tryz.prog) W 22 35 none 0 c0 0 0 Tryz.underlying22
  show Calls Tryz.prog 45 #[.slice none 0 c0] w _
  go_enter Tryz.func45, Tryz.ntmps45
  go_wp2
  go_ret
  exact ⟨_, rfl, Kd.R_nil _ _ _ _ _, Below.refl _ _⟩
 | some ad =>
  have heq := fun (W : World) => Lib.run_eql_slice_nil (P := Tryz.prog) W 22 35 (some ad) l0.length c0 0 0 Tryz.underlying22
  have HR := Lib.hid hr0
  have HL := Lib.hid (show (([] : List S35).length + l0.length) * 80 ≤ 140737488355328 from by simp only [List.length_nil]; omega)
  clear hr0 hl
  have hlit := OwnRow.lit (R := k35.M (w.alloc (.cells #[] 35)) w.heap.size (fun k => True ∧ some k ≠ Value.ownBlock (.slice (some ⟨w.heap.size, 0, none⟩) 0 0))) (e := 35) (size := 9) (ps := ([] : List S35)) (inner := []) w w.heap.size (Reps.none _ _) (Nat.le_refl _) (by simp)
  have hrow : Kd.R k35 35 (w.alloc (.cells #[] 35)) w.heap.size (fun _ => True) (.slice (some ⟨w.heap.size, 0, none⟩) 0 0) ([] : List S35) := ⟨fun _ _ => trivial, hlit⟩
  have HRW := Lib.hid hrow
  clear hlit hrow
  go_enter Tryz.func45, Tryz.ntmps45
  go_wp2_with (at_builtin; refine Kd.R_append_rows k35 (w0 := w) w.heap.size rfl (.tmp 5) (.tmp 6) 22 35 (.agg #[.string ⟨#[]⟩, .int .i64 0, .int .i64 0, .int .i64 0, .int .i64 0, .int .i64 0, .int .i64 0, .int .i64 0, .int .u8 0]) 80 rfl Tryz.underlying22 info35 rfl (by decide) (by decide) (.slice (some ⟨w.heap.size, 0, none⟩) 0 0) [] l0 (some ad) l0.length c0 (fun _ => True) (fun _ => False) rfl rfl HRW.out (Kd.C_alloc HR.out _) ?f1 (fun _ h => h.elim) (fun _ _ => trivial) (below_alloc (Below.refl _ _) _) ?f2 HL.out ?_; (case f1 => intro x cs h; rw [k35_open h]; exact k35_mkM _ _ _ x); (case f2 => simp); intro v1 w1 ho1 hb1 hg1 hat1)
  go_ret
  exact ⟨_, rfl, ho1, hb1⟩
def canonF1 (f : Int) : Int := if (Go.bits .and .i64 f 2 != 0) = true then Go.bits .andNot .i64 f 4 else f
def preciseC (x : S35) : Bool := decide (0 ≤ x.f5) && decide (0 ≤ Lib.indexByte (⟨#[100, 105, 117, 111, 120, 88, 98, 66]⟩ : ByteArray).data.toList x.f8.toNat.toUInt8)
def canonF2 (f : Int) (p : Bool) : Int := if (Go.bits .and .i64 f 1 != 0 || p) = true then Go.bits .andNot .i64 f 16 else f
def canonL (c n : Int) : Int := if (ruleC c).ln = bFloat ∧ n = 3 then 0 else n
def canon1 (x : S35) : S35 := { x with f2 := canonF2 (canonF1 x.f2) (preciseC x), f7 := canonL x.f8 x.f7 }
theorem row_elem {W : World} {base g n cap : Nat} {ok : Nat → Prop} {xs : List S35} (h : k35.R 35 W base ok (.slice (some ⟨g, 0, none⟩) n cap) xs) (i : Nat) (hi : i < xs.length) :
  (∀ j u, (cells35 xs[i])[j]? = some u → W.cell? ⟨g, i * 9 + j, none⟩ = some u) ∧ ∀ j, W.frozen? ⟨g, j, none⟩ = false := by
 obtain ⟨hn, hc, hC⟩ := Kd.R_reads' h
 constructor
 ·obtain ⟨ad, cs, had, hcl, hK, hcells⟩ := Kd.C_get hC z35 (i : Int) (Int.natCast_nonneg _) (by omega)
  injection had with had
  subst had
  rw [Int.toNat_natCast, List.getD_eq_getElem?_getD, List.getElem?_eq_getElem hi, Option.getD_some] at hK
  have hcs := k35_open hK
  subst hcs
  intro j u hj
  have := hcells j u (by rw [← hj, ← Array.getElem?_toList]; rfl)
  rw [add_plain] at this
  exact this
 ·obtain ⟨_, inner, ho, _⟩ := h
  obtain ⟨cells, hcells⟩ := own_typed ho g rfl
  exact fun j => blk_frozen hcells j
theorem row_set {W : World} {base g n cap : Nat} {ok : Nat → Prop} {xs : List S35} (h : k35.R 35 W base ok (.slice (some ⟨g, 0, none⟩) n cap) xs) (i : Nat) (hi : i < xs.length) (j : Nat) (hj : j < 9) (u : Value) (x' : S35)
  (hx : (cells35 xs[i]).toList.take j ++ [u] ++ (cells35 xs[i]).toList.drop (j + 1) = (cells35 x').toList) :
  k35.R 35 (W.setCell ⟨g, i * 9 + j, none⟩ u) base ok (.slice (some ⟨g, 0, none⟩) n cap) (xs.set i x') ∧ W.grownBy (W.setCell ⟨g, i * 9 + j, none⟩ u) (some g) := by
 have hn := (Kd.R_reads' h).1
 have := Kd.R_seg h (i : Int) (Int.natCast_nonneg _) (by omega) (c := (cells35 xs[i]).toList) (seg := [u]) (j := j) rfl (fun j u hj => by
  rw [Int.toNat_natCast]
  exact (row_elem h i hi).1 j u (by rw [← hj, Array.getElem?_toList])) (by show j + 1 ≤ 9; omega) (x' := x') (okp := fun _ => False) (by
   rw [show (j + [u].length) = j + 1 from rfl, hx]
   exact k35_mkM _ _ _ x') (fun _ h => h.elim)
 rw [Int.toNat_natCast] at this
 exact this
structure CanR (w : World) (A : Option Addr) (n cap : Nat) (xs : List S35) (W : World) : Prop where
 row : k35.R 35 W w.heap.size (fun _ => True) (.slice A n cap) xs
 b : Below w.heap.size w W
theorem CanR.below {w W W' : World} {A : Option Addr} {n cap : Nat} {xs : List S35} (h : CanR w A n cap xs W) (hb : Below W.heap.size W W') : CanR w A n cap xs W' :=
 ⟨Kd.R_below h.row hb, below_then h.b h.b.size hb⟩
theorem CanR.ge {w W : World} {g n cap : Nat} {xs : List S35} (h : CanR w (some ⟨g, 0, none⟩) n cap xs W) : w.heap.size ≤ g := Kd.R_base h.row g (by simp [Value.ownBlock])
theorem CanR.set {w W : World} {g n cap : Nat} {xs : List S35} (h : CanR w (some ⟨g, 0, none⟩) n cap xs W) (i : Nat) (hi : i < xs.length) (j : Nat) (hj : j < 9) (u : Value) (x' : S35)
  (hx : (cells35 xs[i]).toList.take j ++ [u] ++ (cells35 xs[i]).toList.drop (j + 1) = (cells35 x').toList) : CanR w (some ⟨g, 0, none⟩) n cap (xs.set i x') (W.setCell ⟨g, i * 9 + j, none⟩ u) :=
 ⟨(row_set h.row i hi j hj u x' hx).1, below_set h.b h.ge⟩
theorem CanR.some_ {w W : World} {A : Option Addr} {n cap : Nat} {xs : List S35} (h : CanR w A n cap xs W) (hx : 0 < xs.length) : ∃ g, A = some ⟨g, 0, none⟩ := by
 have hn := (Kd.R_reads' h.row).1
 obtain ⟨_, inner, ho, _⟩ := h.row
 rcases ho.2 with ⟨hv, h0⟩ | ⟨g, cap', cur, hv, _⟩
 ·injection hv with h1 h2 h3
  omega
 ·injection hv with h1 h2 h3
  exact ⟨g, h1⟩
theorem mid_at (l : List S35) (m : Nat) (h : m < l.length) : ((l.take m).map canon1 ++ l.drop m).length = l.length ∧ ∀ h2, ((l.take m).map canon1 ++ l.drop m)[m]'h2 = l[m] := by
 refine ⟨by simp; omega, fun h2 => ?_⟩
 rw [List.getElem_append_right (by simp; omega)]
 simp [Nat.min_eq_left (Nat.le_of_lt h)]
theorem mid_set (l : List S35) (m : Nat) (h : m < l.length) (x : S35) (hx : x = canon1 l[m]) : ((l.take m).map canon1 ++ l.drop m).set m x = (l.take (m + 1)).map canon1 ++ l.drop (m + 1) := by
 subst hx
 rw [List.set_append_right _ _ (by simp; omega), List.take_succ_eq_append_getElem h, List.map_append]
 simp only [List.length_map, List.length_take, Nat.min_eq_left (Nat.le_of_lt h), Nat.sub_self]
 rw [List.drop_eq_getElem_cons h, List.set_cons_zero]
 simp
theorem CanR.elem {w W : World} {g n cap m : Nat} {xs : List S35} {y : S35} (h : CanR w (some ⟨g, 0, none⟩) n cap (xs.set m y) W) (hm : m < xs.length) :
  (∀ j u, (cells35 y)[j]? = some u → W.cell? ⟨g, m * 9 + j, none⟩ = some u) ∧ ∀ j, W.frozen? ⟨g, j, none⟩ = false := by
 have := row_elem h.row m (by simpa using hm)
 rw [List.getElem_set_self] at this
 exact this
theorem CanR.upd {w W : World} {g n cap m : Nat} {xs : List S35} {y : S35} (h : CanR w (some ⟨g, 0, none⟩) n cap (xs.set m y) W) (hm : m < xs.length) (j : Nat) (hj : j < 9) (u : Value) (y' : S35)
  (hx : (cells35 y).toList.take j ++ [u] ++ (cells35 y).toList.drop (j + 1) = (cells35 y').toList) : CanR w (some ⟨g, 0, none⟩) n cap (xs.set m y') (W.setCell ⟨g, m * 9 + j, none⟩ u) := by
 have := h.set m (by simpa using hm) j hj u y' (by rw [List.getElem_set_self]; exact hx)
 rwa [List.set_set] at this
theorem CanR.drewN {w W : World} {A : Option Addr} {n cap : Nat} {xs : List S35} (h : CanR w A n cap xs W) (k : Nat) : CanR w A n cap xs (W.drewN k) := h.below (pw_below_drewN (Below.refl _ _) k)
theorem CanR.alloc {w W : World} {A : Option Addr} {n cap : Nat} {xs : List S35} (h : CanR w A n cap xs W) (o : Obj) : CanR w A n cap xs (W.alloc o) := h.below (below_alloc (Below.refl _ _) o)
def spec_Canonical.f (k : Nat) (l0 : List (S35)) : Option ((List (S35)) × Int) :=
 (spec_Check.f k l0).bind fun r => if r.1 = 0 then (if l0.length ≤ 1000000 then some (l0.map canon1, 0) else none) else some ([], r.1)
set_option maxRecDepth 100000 in
set_option maxHeartbeats 40000000 in
theorem spec_Canonical.calls (k : Nat) (A0 : Option Addr) (c0 : Nat) (l0 : List (S35)) (r1 : List (S35)) (r2 : Int) (w : World) (hr0 : Kd.C k35 w A0 l0.length l0) (hc0 : l0.length ≤ c0) (h : spec_Canonical.f k l0 = some (r1, r2)) :
  Calls Tryz.prog 19 #[.slice A0 l0.length c0] w fun e w' => ∃ v0_ : Value, e = .returned (.tuple #[v0_, .int .i64 r2]) ∧ Kd.R k35 35 w' w.heap.size (fun _ => True) v0_ r1 ∧ Below w.heap.size w w' := by
 unfold spec_Canonical.f at h
 obtain ⟨⟨ce, ca⟩, hck, h⟩ := Option.bind_eq_some_iff.1 h
 have HCK := Lib.hid hck
 have HR := Lib.hid hr0
 have HC0 := Lib.hid hc0
 clear hck hr0 hc0
 dsimp only at h
 by_cases c : ce = 0
 ·rw [if_pos c] at h
  subst c
  by_cases c2 : l0.length ≤ 1000000
  ·rw [if_pos c2] at h
   have h := Option.some.inj h
   simp only [Prod.mk.injEq] at h
   obtain ⟨rfl, rfl⟩ := h
   have HL := Lib.hid c2
   clear c2
   go_enter Tryz.func19, Tryz.ntmps19
   go_wp2_with (first
    | (go_at_call 18; refine (spec_Check.calls k A0 c0 l0 0 ca _ HR.out HC0.out HCK.out).mono ?_; rintro e w1 ⟨rfl, b1⟩)
    | (go_at_call 45; refine (clone_calls A0 c0 l0 _ (Kd.C_below HR.out b1) HL.out).mono ?_; rintro e w2 ⟨v2, rfl, r2, b2⟩; obtain ⟨A2, c2, rfl⟩ := Kd.R_slice r2))
   go_loopg [24] l0.length (fun k i wr => ∃ m : Nat, m + k = l0.length ∧ i = .int .i64 m ∧ CanR w A2 l0.length c2 ((l0.take m).map canon1 ++ l0.drop m) wr)
   case atStart => exact ⟨0, by omega, rfl, Kd.R_lower r2 b1.size, below_then b1 b1.size b2⟩
   case round =>
    clear r2 b1 b2
    obtain ⟨m, hm, rfl, cr⟩ := hrel
    by_cases hlt : m < l0.length
    ·obtain ⟨hml, hmx⟩ := mid_at l0 m hlt
     obtain ⟨g, rfl⟩ := cr.some_ (by omega)
     obtain ⟨x, hx⟩ : ∃ x, l0[m] = x := ⟨_, rfl⟩
     obtain ⟨xs, hxs⟩ : ∃ xs, ((l0.take m).map canon1 ++ l0.drop m) = xs := ⟨_, rfl⟩
     have hms := fun y h => mid_set l0 m hlt y h
     rw [hxs] at cr hml hmx hms
     have hmx2 : xs.set m x = xs := by
      rw [← hx, ← hmx (by omega)]
      exact List.set_getElem_self _
     have hmlt : m < xs.length := by omega
     rw [← hmx2] at cr
     have hm0 : (0 : Int) ≤ (m : Int) := Int.natCast_nonneg _
     have hm1 : (m : Int) < (l0.length : Int) := by omega
     have hm2 : (l0.length : Int) ≤ 1000000 := by have := HL.out; omega
     have HMS := Lib.hid hms
     have HX := Lib.hid hx
     have HM := Lib.hid hm
     clear hmx hx hxs hms hmx2 hml hm
     obtain ⟨b1, hb1⟩ : ∃ b, (Go.bits .and .i64 x.f2 2 != 0) = b := ⟨_, rfl⟩
     have HB1 := Lib.hid hb1
     have h2 := cr.elem hmlt |>.1 2 (.int .i64 x.f2) rfl
     go_upto_if 35 with fail
     clear h2
     go_cut [24] (fun s24 wc => s24 = .int .i64 (m : Int) ∧ CanR w (some ⟨g, 0, none⟩) l0.length c2 (xs.set m { x with f2 := canonF1 x.f2 }) wc)
     case first =>
      have h2 := cr.elem hmlt |>.1 2 (.int .i64 x.f2) rfl
      have f2 := cr.elem hmlt |>.2 (m * 9 + 2)
      cases b1
      ·have HF := Lib.hid (show canonF1 x.f2 = x.f2 from if_neg (by rw [HB1.out]; decide))
       clear hb1
       go_wp2_with fail
       go_meet
       case rel => exact ⟨rfl, by rw [HF.out]; exact cr⟩
      ·have HF := Lib.hid (show canonF1 x.f2 = Go.bits .andNot .i64 x.f2 4 from if_pos HB1.out)
       clear hb1
       go_wp2_with fail
       go_meet
       case rel => exact ⟨rfl, by rw [HF.out]; exact cr.upd hmlt 2 (by decide) _ _ rfl⟩
     case rest =>
      clear cr hb1 HB1
      obtain ⟨rfl, cr⟩ := hcut
      obtain ⟨F1, hF1⟩ : ∃ f, canonF1 x.f2 = f := ⟨_, rfl⟩
      rw [hF1] at cr
      have HF1 := Lib.hid hF1
      clear hF1
      obtain ⟨p1, hp1⟩ : ∃ b, decide (0 ≤ x.f5) = b := ⟨_, rfl⟩
      obtain ⟨ix, hix⟩ : ∃ b, Lib.indexByte (⟨#[100, 105, 117, 111, 120, 88, 98, 66]⟩ : ByteArray).data.toList x.f8.toNat.toUInt8 = b := ⟨_, rfl⟩
      obtain ⟨p2, hp2⟩ : ∃ b, decide (0 ≤ ix) = b := ⟨_, rfl⟩
      have HPC := Lib.hid (show preciseC x = (p1 && p2) from by unfold preciseC; rw [hix, hp1, hp2])
      have HIX := Lib.hid (show strings_IndexByte.f (⟨#[100, 105, 117, 111, 120, 88, 98, 66]⟩ : ByteArray) x.f8 = some ix from congrArg some hix)
      clear hix
      go_upto_region 11 with fail
      go_cut [24, 9] (fun s24 s9 wc => s24 = .int .i64 (m : Int) ∧ s9 = .bool (p1 && p2) ∧ CanR w (some ⟨g, 0, none⟩) l0.length c2 (xs.set m { x with f2 := F1 }) wc)
      case first =>
       have h5 := cr.elem hmlt |>.1 5 (.int .i64 x.f5) rfl
       have h8 := cr.elem hmlt |>.1 8 (.int .u8 x.f8) rfl
       cases p1
       ·go_wp2_with fail
        go_meet
        case rel => exact ⟨rfl, rfl, cr⟩
       ·go_wp2_with (go_at_call 37; refine (strings_IndexByte.calls _ _ ix _ HIX.out).mono ?_; rintro e w4 ⟨rfl, ⟨nd, rfl⟩⟩)
        go_meet
        case rel => exact ⟨rfl, by rw [Bool.true_and], cr.drewN nd⟩
      case rest =>
       clear cr hp1 hp2 HIX
       obtain ⟨rfl, rfl, cr⟩ := hcut
       obtain ⟨pc, hpc⟩ : ∃ b, (p1 && p2) = b := ⟨_, rfl⟩
       rw [hpc]
       have HPC2 := Lib.hid (HPC.out.trans hpc)
       clear hpc HPC
       obtain ⟨b3, hb3⟩ : ∃ b, (Go.bits .and .i64 F1 1 != 0) = b := ⟨_, rfl⟩
       have HB3 := Lib.hid hb3
       go_upto_region 12 with fail
       go_cut [24, 64] (fun s24 s64 wc => s24 = .int .i64 (m : Int) ∧ s64 = .bool (b3 || pc) ∧ CanR w (some ⟨g, 0, none⟩) l0.length c2 (xs.set m { x with f2 := F1 }) wc)
       case first =>
        have h2 := cr.elem hmlt |>.1 2 (.int .i64 F1) rfl
        cases b3 <;> cases pc <;>
        ·go_wp2_with fail
         go_meet
         case rel => exact ⟨rfl, rfl, cr⟩
       case rest =>
        clear cr hb3
        obtain ⟨rfl, rfl, cr⟩ := hcut
        obtain ⟨bb, hbb⟩ : ∃ b, (b3 || pc) = b := ⟨_, rfl⟩
        rw [hbb]
        have HBB := Lib.hid hbb
        clear hbb
        go_upto_if 64 with fail
        go_cut [24] (fun s24 wc => s24 = .int .i64 (m : Int) ∧ CanR w (some ⟨g, 0, none⟩) l0.length c2 (xs.set m { x with f2 := canonF2 F1 pc }) wc)
        case first =>
         have h2 := cr.elem hmlt |>.1 2 (.int .i64 F1) rfl
         have f2 := cr.elem hmlt |>.2 (m * 9 + 2)
         cases bb
         ·have HF := Lib.hid (show canonF2 F1 pc = F1 from if_neg (by rw [HB3.out, HBB.out]; decide))
          go_wp2_with fail
          go_meet
          case rel => exact ⟨rfl, by rw [HF.out]; exact cr⟩
         ·have HF := Lib.hid (show canonF2 F1 pc = Go.bits .andNot .i64 F1 16 from if_pos (by rw [HB3.out, HBB.out]))
          go_wp2_with fail
          go_meet
          case rel => exact ⟨rfl, by rw [HF.out]; exact cr.upd hmlt 2 (by decide) _ _ rfl⟩
        case rest =>
         clear cr
         obtain ⟨rfl, cr⟩ := hcut
         obtain ⟨F2, hF2⟩ : ∃ f, canonF2 F1 pc = f := ⟨_, rfl⟩
         rw [hF2] at cr
         have HF2 := Lib.hid hF2
         clear hF2 HB3 HBB
         obtain ⟨ru, hru⟩ : ∃ r, ruleC x.f8 = r := ⟨_, rfl⟩
         have HRF := Lib.hid (show spec_ruleOf.f 5 x.f8 = some (ru.fl, ru.ln, ru.wd, ru.pr, ru.ok) from by rw [← hru]; exact ruleOf_st _)
         obtain ⟨c1, hc1⟩ : ∃ b, (ru.ln.toList == ([102, 108, 111, 97, 116] : List UInt8)) = b := ⟨_, rfl⟩
         obtain ⟨c3, hc3⟩ : ∃ b, (x.f7 == 3) = b := ⟨_, rfl⟩
         have HCL := Lib.hid (show canonL x.f8 x.f7 = if (c1 && c3) = true then 0 else x.f7 from by
          unfold canonL
          rw [hru]
          have e1 : (ru.ln.toList = [102, 108, 111, 97, 116]) ↔ ru.ln = bFloat := bytes_eq_iff ru.ln bFloat
          have e : (c1 && c3) = true ↔ (ru.ln = bFloat ∧ x.f7 = 3) := by
           rw [← hc1, ← hc3, Bool.and_eq_true, beq_iff_eq, beq_iff_eq, e1]
          by_cases hq : ru.ln = bFloat ∧ x.f7 = 3
          ·rw [if_pos hq, if_pos (e.2 hq)]
          ·rw [if_neg hq, if_neg (fun h => hq (e.1 h))])
         have h8 := cr.elem hmlt |>.1 8 (.int .u8 x.f8) rfl
         clear hru
         go_upto_region 15 with (go_at_call 46; refine (spec_ruleOf.calls 5 x.f8 _ _ _ _ _ _ HRF.out).mono ?_; rintro e w6 ⟨rfl, b6⟩)
         have cr6 := (cr.below b6).alloc (.cells #[.int .i64 ru.fl, .string ru.ln, .bool ru.wd, .bool ru.pr] 85)
         have hbox := World.alloc_heap_new w6 (.cells #[.int .i64 ru.fl, .string ru.ln, .bool ru.wd, .bool ru.pr] 85)
         obtain ⟨W6, hW6⟩ : ∃ W, w6.alloc (.cells #[.int .i64 ru.fl, .string ru.ln, .bool ru.wd, .bool ru.pr] 85) = W := ⟨_, rfl⟩
         obtain ⟨T, hT⟩ : ∃ T, w6.heap.size = T := ⟨_, rfl⟩
         rw [hT] at hbox
         rw [hW6] at cr6 hbox ⊢
         rw [hT]
         have ht1 : W6.cell? ⟨T, 1, none⟩ = some (.string ru.ln) := blk_cell hbox 1
         clear cr b6 hW6 hT hbox h8
         go_cut [24, 89] (fun s24 s89 wc => s24 = .int .i64 (m : Int) ∧ s89 = .bool (c1 && c3) ∧ CanR w (some ⟨g, 0, none⟩) l0.length c2 (xs.set m { x with f2 := F2 }) wc)
         case first =>
          have h7 := cr6.elem hmlt |>.1 7 (.int .i64 x.f7) rfl
          cases c1
          ·go_wp2_with fail
           go_meet
           case rel => exact ⟨rfl, rfl, cr6⟩
          ·go_wp2_with fail
           go_meet
           case rel => exact ⟨rfl, by rw [Bool.true_and], cr6⟩
         case rest =>
          clear cr6 hc1 hc3 ht1
          obtain ⟨rfl, rfl, cr⟩ := hcut
          obtain ⟨bz, hbz⟩ : ∃ b, (c1 && c3) = b := ⟨_, rfl⟩
          rw [hbz] at HCL ⊢
          have h7 := cr.elem hmlt |>.1 7 (.int .i64 x.f7) rfl
          have f7 := cr.elem hmlt |>.2 (m * 9 + 7)
          cases bz
          ·have HF := Lib.hid (show canonL x.f8 x.f7 = x.f7 from HCL.out.trans (if_neg (by decide)))
           clear hbz
           go_wp2_with fail
           go_roundg (gk - 1)
           case measure => have := HM.out; omega
           case rel =>
            refine ⟨m + 1, by have := HM.out; omega, by go_num, ?_⟩
            rw [← HMS.out { x with f2 := F2, f7 := canonL x.f8 x.f7 } (by rw [HX.out]; unfold canon1; rw [HPC2.out, HF1.out, HF2.out])]
            rw [HF.out]
            exact cr
          ·have HF := Lib.hid (show canonL x.f8 x.f7 = 0 from HCL.out.trans (if_pos rfl))
           clear hbz
           go_wp2_with fail
           go_roundg (gk - 1)
           case measure => have := HM.out; omega
           case rel =>
            refine ⟨m + 1, by have := HM.out; omega, by go_num, ?_⟩
            rw [← HMS.out { x with f2 := F2, f7 := canonL x.f8 x.f7 } (by rw [HX.out]; unfold canon1; rw [HPC2.out, HF1.out, HF2.out])]
            rw [HF.out]
            exact cr.upd hmlt 7 (by decide) _ _ rfl
    ·obtain rfl : m = l0.length := by omega
     have hxl : (l0.take l0.length).map canon1 ++ l0.drop l0.length = l0.map canon1 := by simp
     rw [hxl] at cr
     clear hxl
     go_wp2_with fail
     go_ret2
     exact ⟨_, rfl, cr.row, cr.b⟩
  ·rw [if_neg c2] at h
   cases h
 ·rw [if_neg c] at h
  have h := Option.some.inj h
  simp only [Prod.mk.injEq] at h
  obtain ⟨rfl, rfl⟩ := h
  have hne : (ce != 0) = true := by rw [bne_iff_ne]; exact c
  clear c
  go_enter Tryz.func19, Tryz.ntmps19
  go_wp2_with (go_at_call 18; refine (spec_Check.calls k A0 c0 l0 ce ca _ HR.out HC0.out HCK.out).mono ?_; rintro e w1 ⟨rfl, b1⟩)
  go_ret2
  exact ⟨_, rfl, Kd.R_nil _ _ _ _ _, b1⟩
end Go.Proofs.YtnhbgahfmcicnaaGreatDoor.PA
end
