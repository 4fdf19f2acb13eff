/- A part of the proof of the claim's statement. -/
import Derived.Test.YtnhbgahfmcicnaaGreatDoorPcPAx0
import Derived.Test.YtnhbgahfmcicnaaGreatDoorPcShelf
import Derived.Laws.RangeAny
import Derived.Laws.Runes
import Derived.Lib.Hide
import Derived.Outline
import Derived.Lib.AppendIntMem
section
namespace Go.Proofs.YtnhbgahfmcicnaaGreatDoor.PA
open Go.RowKit Go.Proofs.YtnhbgahfmcicnaaGreatDoorW.PrintWords Go.Proofs.YtnhbgahfmcicnaaGreatDoorW.PrintLast Go.Proofs.YtnhbgahfmcicnaaGreatDoorW.PrintMore
structure LD (w : World) : Prop where
 tab : Lib.TabIs Tryz.prog w "internal/strconv.uint64pow10" .u64 Lib.pow10Tab
 len : ∃ m : Int, w.cell? ⟨0, 0, none⟩ = some (.int .i64 m)
theorem tabIs_below {n : String} {g : Nat} {k : IntKind} {zs : List Int} {w w' : World} (hg : Tryz.prog.globalNamed n = some g) (h : Lib.TabIs Tryz.prog w n k zs) (hb : Below w.heap.size w w') : Lib.TabIs Tryz.prog w' n k zs := by
 unfold Lib.TabIs World.var? at h ⊢
 rw [hg] at h ⊢
 simp only [Option.bind_some] at h ⊢
 have hlt : g < w.heap.size := by
  rcases Nat.lt_or_ge g w.heap.size with h' | h'
  ·exact h'
  ·rw [Array.getElem?_eq_none h'] at h; cases h
 rw [hb.block g hlt]
 exact h
theorem LD.below {w w' : World} (h : LD w) (hb : Below w.heap.size w w') : LD w' := by
 obtain ⟨m, hm⟩ := h.len
 exact ⟨tabIs_below (g := 3) (by kernel_rfl) h.tab hb, m, pw_cell_below hb hm⟩
theorem decode_span (s : ByteArray) (pos : Nat) (h : pos < s.size) (ha : 128 ≤ (s[pos]'h).toNat) : pos + (Utf8.decode s pos).2 ≤ s.size ∧ ∀ j, pos ≤ j → j < pos + (Utf8.decode s pos).2 → ∀ x, s.data.toList[j]? = some x → 128 ≤ x.toNat := by
 have hn : ¬ (s[pos]'h).toNat < 128 := by omega
 have hg : ∀ j, ∀ x, s.data.toList[j]? = some x → s.get! j = x := by
  intro j x hx
  have hj : j < s.size := by
   have := (List.getElem?_eq_some_iff.1 hx).1
   rw [Array.length_toList] at this
   exact this
  have h1 : s.data.toList[j]? = some (s[j]'hj) := Lib.data_getElem? s j hj
  rw [hx] at h1
  have h2 : s.get! j = s[j]'hj := by
   simp [ByteArray.get!, getElem!_pos, hj]
   rfl
  rw [h2]
  exact (Option.some.inj h1).symm
 have key : (Utf8.decode s pos).2 = 1 ∨ ((Utf8.decode s pos).2 = 2 ∧ pos + 1 < s.size ∧ (s.get! (pos + 1)).toNat / 64 = 2) ∨ ((Utf8.decode s pos).2 = 3 ∧ pos + 2 < s.size ∧ (s.get! (pos + 1)).toNat / 64 = 2 ∧ (s.get! (pos + 2)).toNat / 64 = 2) ∨ ((Utf8.decode s pos).2 = 4 ∧ pos + 3 < s.size ∧ (s.get! (pos + 1)).toNat / 64 = 2 ∧ (s.get! (pos + 2)).toNat / 64 = 2 ∧ (s.get! (pos + 3)).toNat / 64 = 2) := by
  clear hg
  simp only [Utf8.decode, get_at s pos h, hn, if_false]
  repeat' split
  all_goals first | (left; rfl) | simp_all
 have h0 : ∀ x, s.data.toList[pos]? = some x → 128 ≤ x.toNat := by
  intro x hx
  rw [Lib.data_getElem? s pos h] at hx
  cases hx
  exact ha
 refine ⟨by omega, fun j hj1 hj2 x hx => ?_⟩
 have hgx := hg j x hx
 rcases Nat.eq_or_lt_of_le hj1 with rfl | hlt
 ·exact h0 x hx
 ·have : j = pos + 1 ∨ j = pos + 2 ∨ j = pos + 3 := by omega
  rcases this with rfl | rfl | rfl <;> rw [hgx] at key <;> omega
theorem quiet_add_same {P : Program} {f : FuncId} {args : Array Value} {w : World} {a n : Nat} {v : Value}
  (h : Calls P f args (w.drewN (a + n)) fun e w' => e = .returned v ∧ w' = w.drewN (a + n)) :
  Calls P f args (w.drewN (a + n)) fun e w'' => e = .returned v ∧ ∃ m, w'' = w.drewN (a + m) :=
 h.mono fun _ _ ⟨he, hm⟩ => ⟨he, n, hm⟩
def strings_IndexByte.f (a0 : ByteArray) (a1 : Int) : Option (Int) := some (Lib.indexByte a0.data.toList a1.toNat.toUInt8)
theorem strings_IndexByte.calls (a0 : ByteArray) (a1 : Int) (r : Int) (w : World) (h : strings_IndexByte.f a0 a1 = some r) :
  Calls Tryz.prog 37 #[.string a0, .int .u8 a1] w fun e w' => e = .returned (.int .i64 r) ∧ Drawn0 w w' := by
 cases h
 refine (Tryz.strings_IndexByte a0 a1 w).mono ?_
 rintro e w' ⟨rfl, rfl⟩
 exact ⟨rfl, Drawn0.refl _⟩
def strconv_Itoa.f (a0 : Int) : Option (ByteArray) := if -9223372036854775808 ≤ a0 ∧ a0 ≤ 9223372036854775807 then some ⟨(Lib.itoa a0).toArray⟩ else none
theorem strconv_Itoa.calls (a0 : Int) (r : ByteArray) (w : World) (hLD : LD w) (h : strconv_Itoa.f a0 = some r) :
  Calls Tryz.prog 80 #[.int .i64 a0] w fun e w' => e = .returned (.string r) ∧ Below w.heap.size w w' := by
 unfold strconv_Itoa.f at h
 by_cases c : -9223372036854775808 ≤ a0 ∧ a0 ≤ 9223372036854775807
 ·rw [if_pos c] at h
  cases h
  refine (Tryz.strconv_Itoa a0 c.1 c.2 w hLD.tab).mono ?_
  rintro e w' ⟨rfl, k, os, rfl⟩
  exact ⟨rfl, Lib.below_grow _ _ (Nat.le_refl _) _ _⟩
 ·rw [if_neg c] at h
  cases h
def strings_ReplaceAll.f (a0 : ByteArray) (a1 : ByteArray) (a2 : ByteArray) : Option (ByteArray) :=
 if a0.size < 4294967281 ∧ 1 ≤ a1.size ∧ a0.size + Lib.countB a0 a1 * a2.size ≤ 140737488355328 then some ⟨(Lib.replaceAll a0.data.toList a1.data.toList a2.data.toList).toArray⟩ else none
theorem strings_ReplaceAll.calls (a0 : ByteArray) (a1 : ByteArray) (a2 : ByteArray) (r : ByteArray) (w : World) (hLD : LD w) (h : strings_ReplaceAll.f a0 a1 a2 = some r) :
  Calls Tryz.prog 38 #[.string a0, .string a1, .string a2] w fun e w' => e = .returned (.string r) ∧ Below w.heap.size w w' := by
 unfold strings_ReplaceAll.f at h
 by_cases c : a0.size < 4294967281 ∧ 1 ≤ a1.size ∧ a0.size + Lib.countB a0 a1 * a2.size ≤ 140737488355328
 ·rw [if_pos c] at h
  cases h
  obtain ⟨m, hm⟩ := hLD.len
  refine (Tryz.strings_ReplaceAll a0 a1 a2 m w c.1 hm c.2.1 c.2.2).mono ?_
  rintro e w' ⟨rfl, hb⟩
  exact ⟨rfl, hb⟩
 ·rw [if_neg c] at h
  cases h
def pct0 : ByteArray := ⟨#[37, 0]⟩
set_option maxHeartbeats 4000000 in
set_option maxRecDepth 100000 in
theorem indexRune_high (r : Int) (w : World) (h0 : 128 ≤ r) (h1 : r ≤ 2147483647) :
  Calls Tryz.prog 84 #[.string pct0, .int .i32 r] w fun e w' => e = .returned (.int .i64 (-1)) ∧ Below w.heap.size w w' := by
 unfold pct0
 have n0 : decide (r < 128) = false := by simp; omega
 have n1 : decide (0 ≤ r) = true := by simp; omega
 by_cases hre : r = 65533
 ·subst hre
  go_enter Tryz.func84, Tryz.ntmps84
  go_wp2_with fail
  go_loopg [5, 6] 2 (fun g _ _ wx => ∃ i : Nat, i + g = 2 ∧ wx = w.iter ⟨#[37, 0]⟩ i)
  case atStart => exact ⟨0, by omega, rfl⟩
  case round =>
   obtain ⟨i, hig, rfl⟩ := hrel
   cases gk with
   | zero =>
    obtain rfl : i = 2 := by omega
    have hnx := run_next_end (P := Tryz.prog) w ⟨#[37, 0]⟩ 2
    go_wp2
    go_ret
    exact ⟨rfl, (Below.refl _ _).alloc (Nat.le_refl _) _⟩
   | succ g =>
    cases g with
    | zero =>
     obtain rfl : i = 1 := by omega
     have hnx := fun ty => run_next_ascii (P := Tryz.prog) w ⟨#[37, 0]⟩ 1 ty (by decide) (by decide)
     go_wp2
     go_roundg 0
     case measure => omega
     case rel => exact ⟨2, by omega, rfl⟩
    | succ g =>
     obtain rfl : i = 0 := by omega
     obtain rfl : g = 0 := by omega
     have hnx := fun ty => run_next_ascii (P := Tryz.prog) w ⟨#[37, 0]⟩ 0 ty (by decide) (by decide)
     go_wp2
     go_roundg 1
     case measure => omega
     case rel => exact ⟨1, by omega, rfl⟩
 ·have n2 : (r == 65533) = false := by simp; omega
  cases hv : Lib.validRune r
  ·go_enter Tryz.func84, Tryz.ntmps84
   go_wp2_with (go_at_call 112; refine (Tryz.utf8_ValidRune _ _).mono ?_; rintro e w' ⟨rfl, rfl⟩; rw [hv])
   go_ret
   exact ⟨rfl, Below.refl _ _⟩
  ·have hu : Utf8.valid r = true := by
    unfold Lib.validRune at hv
    unfold Utf8.valid
    simp at hv ⊢
    omega
   obtain ⟨f1, f2, f3⟩ := encode_facts r hu h0
   have H3 := Lib.hid f3
   clear f3 hu
   rcases (by omega : (Utf8.encode r).size = 2 ∨ (Utf8.encode r).size = 3 ∨ (Utf8.encode r).size = 4) with h | h | h
   ·clear f1 f2
    obtain ⟨c, hc⟩ : ∃ c : UInt8, (Utf8.encode r)[1]'(by omega) = c := ⟨_, rfl⟩
    have hc128 : 128 ≤ c.toNat := by
     have := H3.out (by omega)
     rw [← hc]
     have h1 : (Utf8.encode r).size - 1 = 1 := by omega
     simpa only [h1] using this
    have hne : ((((⟨#[37, 0]⟩ : ByteArray)[1]'(by decide)).toNat : Int) != (c.toNat : Int)) = true := by
     rw [bne_iff_ne]
     show (0 : Int) ≠ c.toNat
     omega
    have hib : ∀ l : List UInt8, l = [] → Lib.indexByte l c = -1 := by rintro l rfl; rfl
    go_enter Tryz.func84, Tryz.ntmps84
    go_wp2_with (go_at_call 112; refine (Tryz.utf8_ValidRune _ _).mono ?_; rintro e w' ⟨rfl, rfl⟩; rw [hv])
    go_step3
    go_wp2_with fail
    refine wp_loop_rounds 1 ?_
    rw [rounds_succ]
    go_wp2_with fail
    go_step3
    go_wp2_with fail
    go_quiet (fail)
    go_wp2_with fail
    go_quiet ((go_at_call 37; exact quiet_add_same (Tryz.strings_IndexByte _ _ _)))
    go_wp2_with fail
    rw [Exit.noGoto_ret]
    go_wp2_with fail
    rw [Exit.noGoto_ret]
    go_ret
    exact ⟨rfl, pw_below_drewN (Below.refl _ _) _⟩
   ·clear f1 f2
    go_enter Tryz.func84, Tryz.ntmps84
    go_wp2_with (go_at_call 112; refine (Tryz.utf8_ValidRune _ _).mono ?_; rintro e w' ⟨rfl, rfl⟩; rw [hv])
    go_step3
    go_wp2_with fail
    refine wp_loop_rounds 1 ?_
    rw [rounds_succ]
    go_wp2
    rw [Exit.noGoto_ret]
    go_ret
    exact ⟨rfl, Below.refl _ _⟩
   ·clear f1 f2
    go_enter Tryz.func84, Tryz.ntmps84
    go_wp2_with (go_at_call 112; refine (Tryz.utf8_ValidRune _ _).mono ?_; rintro e w' ⟨rfl, rfl⟩; rw [hv])
    go_step3
    go_wp2_with fail
    refine wp_loop_rounds 1 ?_
    rw [rounds_succ]
    go_wp2
    rw [Exit.noGoto_ret]
    go_ret
    exact ⟨rfl, Below.refl _ _⟩
set_option maxHeartbeats 8000000 in
set_option maxRecDepth 1000000 in
theorem indexAny_short (s : ByteArray) (w : World) (h8 : s.size ≤ 8) :
  Calls Tryz.prog 54 #[.string s, .string pct0] w fun e w' => e = .returned (.int .i64 (Lib.indexAny s.data.toList [37, 0])) ∧ Below w.heap.size w w' := by
 have hir : ∀ (x : UInt8) (W : World), x.toNat < 128 → Calls Tryz.prog 84 #[.string pct0, .int .i32 x.toNat] W fun e w' => e = .returned (.int .i64 (Lib.indexByte [37, 0] x)) ∧ w' = W := fun x W hx => by
  have h := Tryz.strings_IndexRune_ascii pct0 (x.toNat : Int) W (by omega) (by omega)
  have hback : ((x.toNat : Int)).toNat.toUInt8 = x := by simp
  rw [hback] at h
  exact h
 have hih := fun (r : Int) (W : World) => indexRune_high r W
 have HIR := Lib.hid hir
 have HIH := Lib.hid hih
 clear hir hih
 unfold pct0 at HIR HIH ⊢
 have h8z : decide ((8 : Int) < (s.size : Int)) = false := decide_eq_false (by omega)
 go_enter Tryz.func54, Tryz.ntmps54
 go_wp2_with (go_at_call 85; refine (Tryz.strings_shouldUseASCIISet _ _).mono ?_; rintro e w' ⟨rfl, hw⟩; rw [hw, h8z])
 go_loopg [9, 10] s.size (fun g _ _ wx => ∃ i : Nat, i ≤ s.size ∧ s.size ≤ i + g ∧ Hid (wx.heap[w.heap.size]? = some (.stringIter s i)) ∧ Hid (Below w.heap.size w wx) ∧ Hid (Lib.NoAny s.data.toList [37, 0] i))
 case atStart => exact ⟨0, by omega, by omega, World.iter_heap w s 0, (Below.refl _ _).alloc (Nat.le_refl _) _, Lib.NoAny.zero _ _⟩
 case round =>
  obtain ⟨i, hi1, hi2, HI, HB, HN⟩ := hrel
  by_cases hlt : i < s.size
  ·obtain ⟨g, rfl⟩ : ∃ g, gk = g + 1 := ⟨gk - 1, by omega⟩
   obtain ⟨x, hx⟩ : ∃ x : UInt8, s[i]'hlt = x := ⟨_, rfl⟩
   have Hx : Hid (s.data.toList[i]? = some x) := Lib.hid (by rw [← hx]; exact Lib.data_getElem? s i hlt)
   have hB' := HB
   by_cases ha : x.toNat < 128
   ·have hnx := fun ty => Lib.run_next_ascii_at (P := Tryz.prog) wr w.heap.size s i ty HI.out hlt (by rw [hx]; exact ha)
    rw [hx] at hnx
    clear hx
    have hcon := Lib.contains_iff_indexByte [37, 0] x
    cases hin : ([37, 0] : List UInt8).contains x
    ·rw [hin] at hcon
     have hlt0 : ¬ ((0 : Int) ≤ Lib.indexByte [37, 0] x) := of_decide_eq_false hcon.symm
     have HIN := Lib.hid hin
     clear hcon hin
     go_wp2_with (go_at_call 84; refine (HIR.out x _ ha).mono ?_; rintro e w' ⟨rfl, hw⟩; rw [hw])
     go_roundg g
     case measure => omega
     case rel => exact ⟨i + 1, by omega, by omega, Lib.iterAt_heap _ _ _ _ _ HI.out, Lib.below_iterAt HB.out (Nat.le_refl _) _ _, HN.out.succ Hx.out HIN.out⟩
    ·rw [hin] at hcon
     have hge : (0 : Int) ≤ Lib.indexByte [37, 0] x := of_decide_eq_true hcon.symm
     have HIN := Lib.hid hin
     clear hcon hin
     go_wp2_with (go_at_call 84; refine (HIR.out x _ ha).mono ?_; rintro e w' ⟨rfl, hw⟩; rw [hw])
     go_ret
     exact ⟨by rw [Lib.indexAny_hit HN.out Hx.out HIN.out]; rfl, Lib.below_iterAt HB.out (Nat.le_refl _) _ _⟩
   ·have hd := decode_span s i hlt (by rw [hx]; omega)
    have hh := decode_high s i hlt (by rw [hx]; omega)
    have hle := decode_le s i
    have hnx := fun ty => Lib.run_next_any_at (P := Tryz.prog) wr w.heap.size s i ty HI.out hlt
    obtain ⟨p, hp⟩ : ∃ p, Utf8.decode s i = p := ⟨_, rfl⟩
    rw [hp] at hd hh hle hnx
    clear hp hx
    obtain ⟨rn, wd⟩ := p
    obtain ⟨hd1, hd2⟩ := hd
    obtain ⟨hh1, hh2⟩ := hh
    simp only at hd1 hd2 hh1 hh2 hle
    have HD2 := Lib.hid hd2
    clear hd2
    have hlt0 : ¬ ((0 : Int) ≤ -1) := by omega
    have hNN : Lib.NoAny s.data.toList [37, 0] (i + wd) := by
     intro j b hj hb
     by_cases hji : j < i
     ·exact HN.out j b hji hb
     ·have := HD2.out j (by omega) hj b hb
      have h1 : b ≠ 37 := by rintro rfl; simp at this
      have h2 : b ≠ 0 := by rintro rfl; simp at this
      simp [h1, h2]
    have HNN := Lib.hid hNN
    clear hNN
    go_wp2_with (go_at_call 84; refine (HIH.out _ _ (by omega) (by omega)).mono ?_; rintro e w' ⟨rfl, hw⟩)
    go_roundg g
    case measure => omega
    case rel => exact ⟨i + wd, by omega, by omega, by rw [hw.block _ (by rw [Lib.iterAt_size]; exact (Array.getElem?_eq_some_iff.1 HI.out).1)]; exact Lib.iterAt_heap _ _ _ _ _ HI.out, (Lib.below_iterAt HB.out (Nat.le_refl _) _ _).trans (hw.mono (by rw [Lib.iterAt_size]; exact HB.out.size)), HNN.out⟩
  ·obtain rfl : i = s.size := by omega
   have hnx := fun ty => Lib.run_next_end_at (P := Tryz.prog) wr w.heap.size s s.size ty HI.out (by omega)
   go_wp2
   go_ret
   exact ⟨by rw [Lib.indexAny_none (by rw [← Lib.size_eq]; exact HN.out)]; rfl, HB.out⟩
theorem zero119 (w : World) : (zeroValue 119).run Tryz.prog w = .ok (.agg (Array.replicate 256 (.bool false))) w :=
 (zero_of_info (P := Tryz.prog) (n := 256) (by kernel_rfl)).1 w
def strings_IndexAny.f (a0 : ByteArray) (a1 : ByteArray) : Option (Int) := if a1 = pct0 ∧ a0.size < 4294967281 then some (Lib.indexAny a0.data.toList [37, 0]) else none
theorem strings_IndexAny.calls (a0 : ByteArray) (a1 : ByteArray) (r : Int) (w : World) (h : strings_IndexAny.f a0 a1 = some r) :
  Calls Tryz.prog 54 #[.string a0, .string a1] w fun e w' => e = .returned (.int .i64 r) ∧ Below w.heap.size w w' := by
 unfold strings_IndexAny.f at h
 by_cases c : a1 = pct0 ∧ a0.size < 4294967281
 ·rw [if_pos c] at h
  cases h
  obtain ⟨rfl, c2⟩ := c
  by_cases h8 : a0.size ≤ 8
  ·exact indexAny_short a0 w h8
  ·refine (Tryz.strings_IndexAny_long zero119 a0 pct0 w (by decide) (by omega) c2 (by decide) ?_).mono ?_
   ·intro j b hb
    have hm := List.mem_of_getElem? hb
    simp [pct0] at hm
    rcases hm with rfl | rfl <;> decide
   ·rintro e w' ⟨rfl, rfl⟩
    exact ⟨rfl, ((Below.refl _ _).alloc (Nat.le_refl _) _).alloc (by simp) _⟩
 ·rw [if_neg c] at h
  cases h
def strings_ContainsAny.f (a0 : ByteArray) (a1 : ByteArray) : Option (Bool) := (strings_IndexAny.f a0 a1).map fun r => decide (0 ≤ r)
theorem strings_ContainsAny.calls (a0 : ByteArray) (a1 : ByteArray) (r : Bool) (w : World) (h : strings_ContainsAny.f a0 a1 = some r) :
  Calls Tryz.prog 75 #[.string a0, .string a1] w fun e w' => e = .returned (.bool r) ∧ Below w.heap.size w w' := by
 unfold strings_ContainsAny.f at h
 obtain ⟨n, hn, rfl⟩ := Option.map_eq_some_iff.1 h
 have H := Lib.hid hn
 clear hn h
 go_enter Tryz.func75, Tryz.ntmps75
 go_wp2_with (go_at_call 54; refine (strings_IndexAny.calls a0 a1 n _ H.out).mono ?_; rintro e w' ⟨rfl, hw⟩)
 go_ret
 exact ⟨rfl, hw⟩
end Go.Proofs.YtnhbgahfmcicnaaGreatDoor.PA
end
