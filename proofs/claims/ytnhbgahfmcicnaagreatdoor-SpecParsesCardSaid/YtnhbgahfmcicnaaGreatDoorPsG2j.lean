/- A part of the proof that Parse returns what the specification returns, for every string. -/
import Derived.Test.YtnhbgahfmcicnaaGreatDoorPsPAx8
import Derived.Test.YtnhbgahfmcicnaaGreatDoorPsN1
import Derived.Test.YtnhbgahfmcicnaaGreatDoorPsG3p3
import Derived.Deep.CutRange
import Derived.Deep.DeepCutAuto
section
namespace Go.Proofs.YtnhbgahfmcicnaaGreatDoor.PA
set_option linter.unusedVariables false
set_option linter.unusedSimpArgs false
open Go.RowKit Go.Shelf Go.Proofs.YtnhbgahfmcicnaaGreatDoorW.PrintWords Go.Proofs.YtnhbgahfmcicnaaGreatDoorW.PrintLast Go.Proofs.YtnhbgahfmcicnaaGreatDoorW.PrintMore
section
variable {w0 w : World} {g : Nat} {fmt : ByteArray} {l : List UInt8} {nx : Int} {wi pn : Bool}
theorem isR (b : UInt8) {db : Bool} (hI : IsS65 w0 w g fmt (offI fmt l) nx wi pn) (hB : Below w0.heap.size w0 w) (hs : Suf fmt l) (h : (skipC b l).isSome = db) :
  Calls Tryz.prog 63 #[.pointer (some ⟨g, 0, none⟩), .int .u8 (b.toNat : Int)] w fun e w' => e = .returned (.bool db) ∧ IsS65 w0 w' g fmt (offI fmt l) nx wi pn ∧ Below w0.heap.size w0 w' ∧ KeepBut w w' g none :=
 sorobanref21_reader_is.calls g _ _ _ _ _ _ _ _ _ _ _ _ w0 w hI hB ((ris_f hs b).trans (by rw [h]))
theorem positionR {n : Int} {t : List UInt8} (hI : IsS65 w0 w g fmt (offI fmt l) nx wi pn) (hB : Below w0.heap.size w0 w) (hs : Suf fmt l) (h : placeR l = (n, t)) :
  Calls Tryz.prog 61 #[.pointer (some ⟨g, 0, none⟩)] w fun e w' => e = .returned (.int .i64 n) ∧ IsS65 w0 w' g fmt (offI fmt t) nx wi pn ∧ Below w0.heap.size w0 w' ∧ KeepBut w w' g none :=
 sorobanref21_reader_position.calls 2001 g _ _ _ _ _ _ _ _ _ _ _ w0 w hI hB (by rw [rposition_f hs (by omega), h])
theorem flagsR {n : Int} {t : List UInt8} (hI : IsS65 w0 w g fmt (offI fmt l) nx wi pn) (hB : Below w0.heap.size w0 w) (hs : Suf fmt l) (h : flagsC 0 l = (n, t)) :
  Calls Tryz.prog 62 #[.pointer (some ⟨g, 0, none⟩)] w fun e w' => e = .returned (.int .i64 n) ∧ IsS65 w0 w' g fmt (offI fmt t) nx wi pn ∧ Below w0.heap.size w0 w' ∧ KeepBut w w' g none :=
 sorobanref21_reader_flags.calls 30001 g _ _ _ _ _ _ _ _ _ _ _ w0 w hI hB (by rw [rflags_f hs (by omega), h])
theorem digitsR {n : Int} {q : Nat} {t : List UInt8} (hI : IsS65 w0 w g fmt (offI fmt l) nx wi pn) (hB : Below w0.heap.size w0 w) (hs : Suf fmt l) (h : numC 99999 0 l = (n, t)) (hq : l.length - t.length = q) :
  Calls Tryz.prog 65 #[.pointer (some ⟨g, 0, none⟩)] w fun e w' => e = .returned (.tuple #[.int .i64 n, .int .i64 (q : Int)]) ∧ IsS65 w0 w' g fmt (offI fmt t) nx wi pn ∧ Below w0.heap.size w0 w' ∧ KeepBut w w' g none :=
 sorobanref21_reader_digits.calls 2001 g _ _ _ _ _ _ _ _ _ _ _ _ w0 w hI hB (by rw [rdigits_f hs (by omega), h, ← hq])
theorem argumentR {at_ n r nx' : Int} {wi' pn' : Bool} (hI : IsS65 w0 w g fmt at_ nx wi pn) (hB : Below w0.heap.size w0 w) (h : argR nx wi pn n = (r, nx', wi', pn')) :
  Calls Tryz.prog 64 #[.pointer (some ⟨g, 0, none⟩), .int .i64 n] w fun e w' => e = .returned (.int .i64 r) ∧ IsS65 w0 w' g fmt at_ nx' wi' pn' ∧ Below w0.heap.size w0 w' ∧ KeepBut w w' g none :=
 sorobanref21_reader_argument.calls g _ _ _ _ _ _ _ _ _ _ _ _ w0 w hI hB (by rw [rargument_f, h])
theorem lengthR {n : Int} {t : List UInt8} (hI : IsS65 w0 w g fmt (offI fmt l) nx wi pn) (hB : Below w0.heap.size w0 w) (hs : Suf fmt l) (h : lenC l = (n, t)) :
  Calls Tryz.prog 66 #[.pointer (some ⟨g, 0, none⟩)] w fun e w' => e = .returned (.int .i64 n) ∧ IsS65 w0 w' g fmt (offI fmt t) nx wi pn ∧ Below w0.heap.size w0 w' ∧ KeepBut w w' g none :=
 sorobanref21_reader_length.calls g _ _ _ _ _ _ _ _ _ _ _ w0 w hI hB (by rw [rlength_f hs, h])
theorem fitsR {x : S35} {b : Bool} (h : rfitsC x = b) (W : World) :
  Calls Tryz.prog 67 #[agg35 x] W fun e w' => e = .returned (.bool b) ∧ Below W.heap.size W w' :=
 sorobanref21_fits.calls 30 _ _ _ _ _ _ _ _ _ b W (by have := rfits_f 0 x; rw [h] at this; exact this)
end
structure Rc (w0 w : World) (g X R : Nat) (fmt : ByteArray) (a nx : Int) (wi pn : Bool) (x : S35) (W : World) : Prop where
 is : IsS65 w0 W g fmt a nx wi pn
 b : Below w0.heap.size w0 W
 k : KeepBut w W g none
 x : W.heap[X]? = some (.cells (cells35 x) 35 (0, 0))
 r : W.heap[R]? = some (.cells (cells35 z35) 35 (0, 0))
 hX : w.heap.size ≤ X
 hR : w.heap.size ≤ R
 hw : w0.heap.size ≤ w.heap.size
 rx : R ≠ X
section
variable {w0 w : World} {g X R : Nat} {fmt : ByteArray} {a a' nx nx' : Int} {wi pn wi' pn' : Bool} {x x' : S35} {W W' : World}
theorem Rc.gX (h : Rc w0 w g X R fmt a nx wi pn x W) : g ≠ X := IsS65.ne_blk h.is h.x (by decide)
theorem Rc.gR (h : Rc w0 w g X R fmt a nx wi pn x W) : g ≠ R := IsS65.ne_blk h.is h.r (by decide)
theorem Rc.lt (h : Rc w0 w g X R fmt a nx wi pn x W) : g < W.heap.size := IsS65.lt h.is
theorem Rc.call (h : Rc w0 w g X R fmt a nx wi pn x W) (hi : IsS65 w0 W' g fmt a' nx' wi' pn') (hb : Below w0.heap.size w0 W') (hk : KeepBut W W' g none) : Rc w0 w g X R fmt a' nx' wi' pn' x W' :=
 ⟨hi, hb, h.k.trans hk (.inl rfl), hk.blk h.x h.gX.symm (by simp), hk.blk h.r h.gR.symm (by simp), h.hX, h.hR, h.hw, h.rx⟩
theorem Rc.below (h : Rc w0 w g X R fmt a nx wi pn x W) (hb : Below W.heap.size W W') : Rc w0 w g X R fmt a nx wi pn x W' :=
 h.call (IsS65.below h.is hb) (h.b.trans (hb.mono (Nat.le_trans h.hw h.k.1))) (KeepBut.of_below hb _ _)
theorem Rc.drewN (h : Rc w0 w g X R fmt a nx wi pn x W) (n : Nat) : Rc w0 w g X R fmt a nx wi pn x (W.drewN n) := h.below (pw_below_drewN (Below.refl _ _) n)
theorem Rc.drew (h : Rc w0 w g X R fmt a nx wi pn x W) : Rc w0 w g X R fmt a nx wi pn x W.drew := h.below (below_drew (Below.refl _ _))
theorem Rc.setX (h : Rc w0 w g X R fmt a nx wi pn x W) (j : Nat) (u : Value) (x' : S35) (hx : (cells35 x).setIfInBounds j u = cells35 x') : Rc w0 w g X R fmt a nx wi pn x' (W.setCell ⟨X, j, none⟩ u) :=
 ⟨IsS65.far h.is h.gX u, below_set h.b (Nat.le_trans h.hw h.hX), keep_far h.k h.hX j u, hx ▸ blk_set h.x j u, blk_far h.r h.rx u, h.hX, h.hR, h.hw, h.rx⟩
theorem Rc.start (hi : IsS65 w0 w g fmt a nx wi pn) (hb : Below w0.heap.size w0 w) (x : S35) :
  Rc w0 w g (w.heap.size + 1) w.heap.size fmt a nx wi pn x ((w.alloc (.cells (cells35 z35) 35)).alloc (.cells (cells35 x) 35)) := by
 have z1 : (w.alloc (.cells (cells35 z35) 35)).heap.size = w.heap.size + 1 := by simp
 have h1 := World.alloc_heap_new w (.cells (cells35 z35) 35)
 have h2 := World.alloc_heap_new (w.alloc (.cells (cells35 z35) 35)) (.cells (cells35 x) 35)
 rw [z1] at h2
 have a2 : Below (w.heap.size + 1) (w.alloc (.cells (cells35 z35) 35)) ((w.alloc (.cells (cells35 z35) 35)).alloc (.cells (cells35 x) 35)) := z1 ▸ below_alloc (Below.refl _ _) _
 exact ⟨IsS65.alloc (IsS65.alloc hi _) _, below_alloc (below_alloc hb _) _, keep_alloc (keep_alloc (KeepBut.refl _ _ _) _) _, h2, (a2.block _ (by omega)).trans h1, by omega, Nat.le_refl _, hb.size, by omega⟩
theorem Rc.x0 (h : Rc w0 w g X R fmt a nx wi pn x W) : W.cell? ⟨X, 0, none⟩ = some (.string x.f0) := blk_cell h.x 0
theorem Rc.x1 (h : Rc w0 w g X R fmt a nx wi pn x W) : W.cell? ⟨X, 1, none⟩ = some (.int .i64 x.f1) := blk_cell h.x 1
theorem Rc.x2 (h : Rc w0 w g X R fmt a nx wi pn x W) : W.cell? ⟨X, 2, none⟩ = some (.int .i64 x.f2) := blk_cell h.x 2
theorem Rc.x3 (h : Rc w0 w g X R fmt a nx wi pn x W) : W.cell? ⟨X, 3, none⟩ = some (.int .i64 x.f3) := blk_cell h.x 3
theorem Rc.x4 (h : Rc w0 w g X R fmt a nx wi pn x W) : W.cell? ⟨X, 4, none⟩ = some (.int .i64 x.f4) := blk_cell h.x 4
theorem Rc.x5 (h : Rc w0 w g X R fmt a nx wi pn x W) : W.cell? ⟨X, 5, none⟩ = some (.int .i64 x.f5) := blk_cell h.x 5
theorem Rc.x6 (h : Rc w0 w g X R fmt a nx wi pn x W) : W.cell? ⟨X, 6, none⟩ = some (.int .i64 x.f6) := blk_cell h.x 6
theorem Rc.x7 (h : Rc w0 w g X R fmt a nx wi pn x W) : W.cell? ⟨X, 7, none⟩ = some (.int .i64 x.f7) := blk_cell h.x 7
theorem Rc.x8 (h : Rc w0 w g X R fmt a nx wi pn x W) : W.cell? ⟨X, 8, none⟩ = some (.int .u8 x.f8) := blk_cell h.x 8
theorem Rc.r0 (h : Rc w0 w g X R fmt a nx wi pn x W) : W.cell? ⟨R, 0, none⟩ = some (.string ⟨#[]⟩) := blk_cell h.r 0
theorem Rc.r1 (h : Rc w0 w g X R fmt a nx wi pn x W) : W.cell? ⟨R, 1, none⟩ = some (.int .i64 0) := blk_cell h.r 1
theorem Rc.r2 (h : Rc w0 w g X R fmt a nx wi pn x W) : W.cell? ⟨R, 2, none⟩ = some (.int .i64 0) := blk_cell h.r 2
theorem Rc.r3 (h : Rc w0 w g X R fmt a nx wi pn x W) : W.cell? ⟨R, 3, none⟩ = some (.int .i64 0) := blk_cell h.r 3
theorem Rc.r4 (h : Rc w0 w g X R fmt a nx wi pn x W) : W.cell? ⟨R, 4, none⟩ = some (.int .i64 0) := blk_cell h.r 4
theorem Rc.r5 (h : Rc w0 w g X R fmt a nx wi pn x W) : W.cell? ⟨R, 5, none⟩ = some (.int .i64 0) := blk_cell h.r 5
theorem Rc.r6 (h : Rc w0 w g X R fmt a nx wi pn x W) : W.cell? ⟨R, 6, none⟩ = some (.int .i64 0) := blk_cell h.r 6
theorem Rc.r7 (h : Rc w0 w g X R fmt a nx wi pn x W) : W.cell? ⟨R, 7, none⟩ = some (.int .i64 0) := blk_cell h.r 7
theorem Rc.r8 (h : Rc w0 w g X R fmt a nx wi pn x W) : W.cell? ⟨R, 8, none⟩ = some (.int .u8 0) := blk_cell h.r 8
theorem Rc.fx (h : Rc w0 w g X R fmt a nx wi pn x W) (j : Nat) : W.frozen? ⟨X, j, none⟩ = false := blk_frozen h.x j
theorem Rc.fr (h : Rc w0 w g X R fmt a nx wi pn x W) (j : Nat) : W.frozen? ⟨R, j, none⟩ = false := blk_frozen h.r j
theorem Rc.fg (h : Rc w0 w g X R fmt a nx wi pn x W) (j : Nat) : W.frozen? ⟨g, j, none⟩ = false := blk_frozen h.is.1 j
theorem Rc.g0 (h : Rc w0 w g X R fmt a nx wi pn x W) : W.cell? ⟨g, 0, none⟩ = some (.string fmt) := blk_cell h.is.1 0
theorem Rc.g1 (h : Rc w0 w g X R fmt a nx wi pn x W) : W.cell? ⟨g, 1, none⟩ = some (.int .i64 a) := blk_cell h.is.1 1
theorem Rc.g3 (h : Rc w0 w g X R fmt a nx wi pn x W) : W.cell? ⟨g, 3, none⟩ = some (.bool wi) := blk_cell h.is.1 3
theorem Rc.g4 (h : Rc w0 w g X R fmt a nx wi pn x W) : W.cell? ⟨g, 4, none⟩ = some (.bool pn) := blk_cell h.is.1 4
theorem Rc.g1q {l : List UInt8} {q : Nat} (hq : fmt.size - l.length = q) (h : Rc w0 w g X R fmt (offI fmt l) nx wi pn x W) : W.cell? ⟨g, 1, none⟩ = some (.int .i64 (q : Int)) := by
 subst hq
 exact h.g1
theorem Rc.step {c : UInt8} {l : List UInt8} {q : Nat} (hs : Suf fmt (c :: l)) (hq : fmt.size - (c :: l).length = q) (h : Rc w0 w g X R fmt (offI fmt (c :: l)) nx wi pn x W) : Rc w0 w g X R fmt (offI fmt l) nx wi pn x (W.setCell ⟨g, 1, none⟩ (.int .i64 ((q : Int) + 1))) := by
 have hl := hs.len
 have e : (q : Int) + 1 = offI fmt l := by
  unfold offI
  simp only [List.length_cons] at hl hq ⊢
  omega
 rw [e]
 exact h.call (IsS65.set_1 h.is _) (below_set h.b (IsS65.ge h.is)) (KeepBut.set_ (KeepBut.refl _ _ _) _ _)
end
theorem skipC_some {b : UInt8} {l t : List UInt8} (h : skipC b l = some t) : l = b :: t := by
 cases l with
 | nil => cases h
 | cons c l =>
  rw [skipC_cons] at h
  by_cases e : c = b
  ·rw [if_pos e] at h
   rw [e, Option.some.inj h]
  ·rw [if_neg e] at h
   cases h
theorem r_facts {W : World} {R : Nat} (h : W.heap[R]? = some (.cells (cells35 z35) 35 (0, 0))) :
  W.cell? ⟨R, 0, none⟩ = some (.string ⟨#[]⟩) ∧ W.cell? ⟨R, 1, none⟩ = some (.int .i64 0) ∧ W.cell? ⟨R, 2, none⟩ = some (.int .i64 0) ∧ W.cell? ⟨R, 3, none⟩ = some (.int .i64 0) ∧ W.cell? ⟨R, 4, none⟩ = some (.int .i64 0) ∧ W.cell? ⟨R, 5, none⟩ = some (.int .i64 0) ∧ W.cell? ⟨R, 6, none⟩ = some (.int .i64 0) ∧ W.cell? ⟨R, 7, none⟩ = some (.int .i64 0) ∧ W.cell? ⟨R, 8, none⟩ = some (.int .u8 0) ∧
  W.frozen? ⟨R, 0, none⟩ = false ∧ W.frozen? ⟨R, 1, none⟩ = false ∧ W.frozen? ⟨R, 2, none⟩ = false ∧ W.frozen? ⟨R, 3, none⟩ = false ∧ W.frozen? ⟨R, 4, none⟩ = false ∧ W.frozen? ⟨R, 5, none⟩ = false ∧ W.frozen? ⟨R, 6, none⟩ = false ∧ W.frozen? ⟨R, 7, none⟩ = false ∧ W.frozen? ⟨R, 8, none⟩ = false :=
 ⟨blk_cell h 0, blk_cell h 1, blk_cell h 2, blk_cell h 3, blk_cell h 4, blk_cell h 5, blk_cell h 6, blk_cell h 7, blk_cell h 8, blk_frozen h 0, blk_frozen h 1, blk_frozen h 2, blk_frozen h 3, blk_frozen h 4, blk_frozen h 5, blk_frozen h 6, blk_frozen h 7, blk_frozen h 8⟩
def RConvPost (w0 w : World) (g : Nat) (fmt : ByteArray) (r : (S35 × Bool) × Int × Bool × Bool × List UInt8) (e : Ending) (w' : World) : Prop :=
 e = .returned (.tuple #[agg35 r.1.1, .bool r.1.2]) ∧ IsS65 w0 w' g fmt (offI fmt r.2.2.2.2) r.2.1 r.2.2.1 r.2.2.2.1 ∧ Below w0.heap.size w0 w' ∧ KeepBut w w' g none
structure Nr (w0 w : World) (g R : Nat) (fmt : ByteArray) (a nx : Int) (wi pn : Bool) (W : World) : Prop where
 is : IsS65 w0 W g fmt a nx wi pn
 b : Below w0.heap.size w0 W
 k : KeepBut w W g none
 ne : g ≠ R
 hR : w.heap.size ≤ R
 hw : w0.heap.size ≤ w.heap.size
theorem Nr.set {w0 w : World} {g R : Nat} {fmt : ByteArray} {a nx : Int} {wi pn : Bool} {W : World} (h : Nr w0 w g R fmt a nx wi pn W) (j : Nat) (u : Value) : Nr w0 w g R fmt a nx wi pn (W.setCell ⟨R, j, none⟩ u) :=
 ⟨IsS65.far h.is h.ne u, below_set h.b (Nat.le_trans h.hw h.hR), keep_far h.k h.hR j u, h.ne, h.hR, h.hw⟩
theorem Rc.near {w0 w : World} {g X R : Nat} {fmt : ByteArray} {a nx : Int} {wi pn : Bool} {x : S35} {W : World} (h : Rc w0 w g X R fmt a nx wi pn x W) : Nr w0 w g R fmt a nx wi pn W := ⟨h.is, h.b, h.k, h.gR, h.hR, h.hw⟩
set_option maxRecDepth 100000 in
set_option maxHeartbeats 40000000 in
theorem rconv_calls {w0 w : World} {g : Nat} {fmt : ByteArray} {l : List UInt8} {nx : Int} {wi pn : Bool} (hI : IsS65 w0 w g fmt (offI fmt l) nx wi pn) (hB : Below w0.heap.size w0 w) (hs : Suf fmt l) :
  Calls Tryz.prog 35 #[.pointer (some ⟨g, 0, none⟩)] w (RConvPost w0 w g fmt (rconvC nx wi pn l)) := by
 obtain ⟨⟨own, l1⟩, hpl⟩ : ∃ x, placeR l = x := ⟨_, rfl⟩
 obtain ⟨⟨fl, l2⟩, hfl⟩ : ∃ x, flagsC 0 l1 = x := ⟨_, rfl⟩
 obtain ⟨⟨wd, wa, nx1, wi1, pn1, l3⟩, hwd⟩ : ∃ x, widthR nx wi pn l2 = x := ⟨_, rfl⟩
 obtain ⟨⟨pr, pa, nx2, wi2, pn2, l4⟩, hpr⟩ : ∃ x, precR nx1 wi1 pn1 l3 = x := ⟨_, rfl⟩
 have hcv : rconvC nx wi pn l = endR own fl wd wa pr pa nx2 wi2 pn2 l4 := by
  unfold rconvC
  simp only [hpl, hfl, hwd, hpr]
 rw [hcv]
 have s1 : Suf fmt l1 := hs.of (by have := placeR_suf l; rwa [hpl] at this)
 have s2 : Suf fmt l2 := s1.of (by have := flagsC_suf l1 0; rwa [hfl] at this)
 have s3 : Suf fmt l3 := s2.of (by have := widthR_suf nx wi pn l2; rwa [hwd] at this)
 have s4 : Suf fmt l4 := s3.of (by have := precR_suf nx1 wi1 pn1 l3; rwa [hpr] at this)
 have HPL := Lib.hid hpl
 have HFL := Lib.hid hfl
 have HWD := Lib.hid hwd
 have HPR := Lib.hid hpr
 have rc := Rc.start hI hB ⟨⟨#[]⟩, 0, 0, -1, 0, -1, 0, 0, 0⟩
 have hglt := IsS65.lt hI
 have RC := Lib.hid rc
 unfold cells35 z35 at RC
 dsimp only at RC
 clear hpl hfl hwd hpr hcv hI hB rc
 go_enter Tryz.func35, Tryz.ntmps35
 go_upto_region 4 with (first
  | (go_at_call 61; refine (positionR RC.out.is RC.out.b hs HPL.out).mono ?_; rintro e w1 ⟨rfl, i1, b1, k1⟩; have rc1 := RC.out.call i1 b1 k1)
  | (go_at_call 62; refine (flagsR i1 b1 s1 HFL.out).mono ?_; rintro e w2 ⟨rfl, i2, b2, k2⟩; have rc2 := rc1.call i2 b2 k2; have hx2 := rc2.x2; have fx2 := rc2.fx 2; have rc3 := rc2.setX 2 (.int .i64 fl) ⟨⟨#[]⟩, 0, fl, -1, 0, -1, 0, 0, 0⟩ rfl))
 clear i1 i2 b1 b2 k1 k2 rc1 rc2 hx2 fx2 RC HPL HFL
 obtain ⟨X, hX⟩ : ∃ X, w.heap.size + 1 = X := ⟨_, rfl⟩
 obtain ⟨R, hR⟩ : ∃ R, w.heap.size = R := ⟨_, rfl⟩
 rw [hX, hR] at rc3 ⊢
 clear hX hR
 obtain ⟨W3, hW3⟩ : ∃ W, w2.setCell ⟨X, 2, none⟩ (.int .i64 fl) = W := ⟨_, rfl⟩
 rw [hW3] at rc3 ⊢
 clear hW3
 obtain ⟨db, hdb⟩ : ∃ x, (skipC 42 l2).isSome = x := ⟨_, rfl⟩
 have HDB := Lib.hid hdb
 clear hdb
 go_upto_if 15 with (go_at_call 63; refine (isR 42 rc3.is rc3.b s2 HDB.out).mono ?_; rintro e w4 ⟨rfl, i4, b4, k4⟩; have rc4 := rc3.call i4 b4 k4)
 clear i4 b4 k4 rc3
 go_cut [15] from 6 to 37 (fun s15 wc => Rc w0 w g X R fmt (offI fmt l3) nx1 wi1 pn1 ⟨⟨#[]⟩, 0, fl, wd, wa, -1, 0, 0, 0⟩ wc)
 case first =>
  as_aux_lemma =>
   obtain ⟨q, hq⟩ : ∃ q, fmt.size - l2.length = q := ⟨_, rfl⟩
   have hqb : (q : Int) ≤ 2000 := by have := s2.z; omega
   have hq0 : (0 : Int) ≤ (q : Int) := Int.natCast_nonneg q
   have HQ := Lib.hid hq
   clear hq
   cases hk : skipC 42 l2 with
   | some t =>
    obtain rfl : db = true := by rw [← HDB.out, hk]; rfl
    have hl2 := skipC_some hk
    subst hl2
    obtain ⟨⟨p, u⟩, hp⟩ : ∃ x, placeR t = x := ⟨_, rfl⟩
    obtain ⟨⟨ar, nx', wi', pn'⟩, ha⟩ : ∃ x, argR nx wi pn p = x := ⟨_, rfl⟩
    have hw := HWD.out
    unfold widthR at hw
    rw [hk] at hw
    simp only [hp, ha, Prod.mk.injEq] at hw
    obtain ⟨rfl, rfl, rfl, rfl, rfl, rfl⟩ := hw
    have st1 := s2.tail
    have HP := Lib.hid hp
    have HA := Lib.hid ha
    have hg4 := rc4.g1q HQ.out
    have fg4 := rc4.fg 1
    have rc5 := rc4.step s2 HQ.out
    clear hk hp ha HWD HPR HDB
    go_wp2_with (first
     | (go_at_call 61; refine (positionR rc5.is rc5.b st1 HP.out).mono ?_; rintro e w6 ⟨rfl, i6, b6, k6⟩; have rc6 := rc5.call i6 b6 k6)
     | (go_at_call 64; refine (argumentR rc6.is rc6.b HA.out).mono ?_; rintro e w7 ⟨rfl, i7, b7, k7⟩; have rc7 := rc6.call i7 b7 k7; have hx4 := rc7.x4; have fx4 := rc7.fx 4; have rc8 := rc7.setX 4 (.int .i64 ar) ⟨⟨#[]⟩, 0, fl, -1, ar, -1, 0, 0, 0⟩ rfl))
    go_meet
    case rel => exact rc8
   | none =>
    obtain ⟨⟨n, u⟩, hn⟩ : ∃ x, numC 99999 0 l2 = x := ⟨_, rfl⟩
    obtain ⟨k, hkk⟩ : ∃ k, l2.length - u.length = k := ⟨_, rfl⟩
    obtain rfl : db = false := by rw [← HDB.out, hk]; rfl
    have hw := HWD.out
    unfold widthR at hw
    rw [hk] at hw
    have hz := numC_taken 99999 0 l2
    rw [hn] at hz
    dsimp only at hz
    rw [hkk] at hz
    have HN := Lib.hid hn
    have HKK := Lib.hid hkk
    cases hd : isDig (hdI l2)
    ·rw [hd] at hz
     simp only [hn, hd, Prod.mk.injEq] at hw
     obtain ⟨rfl, rfl, rfl, rfl, rfl, rfl⟩ := hw
     obtain rfl : k = 0 := hz.mpr rfl
     clear hk hn hkk hz hd HWD HPR HDB
     go_wp2_with (first
      | (go_at_call 65; refine (digitsR rc4.is rc4.b s2 HN.out HKK.out).mono ?_; rintro e w5 ⟨rfl, i5, b5, k5⟩; have rc5 := rc4.call i5 b5 k5))
     go_meet
     case rel => exact rc5
    ·rw [hd] at hz
     simp only [hn, hd, if_true, Prod.mk.injEq] at hw
     obtain ⟨rfl, rfl, rfl, rfl, rfl, rfl⟩ := hw
     have hk1 : (0 : Int) < (k : Int) := by
      have : ¬ k = 0 := fun e => absurd (hz.mp e) (by decide)
      omega
     clear hk hn hkk hz hd HWD HPR HDB
     go_wp2_with (first
      | (go_at_call 65; refine (digitsR rc4.is rc4.b s2 HN.out HKK.out).mono ?_; rintro e w5 ⟨rfl, i5, b5, k5⟩; have rc5 := rc4.call i5 b5 k5; have hx3 := rc5.x3; have fx3 := rc5.fx 3; have rc6 := rc5.setX 3 (.int .i64 n) ⟨⟨#[]⟩, 0, fl, n, 0, -1, 0, 0, 0⟩ rfl))
     go_meet
     case rel => exact rc6
 case rest =>
  clear rc4 HWD HDB
  have rc := hcut
  clear hcut
  obtain ⟨db, hdb⟩ : ∃ x, (skipC 46 l3).isSome = x := ⟨_, rfl⟩
  have HDB := Lib.hid hdb
  clear hdb
  go_upto_if 38 with (go_at_call 63; refine (isR 46 rc.is rc.b s3 HDB.out).mono ?_; rintro e w4 ⟨rfl, i4, b4, k4⟩; have rc4 := rc.call i4 b4 k4)
  clear i4 b4 k4 rc
  go_cut [15] from 6 to 66 (fun s15 wc => Rc w0 w g X R fmt (offI fmt l4) nx2 wi2 pn2 ⟨⟨#[]⟩, 0, fl, wd, wa, pr, pa, 0, 0⟩ wc)
  case first =>
   as_aux_lemma =>
    obtain ⟨q, hq⟩ : ∃ q, fmt.size - l3.length = q := ⟨_, rfl⟩
    have hqb : (q : Int) ≤ 2000 := by have := s3.z; omega
    have hq0 : (0 : Int) ≤ (q : Int) := Int.natCast_nonneg q
    have HQ := Lib.hid hq
    clear hq
    cases hk : skipC 46 l3 with
    | none =>
     have hw := HPR.out
     unfold precR at hw
     rw [hk] at hw
     simp only [Prod.mk.injEq] at hw
     obtain ⟨rfl, rfl, rfl, rfl, rfl, rfl⟩ := hw
     obtain rfl : db = false := by rw [← HDB.out, hk]; rfl
     clear hk HPR HDB
     go_wp2_with fail
     go_meet
     case rel => exact rc4
    | some t =>
     obtain rfl : db = true := by rw [← HDB.out, hk]; rfl
     have hl3 := skipC_some hk
     subst hl3
     have st1 := s3.tail
     obtain ⟨q2, hq2⟩ : ∃ q, fmt.size - t.length = q := ⟨_, rfl⟩
     have hqb2 : (q2 : Int) ≤ 2000 := by have := s3.z; omega
     have hq02 : (0 : Int) ≤ (q2 : Int) := Int.natCast_nonneg q2
     have HQ2 := Lib.hid hq2
     clear hq2
     cases hk2 : skipC 42 t with
     | some u =>
      have hl4 := skipC_some hk2
      subst hl4
      have st2 := st1.tail
      obtain ⟨⟨p, v⟩, hp⟩ : ∃ x, placeR u = x := ⟨_, rfl⟩
      obtain ⟨⟨ar, nx', wi', pn'⟩, ha⟩ : ∃ x, argR nx1 wi1 pn1 p = x := ⟨_, rfl⟩
      have hw := HPR.out
      unfold precR at hw
      rw [hk] at hw
      dsimp only at hw
      rw [hk2] at hw
      simp only [hp, ha, Prod.mk.injEq] at hw
      obtain ⟨rfl, rfl, rfl, rfl, rfl, rfl⟩ := hw
      have HK2 := Lib.hid (show (skipC 42 (42 :: u)).isSome = true from by rw [hk2]; rfl)
      have HP := Lib.hid hp
      have HA := Lib.hid ha
      clear hk hk2 hp ha HPR HDB
      have hg4 := rc4.g1q HQ.out
      have fg4 := rc4.fg 1
      have rc5 := rc4.step s3 HQ.out
      go_wp2_with (first
       | (go_at_call 63; refine (isR 42 rc5.is rc5.b st1 HK2.out).mono ?_; rintro e w6 ⟨rfl, i6, b6, k6⟩; have rc6 := rc5.call i6 b6 k6; have hg6 := rc6.g1q HQ2.out; have fg6 := rc6.fg 1; have rc7 := rc6.step st1 HQ2.out)
       | (go_at_call 61; refine (positionR rc7.is rc7.b st2 HP.out).mono ?_; rintro e w8 ⟨rfl, i8, b8, k8⟩; have rc8 := rc7.call i8 b8 k8)
       | (go_at_call 64; refine (argumentR rc8.is rc8.b HA.out).mono ?_; rintro e w9 ⟨rfl, i9, b9, k9⟩; have rc9 := rc8.call i9 b9 k9; have hx6 := rc9.x6; have fx6 := rc9.fx 6; have rcA := rc9.setX 6 (.int .i64 ar) ⟨⟨#[]⟩, 0, fl, wd, wa, -1, ar, 0, 0⟩ rfl))
      go_meet
      case rel => exact rcA
     | none =>
      obtain ⟨⟨n, u⟩, hn⟩ : ∃ x, numC 99999 0 t = x := ⟨_, rfl⟩
      have hw := HPR.out
      unfold precR at hw
      rw [hk] at hw
      dsimp only at hw
      rw [hk2] at hw
      simp only [hn, Prod.mk.injEq] at hw
      obtain ⟨rfl, rfl, rfl, rfl, rfl, rfl⟩ := hw
      have HK2 := Lib.hid (show (skipC 42 t).isSome = false from by rw [hk2]; rfl)
      have HN := Lib.hid hn
      clear hk hk2 hn HPR HDB
      have hg4 := rc4.g1q HQ.out
      have fg4 := rc4.fg 1
      have rc5 := rc4.step s3 HQ.out
      go_wp2_with (first
       | (go_at_call 63; refine (isR 42 rc5.is rc5.b st1 HK2.out).mono ?_; rintro e w6 ⟨rfl, i6, b6, k6⟩; have rc6 := rc5.call i6 b6 k6)
       | (go_at_call 65; refine (digitsR rc6.is rc6.b st1 HN.out rfl).mono ?_; rintro e w7 ⟨rfl, i7, b7, k7⟩; have rc7 := rc6.call i7 b7 k7; have hx5 := rc7.x5; have fx5 := rc7.fx 5; have rc8 := rc7.setX 5 (.int .i64 n) ⟨⟨#[]⟩, 0, fl, wd, wa, n, 0, 0, 0⟩ rfl))
      go_meet
      case rel => exact rc8
  case rest =>
   clear rc4 HPR HDB
   have rc := hcut
   clear hcut
   obtain ⟨⟨ln, l5⟩, hln⟩ : ∃ x, lenC l4 = x := ⟨_, rfl⟩
   have s5 : Suf fmt l5 := s4.of (by have := lenC_suf l4; rwa [hln] at this)
   have HL := Lib.hid hln
   obtain ⟨q, hq⟩ : ∃ q, fmt.size - l5.length = q := ⟨_, rfl⟩
   have hqb : (q : Int) ≤ 2000 := by have := s5.z; omega
   have hq0 : (0 : Int) ≤ (q : Int) := Int.natCast_nonneg q
   have HQ := Lib.hid hq
   clear hq hln
   go_upto_region 17 with (go_at_call 66; refine (lengthR rc.is rc.b s4 HL.out).mono ?_; rintro e w4 ⟨rfl, i4, b4, k4⟩; have rc4 := rc.call i4 b4 k4; have hx7 := rc4.x7; have fx7 := rc4.fx 7; have rc5 := rc4.setX 7 (.int .i64 ln) ⟨⟨#[]⟩, 0, fl, wd, wa, pr, pa, ln, 0⟩ rfl)
   clear i4 b4 k4 rc rc4 hx7 fx7
   obtain ⟨W5, hW5⟩ : ∃ W, w4.setCell ⟨X, 7, none⟩ (.int .i64 ln) = W := ⟨_, rfl⟩
   rw [hW5] at rc5 ⊢
   clear hW5
   have hg0 := rc5.g0
   have hg1 := rc5.g1q HQ.out
   cases l5 with
   | nil =>
    have HE := Lib.hid (show endR own fl wd wa pr pa nx2 wi2 pn2 l4 = ((⟨⟨#[]⟩, 0, fl, wd, wa, pr, pa, ln, 0⟩, false), nx2, wi2, pn2, []) from by unfold endR; rw [HL.out])
    have hge : (fmt.size : Int) ≤ (q : Int) := by have := HQ.out; simp only [List.length_nil] at this; omega
    go_quiet (fail)
    have rc6 := rc5.drewN nq
    generalize W5.drewN nq = W6 at rc6 ⊢
    have hx0 := rc6.x0
    have hx1 := rc6.x1
    have hx2 := rc6.x2
    have hx3 := rc6.x3
    have hx4 := rc6.x4
    have hx5 := rc6.x5
    have hx6 := rc6.x6
    have hx7 := rc6.x7
    have hx8 := rc6.x8
    have hr0 := rc6.r0
    have hr1 := rc6.r1
    have hr2 := rc6.r2
    have hr3 := rc6.r3
    have hr4 := rc6.r4
    have hr5 := rc6.r5
    have hr6 := rc6.r6
    have hr7 := rc6.r7
    have hr8 := rc6.r8
    have hfr0 := rc6.fr 0
    have hfr1 := rc6.fr 1
    have hfr2 := rc6.fr 2
    have hfr3 := rc6.fr 3
    have hfr4 := rc6.fr 4
    have hfr5 := rc6.fr 5
    have hfr6 := rc6.fr 6
    have hfr7 := rc6.fr 7
    have hfr8 := rc6.fr 8
    clear hg0 hg1 rc5
    go_wp2
    rw [HE.out]
    refine bodyPost_ret (v := .tuple #[.agg #[.string ⟨#[]⟩, .int .i64 0, .int .i64 fl, .int .i64 wd, .int .i64 wa, .int .i64 pr, .int .i64 pa, .int .i64 ln, .int .u8 0], .bool false]) (by simp [results, Tryz.results35, go_sem, hr0, hr1, hr2, hr3, hr4, hr5, hr6, hr7, hr8]) rfl ?_
    have nr := (((((((((rc6.near.set 0 (.string ⟨#[]⟩)).set 1 (.int .i64 0)).set 2 (.int .i64 fl)).set 3 (.int .i64 wd)).set 4 (.int .i64 wa)).set 5 (.int .i64 pr)).set 6 (.int .i64 pa)).set 7 (.int .i64 ln)).set 8 (.int .u8 0))
    exact ⟨rfl, nr.is, nr.b, nr.k⟩
   | cons c t =>
    have hlt : q < fmt.size := by have := HQ.out; have := s5.len; simp only [List.length_cons] at *; omega
    have hlt2 : (q : Int) < (fmt.size : Int) := by omega
    have hcb : fmt[q]'hlt = c := by
     have h1 := s5.at_
     rw [HQ.out] at h1
     unfold bt at h1
     rw [Int.toNat_natCast, dif_pos hlt] at h1
     exact UInt8.toNat_inj.1 (by omega)
    have st1 := s5.tail
    obtain ⟨⟨ar, nx3, wi3, pn3⟩, ha⟩ : ∃ x, argR nx2 wi2 pn2 own = x := ⟨_, rfl⟩
    obtain ⟨fb, hfb⟩ : ∃ b, rfitsC ⟨⟨#[]⟩, ar, fl, wd, wa, pr, pa, ln, (c.toNat : Int)⟩ = b := ⟨_, rfl⟩
    have HE := Lib.hid (show endR own fl wd wa pr pa nx2 wi2 pn2 l4 = ((⟨⟨#[]⟩, ar, fl, wd, wa, pr, pa, ln, (c.toNat : Int)⟩, fb && !(wi3 && pn3)), nx3, wi3, pn3, t) from by
     unfold endR
     rw [HL.out]
     dsimp only
     rw [ha]
     dsimp only
     rw [hfb])
    have HA := Lib.hid ha
    have hff := fun W => fitsR hfb W
    unfold agg35 at hff
    dsimp only at hff
    have HF := Lib.hid hff
    clear hff
    clear ha hfb
    go_quiet (fail)
    have rc6 := rc5.drewN nq
    generalize W5.drewN nq = W6 at rc6 ⊢
    clear hg0 hg1 rc5
    have hg0 := rc6.g0
    have hg1 := rc6.g1q HQ.out
    go_upto_region 19 with fail
    go_still_tail 10, (by kernel_rfl)
    change wpList _ _ _ _ _ W6.drew
    have rc7 := rc6.drew
    generalize W6.drew = W7 at rc7 ⊢
    clear rc6 hg0 hg1
    have hx8 := rc7.x8
    have fx8 := rc7.fx 8
    have rc8 := rc7.setX 8 (.int .u8 (c.toNat : Int)) ⟨⟨#[]⟩, 0, fl, wd, wa, pr, pa, ln, (c.toNat : Int)⟩ rfl
    have hg8 := rc8.g1q HQ.out
    have fg8 := rc8.fg 1
    have rc9 := rc8.step s5 HQ.out
    go_upto_region 22 with (go_at_call 64; refine (argumentR rc9.is rc9.b HA.out).mono ?_; rintro e wA ⟨rfl, iA, bA, kA⟩; have rcA := rc9.call iA bA kA; have hxA := rcA.x1; have fxA := rcA.fx 1; have rcB := rcA.setX 1 (.int .i64 ar) ⟨⟨#[]⟩, ar, fl, wd, wa, pr, pa, ln, (c.toNat : Int)⟩ rfl)
    clear rc7 rc8 rc9 rcA iA bA kA hx8 fx8 hg8 fg8 hxA fxA
    obtain ⟨WB, hWB⟩ : ∃ W, wA.setCell ⟨X, 1, none⟩ (.int .i64 ar) = W := ⟨_, rfl⟩
    rw [hWB] at rcB ⊢
    clear hWB
    have hx0 := rcB.x0
    have hx1 := rcB.x1
    have hx2 := rcB.x2
    have hx3 := rcB.x3
    have hx4 := rcB.x4
    have hx5 := rcB.x5
    have hx6 := rcB.x6
    have hx7 := rcB.x7
    have hx8 := rcB.x8
    have hg3 := rcB.g3
    have hg4 := rcB.g4
    have hRX : ¬ R = X := rcB.rx
    have hXR : ¬ X = R := fun h => rcB.rx h.symm
    have hRg : ¬ R = g := fun h => rcB.gR h.symm
    have hgR : ¬ g = R := rcB.gR
    dsimp only at hx0 hx1 hx2 hx3 hx4 hx5 hx6 hx7 hx8
    have RB := Lib.hid rcB
    have RR := Lib.hid rcB.r
    obtain ⟨hr0, hr1, hr2, hr3, hr4, hr5, hr6, hr7, hr8, hfr0, hfr1, hfr2, hfr3, hfr4, hfr5, hfr6, hfr7, hfr8⟩ := r_facts rcB.r
    clear rcB
    cases fb
    ·refine wp_region_held_drew (S := fun w' => w'.cell? ⟨X, 0, none⟩ = some (.string ⟨#[]⟩) ∧ w'.cell? ⟨X, 1, none⟩ = some (.int .i64 ar) ∧ w'.cell? ⟨X, 2, none⟩ = some (.int .i64 fl) ∧ w'.cell? ⟨X, 3, none⟩ = some (.int .i64 wd) ∧ w'.cell? ⟨X, 4, none⟩ = some (.int .i64 wa) ∧ w'.cell? ⟨X, 5, none⟩ = some (.int .i64 pr) ∧ w'.cell? ⟨X, 6, none⟩ = some (.int .i64 pa) ∧ w'.cell? ⟨X, 7, none⟩ = some (.int .i64 ln) ∧ w'.cell? ⟨X, 8, none⟩ = some (.int .u8 (c.toNat : Int))) (by kernel_rfl) ⟨hx0, hx1, hx2, hx3, hx4, hx5, hx6, hx7, hx8⟩ (fun hHeld => ?_)
     refine wpAnyH_take (i := 0) (v := .agg #[.string ⟨#[]⟩, .int .i64 ar, .int .i64 fl, .int .i64 wd, .int .i64 wa, .int .i64 pr, .int .i64 pa, .int .i64 ln, .int .u8 (c.toNat : Int)]) rfl (by kernel_rfl) (by kernel_rfl) (by kernel_rfl) (fun _ _ _ h => h) (Or.inl ⟨rfl, ?_⟩) (by assumption) ?_
     ·(intro w' hS; obtain ⟨s0, s1, s2, s3, s4, s5, s6, s7, s8⟩ := hS; go_simp)
     try simp only [Act.put, List.getElem_toArray, List.getElem_cons_zero, List.getElem_cons_succ, List.setIfInBounds_toArray, List.set_cons_zero, List.set_cons_succ]
     refine wpAnyH_take (i := 1) (v := .agg #[.string ⟨#[]⟩, .int .i64 ar, .int .i64 fl, .int .i64 wd, .int .i64 wa, .int .i64 pr, .int .i64 pa, .int .i64 ln, .int .u8 (c.toNat : Int)]) rfl (by kernel_rfl) (by kernel_rfl) (by kernel_rfl) (fun _ _ _ h => h) (Or.inl ⟨rfl, ?_⟩) (by assumption) ?_
     ·(intro w' hS; obtain ⟨s0, s1, s2, s3, s4, s5, s6, s7, s8⟩ := hS; go_simp)
     try simp only [Act.put, List.getElem_toArray, List.getElem_cons_zero, List.getElem_cons_succ, List.setIfInBounds_toArray, List.set_cons_zero, List.set_cons_succ]
     refine wpAnyH_ready (rs := [2]) (by kernel_rfl) (by simp) ?_
     refine AllReadyH.cons rfl (fun K hK => ?_) AllReadyH.nil
     go_simp
     refine (HF.out _).mono ?_
     rintro e wC ⟨rfl, bC⟩
     refine hK.out _ _ ⟨pw_cell_below bC hx0, pw_cell_below bC hx1, pw_cell_below bC hx2, pw_cell_below bC hx3, pw_cell_below bC hx4, pw_cell_below bC hx5, pw_cell_below bC hx6, pw_cell_below bC hx7, pw_cell_below bC hx8⟩ (fun hHeld2 => ?_)
     clear hK K hHeld
     try simp only [Act.put, List.getElem_toArray, List.getElem_cons_zero, List.getElem_cons_succ, List.setIfInBounds_toArray, List.set_cons_zero, List.set_cons_succ]
     refine wpAnyH_take (i := 3) (v := .bool false) rfl (by kernel_rfl) (by kernel_rfl) (by kernel_rfl) (fun _ _ _ h => h) (Or.inl ⟨rfl, ?_⟩) (by assumption) ?_
     ·(intro w' hS; clear hS; go_simp)
     try simp only [Act.put, List.getElem_toArray, List.getElem_cons_zero, List.getElem_cons_succ, List.setIfInBounds_toArray, List.set_cons_zero, List.set_cons_succ]
     refine wpAnyH_take (i := 4) (v := undef) rfl (by kernel_rfl) (by kernel_rfl) (by kernel_rfl) (fun _ _ _ h => h) (Or.inr ⟨rfl, rfl⟩) (by assumption) ?_
     try simp only [Act.put, List.getElem_toArray, List.getElem_cons_zero, List.getElem_cons_succ, List.setIfInBounds_toArray, List.set_cons_zero, List.set_cons_succ]
     refine wpAnyH_take (i := 5) (v := undef) rfl (by kernel_rfl) (by kernel_rfl) (by kernel_rfl) (fun _ _ _ h => h) (Or.inr ⟨rfl, rfl⟩) (by assumption) ?_
     try simp only [Act.put, List.getElem_toArray, List.getElem_cons_zero, List.getElem_cons_succ, List.setIfInBounds_toArray, List.set_cons_zero, List.set_cons_succ]
     refine wpAnyH_take (i := 6) (v := undef) rfl (by kernel_rfl) (by kernel_rfl) (by kernel_rfl) (fun _ _ _ h => h) (Or.inr ⟨rfl, rfl⟩) (by assumption) ?_
     try simp only [Act.put, List.getElem_toArray, List.getElem_cons_zero, List.getElem_cons_succ, List.setIfInBounds_toArray, List.set_cons_zero, List.set_cons_succ]
     refine wpAnyH_take (i := 7) (v := undef) rfl (by kernel_rfl) (by kernel_rfl) (by kernel_rfl) (fun _ _ _ h => h) (Or.inr ⟨rfl, rfl⟩) (by assumption) ?_
     try simp only [Act.put, List.getElem_toArray, List.getElem_cons_zero, List.getElem_cons_succ, List.setIfInBounds_toArray, List.set_cons_zero, List.set_cons_succ]
     refine wpAnyH_take (i := 8) (v := undef) rfl (by kernel_rfl) (by kernel_rfl) (by kernel_rfl) (fun _ _ _ h => h) (Or.inr ⟨rfl, rfl⟩) (by assumption) ?_
     try simp only [Act.put, List.getElem_toArray, List.getElem_cons_zero, List.getElem_cons_succ, List.setIfInBounds_toArray, List.set_cons_zero, List.set_cons_succ]
     refine wpAnyH_take (i := 9) (v := undef) rfl (by kernel_rfl) (by kernel_rfl) (by kernel_rfl) (fun _ _ _ h => h) (Or.inr ⟨rfl, rfl⟩) (by assumption) ?_
     try simp only [Act.put, List.getElem_toArray, List.getElem_cons_zero, List.getElem_cons_succ, List.setIfInBounds_toArray, List.set_cons_zero, List.set_cons_succ]
     refine wpAnyH_take (i := 10) (v := undef) rfl (by kernel_rfl) (by kernel_rfl) (by kernel_rfl) (fun _ _ _ h => h) (Or.inr ⟨rfl, rfl⟩) (by assumption) ?_
     try simp only [Act.put, List.getElem_toArray, List.getElem_cons_zero, List.getElem_cons_succ, List.setIfInBounds_toArray, List.set_cons_zero, List.set_cons_succ]
     refine wpAnyH_take (i := 11) (v := undef) rfl (by kernel_rfl) (by kernel_rfl) (by kernel_rfl) (fun _ _ _ h => h) (Or.inr ⟨rfl, rfl⟩) (by assumption) ?_
     try simp only [Act.put, List.getElem_toArray, List.getElem_cons_zero, List.getElem_cons_succ, List.setIfInBounds_toArray, List.set_cons_zero, List.set_cons_succ]
     refine wpAnyH_take (i := 12) (v := undef) rfl (by kernel_rfl) (by kernel_rfl) (by kernel_rfl) (fun _ _ _ h => h) (Or.inr ⟨rfl, rfl⟩) (by assumption) ?_
     try simp only [Act.put, List.getElem_toArray, List.getElem_cons_zero, List.getElem_cons_succ, List.setIfInBounds_toArray, List.set_cons_zero, List.set_cons_succ]
     refine wpAnyH_take (i := 13) (v := undef) rfl (by kernel_rfl) (by kernel_rfl) (by kernel_rfl) (fun _ _ _ h => h) (Or.inr ⟨rfl, rfl⟩) (by assumption) ?_
     try simp only [Act.put, List.getElem_toArray, List.getElem_cons_zero, List.getElem_cons_succ, List.setIfInBounds_toArray, List.set_cons_zero, List.set_cons_succ]
     refine wpAnyH_take (i := 14) (v := undef) rfl (by kernel_rfl) (by kernel_rfl) (by kernel_rfl) (fun _ _ _ h => h) (Or.inr ⟨rfl, rfl⟩) (by assumption) ?_
     try simp only [Act.put, List.getElem_toArray, List.getElem_cons_zero, List.getElem_cons_succ, List.setIfInBounds_toArray, List.set_cons_zero, List.set_cons_succ]
     refine wpAnyH_take (i := 15) (v := .bool false) rfl (by kernel_rfl) (by kernel_rfl) (by kernel_rfl) (fun _ _ _ h => h) (Or.inl ⟨rfl, ?_⟩) (by assumption) ?_
     ·(intro w' hS; clear hS; go_simp)
     try simp only [Act.put, List.getElem_toArray, List.getElem_cons_zero, List.getElem_cons_succ, List.setIfInBounds_toArray, List.set_cons_zero, List.set_cons_succ]
     obtain ⟨q0, q1, q2, q3, q4, q5, q6, q7, q8, f0, f1, f2, f3, f4, f5, f6, f7, f8⟩ := r_facts ((bC.block _ (blk_lt RR.out)).trans RR.out)
     have rcC := RB.out.below ((below_drew (Below.refl _ _)).trans (bC.mono (Nat.le_refl _)))
     have RCC := Lib.hid rcC
     obtain ⟨s0, s1, s2, s3, s4, s5, s6, s7, s8⟩ := hHeld2
     clear rcC bC
     refine wpAnyH_ready (rs := [16]) (by kernel_rfl) (by simp) ?_
     refine AllReadyH.cons rfl (fun K hK => ?_) AllReadyH.nil
     go_simp
     refine hK.out _ _ ⟨?_, ?_, ?_, ?_, ?_, ?_, ?_, ?_, ?_⟩ (fun hHeld3 => ?_)
     ·(repeat rw [World.cell?_setCell_far _ ⟨R, _, none⟩ ⟨X, _, none⟩ _ hRX]); exact s0
     ·(repeat rw [World.cell?_setCell_far _ ⟨R, _, none⟩ ⟨X, _, none⟩ _ hRX]); exact s1
     ·(repeat rw [World.cell?_setCell_far _ ⟨R, _, none⟩ ⟨X, _, none⟩ _ hRX]); exact s2
     ·(repeat rw [World.cell?_setCell_far _ ⟨R, _, none⟩ ⟨X, _, none⟩ _ hRX]); exact s3
     ·(repeat rw [World.cell?_setCell_far _ ⟨R, _, none⟩ ⟨X, _, none⟩ _ hRX]); exact s4
     ·(repeat rw [World.cell?_setCell_far _ ⟨R, _, none⟩ ⟨X, _, none⟩ _ hRX]); exact s5
     ·(repeat rw [World.cell?_setCell_far _ ⟨R, _, none⟩ ⟨X, _, none⟩ _ hRX]); exact s6
     ·(repeat rw [World.cell?_setCell_far _ ⟨R, _, none⟩ ⟨X, _, none⟩ _ hRX]); exact s7
     ·(repeat rw [World.cell?_setCell_far _ ⟨R, _, none⟩ ⟨X, _, none⟩ _ hRX]); exact s8
     clear hK K
     try simp only [Act.put, List.getElem_toArray, List.getElem_cons_zero, List.getElem_cons_succ, List.setIfInBounds_toArray, List.set_cons_zero, List.set_cons_succ]
     refine wpAnyH_take (i := 17) (v := .bool false) rfl (by kernel_rfl) (by kernel_rfl) (by kernel_rfl) (fun _ _ _ h => h) (Or.inl ⟨rfl, ?_⟩) (by assumption) ?_
     ·(intro w' hS; clear hS; go_simp)
     try simp only [Act.put, List.getElem_toArray, List.getElem_cons_zero, List.getElem_cons_succ, List.setIfInBounds_toArray, List.set_cons_zero, List.set_cons_succ]
     refine wpAnyH_done (by kernel_rfl) ?_ _
     clear hHeld3
     go_wp2
     rw [HE.out]
     refine bodyPost_ret (v := .tuple #[.agg #[.string ⟨#[]⟩, .int .i64 ar, .int .i64 fl, .int .i64 wd, .int .i64 wa, .int .i64 pr, .int .i64 pa, .int .i64 ln, .int .u8 (c.toNat : Int)], .bool false]) (by simp [results, Tryz.results35, go_sem, *]) rfl ?_
     have nr := (((((((((RCC.out.near.set 0 (.string ⟨#[]⟩)).set 1 (.int .i64 ar)).set 2 (.int .i64 fl)).set 3 (.int .i64 wd)).set 4 (.int .i64 wa)).set 5 (.int .i64 pr)).set 6 (.int .i64 pa)).set 7 (.int .i64 ln)).set 8 (.int .u8 (c.toNat : Int)))
     exact ⟨rfl, nr.is, nr.b, nr.k⟩
    ·cases wi3
     ·refine wp_region_held_drew (S := fun w' => w'.cell? ⟨X, 0, none⟩ = some (.string ⟨#[]⟩) ∧ w'.cell? ⟨X, 1, none⟩ = some (.int .i64 ar) ∧ w'.cell? ⟨X, 2, none⟩ = some (.int .i64 fl) ∧ w'.cell? ⟨X, 3, none⟩ = some (.int .i64 wd) ∧ w'.cell? ⟨X, 4, none⟩ = some (.int .i64 wa) ∧ w'.cell? ⟨X, 5, none⟩ = some (.int .i64 pr) ∧ w'.cell? ⟨X, 6, none⟩ = some (.int .i64 pa) ∧ w'.cell? ⟨X, 7, none⟩ = some (.int .i64 ln) ∧ w'.cell? ⟨X, 8, none⟩ = some (.int .u8 (c.toNat : Int)) ∧ w'.cell? ⟨g, 3, none⟩ = some (.bool false)) (by kernel_rfl) ⟨hx0, hx1, hx2, hx3, hx4, hx5, hx6, hx7, hx8, hg3⟩ (fun hHeld => ?_)
      refine wpAnyH_take (i := 0) (v := .agg #[.string ⟨#[]⟩, .int .i64 ar, .int .i64 fl, .int .i64 wd, .int .i64 wa, .int .i64 pr, .int .i64 pa, .int .i64 ln, .int .u8 (c.toNat : Int)]) rfl (by kernel_rfl) (by kernel_rfl) (by kernel_rfl) (fun _ _ _ h => h) (Or.inl ⟨rfl, ?_⟩) (by assumption) ?_
      ·(intro w' hS; obtain ⟨s0, s1, s2, s3, s4, s5, s6, s7, s8, s9⟩ := hS; go_simp)
      try simp only [Act.put, List.getElem_toArray, List.getElem_cons_zero, List.getElem_cons_succ, List.setIfInBounds_toArray, List.set_cons_zero, List.set_cons_succ]
      refine wpAnyH_take (i := 1) (v := .agg #[.string ⟨#[]⟩, .int .i64 ar, .int .i64 fl, .int .i64 wd, .int .i64 wa, .int .i64 pr, .int .i64 pa, .int .i64 ln, .int .u8 (c.toNat : Int)]) rfl (by kernel_rfl) (by kernel_rfl) (by kernel_rfl) (fun _ _ _ h => h) (Or.inl ⟨rfl, ?_⟩) (by assumption) ?_
      ·(intro w' hS; obtain ⟨s0, s1, s2, s3, s4, s5, s6, s7, s8, s9⟩ := hS; go_simp)
      try simp only [Act.put, List.getElem_toArray, List.getElem_cons_zero, List.getElem_cons_succ, List.setIfInBounds_toArray, List.set_cons_zero, List.set_cons_succ]
      refine wpAnyH_ready (rs := [2]) (by kernel_rfl) (by simp) ?_
      refine AllReadyH.cons rfl (fun K hK => ?_) AllReadyH.nil
      go_simp
      refine (HF.out _).mono ?_
      rintro e wC ⟨rfl, bC⟩
      refine hK.out _ _ ⟨pw_cell_below bC hx0, pw_cell_below bC hx1, pw_cell_below bC hx2, pw_cell_below bC hx3, pw_cell_below bC hx4, pw_cell_below bC hx5, pw_cell_below bC hx6, pw_cell_below bC hx7, pw_cell_below bC hx8, pw_cell_below bC hg3⟩ (fun hHeld2 => ?_)
      clear hK K hHeld
      try simp only [Act.put, List.getElem_toArray, List.getElem_cons_zero, List.getElem_cons_succ, List.setIfInBounds_toArray, List.set_cons_zero, List.set_cons_succ]
      refine wpAnyH_take (i := 3) (v := .bool true) rfl (by kernel_rfl) (by kernel_rfl) (by kernel_rfl) (fun _ _ _ h => h) (Or.inl ⟨rfl, ?_⟩) (by assumption) ?_
      ·(intro w' hS; clear hS; go_simp)
      try simp only [Act.put, List.getElem_toArray, List.getElem_cons_zero, List.getElem_cons_succ, List.setIfInBounds_toArray, List.set_cons_zero, List.set_cons_succ]
      refine wpAnyH_take (i := 4) (v := .pointer (some ⟨g, 0, none⟩)) rfl (by kernel_rfl) (by kernel_rfl) (by kernel_rfl) (fun _ _ _ h => h) (Or.inl ⟨rfl, ?_⟩) (by assumption) ?_
      ·(intro w' hS; clear hS; go_simp)
      try simp only [Act.put, List.getElem_toArray, List.getElem_cons_zero, List.getElem_cons_succ, List.setIfInBounds_toArray, List.set_cons_zero, List.set_cons_succ]
      refine wpAnyH_take (i := 5) (v := .pointer (some ⟨g, 0, none⟩)) rfl (by kernel_rfl) (by kernel_rfl) (by kernel_rfl) (fun _ _ _ h => h) (Or.inl ⟨rfl, ?_⟩) (by assumption) ?_
      ·(intro w' hS; clear hS; go_simp)
      try simp only [Act.put, List.getElem_toArray, List.getElem_cons_zero, List.getElem_cons_succ, List.setIfInBounds_toArray, List.set_cons_zero, List.set_cons_succ]
      refine wpAnyH_take (i := 6) (v := .pointer (some ⟨g, 3, none⟩)) rfl (by kernel_rfl) (by kernel_rfl) (by kernel_rfl) (fun _ _ _ h => h) (Or.inl ⟨rfl, ?_⟩) (by assumption) ?_
      ·(intro w' hS; clear hS; go_simp)
      try simp only [Act.put, List.getElem_toArray, List.getElem_cons_zero, List.getElem_cons_succ, List.setIfInBounds_toArray, List.set_cons_zero, List.set_cons_succ]
      refine wpAnyH_take (i := 7) (v := .bool false) rfl (by kernel_rfl) (by kernel_rfl) (by kernel_rfl) (fun _ _ _ h => h) (Or.inl ⟨rfl, ?_⟩) (by assumption) ?_
      ·(intro w' hS; obtain ⟨s0, s1, s2, s3, s4, s5, s6, s7, s8, s9⟩ := hS; go_simp)
      try simp only [Act.put, List.getElem_toArray, List.getElem_cons_zero, List.getElem_cons_succ, List.setIfInBounds_toArray, List.set_cons_zero, List.set_cons_succ]
      refine wpAnyH_take (i := 8) (v := .bool false) rfl (by kernel_rfl) (by kernel_rfl) (by kernel_rfl) (fun _ _ _ h => h) (Or.inl ⟨rfl, ?_⟩) (by assumption) ?_
      ·(intro w' hS; clear hS; go_simp)
      try simp only [Act.put, List.getElem_toArray, List.getElem_cons_zero, List.getElem_cons_succ, List.setIfInBounds_toArray, List.set_cons_zero, List.set_cons_succ]
      refine wpAnyH_take (i := 9) (v := undef) rfl (by kernel_rfl) (by kernel_rfl) (by kernel_rfl) (fun _ _ _ h => h) (Or.inr ⟨rfl, rfl⟩) (by assumption) ?_
      try simp only [Act.put, List.getElem_toArray, List.getElem_cons_zero, List.getElem_cons_succ, List.setIfInBounds_toArray, List.set_cons_zero, List.set_cons_succ]
      refine wpAnyH_take (i := 10) (v := undef) rfl (by kernel_rfl) (by kernel_rfl) (by kernel_rfl) (fun _ _ _ h => h) (Or.inr ⟨rfl, rfl⟩) (by assumption) ?_
      try simp only [Act.put, List.getElem_toArray, List.getElem_cons_zero, List.getElem_cons_succ, List.setIfInBounds_toArray, List.set_cons_zero, List.set_cons_succ]
      refine wpAnyH_take (i := 11) (v := undef) rfl (by kernel_rfl) (by kernel_rfl) (by kernel_rfl) (fun _ _ _ h => h) (Or.inr ⟨rfl, rfl⟩) (by assumption) ?_
      try simp only [Act.put, List.getElem_toArray, List.getElem_cons_zero, List.getElem_cons_succ, List.setIfInBounds_toArray, List.set_cons_zero, List.set_cons_succ]
      refine wpAnyH_take (i := 12) (v := undef) rfl (by kernel_rfl) (by kernel_rfl) (by kernel_rfl) (fun _ _ _ h => h) (Or.inr ⟨rfl, rfl⟩) (by assumption) ?_
      try simp only [Act.put, List.getElem_toArray, List.getElem_cons_zero, List.getElem_cons_succ, List.setIfInBounds_toArray, List.set_cons_zero, List.set_cons_succ]
      refine wpAnyH_take (i := 13) (v := .bool false) rfl (by kernel_rfl) (by kernel_rfl) (by kernel_rfl) (fun _ _ _ h => h) (Or.inl ⟨rfl, ?_⟩) (by assumption) ?_
      ·(intro w' hS; clear hS; go_simp)
      try simp only [Act.put, List.getElem_toArray, List.getElem_cons_zero, List.getElem_cons_succ, List.setIfInBounds_toArray, List.set_cons_zero, List.set_cons_succ]
      refine wpAnyH_take (i := 14) (v := .bool true) rfl (by kernel_rfl) (by kernel_rfl) (by kernel_rfl) (fun _ _ _ h => h) (Or.inl ⟨rfl, ?_⟩) (by assumption) ?_
      ·(intro w' hS; clear hS; go_simp)
      try simp only [Act.put, List.getElem_toArray, List.getElem_cons_zero, List.getElem_cons_succ, List.setIfInBounds_toArray, List.set_cons_zero, List.set_cons_succ]
      refine wpAnyH_take (i := 15) (v := .bool true) rfl (by kernel_rfl) (by kernel_rfl) (by kernel_rfl) (fun _ _ _ h => h) (Or.inl ⟨rfl, ?_⟩) (by assumption) ?_
      ·(intro w' hS; clear hS; go_simp)
      try simp only [Act.put, List.getElem_toArray, List.getElem_cons_zero, List.getElem_cons_succ, List.setIfInBounds_toArray, List.set_cons_zero, List.set_cons_succ]
      obtain ⟨q0, q1, q2, q3, q4, q5, q6, q7, q8, f0, f1, f2, f3, f4, f5, f6, f7, f8⟩ := r_facts ((bC.block _ (blk_lt RR.out)).trans RR.out)
      have rcC := RB.out.below ((below_drew (Below.refl _ _)).trans (bC.mono (Nat.le_refl _)))
      have RCC := Lib.hid rcC
      obtain ⟨s0, s1, s2, s3, s4, s5, s6, s7, s8, s9⟩ := hHeld2
      clear rcC bC
      refine wpAnyH_ready (rs := [16]) (by kernel_rfl) (by simp) ?_
      refine AllReadyH.cons rfl (fun K hK => ?_) AllReadyH.nil
      go_simp
      refine hK.out _ _ ⟨?_, ?_, ?_, ?_, ?_, ?_, ?_, ?_, ?_, ?_⟩ (fun hHeld3 => ?_)
      ·(repeat rw [World.cell?_setCell_far _ ⟨R, _, none⟩ ⟨X, _, none⟩ _ hRX]); exact s0
      ·(repeat rw [World.cell?_setCell_far _ ⟨R, _, none⟩ ⟨X, _, none⟩ _ hRX]); exact s1
      ·(repeat rw [World.cell?_setCell_far _ ⟨R, _, none⟩ ⟨X, _, none⟩ _ hRX]); exact s2
      ·(repeat rw [World.cell?_setCell_far _ ⟨R, _, none⟩ ⟨X, _, none⟩ _ hRX]); exact s3
      ·(repeat rw [World.cell?_setCell_far _ ⟨R, _, none⟩ ⟨X, _, none⟩ _ hRX]); exact s4
      ·(repeat rw [World.cell?_setCell_far _ ⟨R, _, none⟩ ⟨X, _, none⟩ _ hRX]); exact s5
      ·(repeat rw [World.cell?_setCell_far _ ⟨R, _, none⟩ ⟨X, _, none⟩ _ hRX]); exact s6
      ·(repeat rw [World.cell?_setCell_far _ ⟨R, _, none⟩ ⟨X, _, none⟩ _ hRX]); exact s7
      ·(repeat rw [World.cell?_setCell_far _ ⟨R, _, none⟩ ⟨X, _, none⟩ _ hRX]); exact s8
      ·(repeat rw [World.cell?_setCell_far _ ⟨R, _, none⟩ ⟨g, _, none⟩ _ hRg]); exact s9
      clear hK K
      try simp only [Act.put, List.getElem_toArray, List.getElem_cons_zero, List.getElem_cons_succ, List.setIfInBounds_toArray, List.set_cons_zero, List.set_cons_succ]
      refine wpAnyH_take (i := 17) (v := .bool true) rfl (by kernel_rfl) (by kernel_rfl) (by kernel_rfl) (fun _ _ _ h => h) (Or.inl ⟨rfl, ?_⟩) (by assumption) ?_
      ·(intro w' hS; clear hS; go_simp)
      try simp only [Act.put, List.getElem_toArray, List.getElem_cons_zero, List.getElem_cons_succ, List.setIfInBounds_toArray, List.set_cons_zero, List.set_cons_succ]
      refine wpAnyH_done (by kernel_rfl) ?_ _
      clear hHeld3
      go_wp2
      rw [HE.out]
      refine bodyPost_ret (v := .tuple #[.agg #[.string ⟨#[]⟩, .int .i64 ar, .int .i64 fl, .int .i64 wd, .int .i64 wa, .int .i64 pr, .int .i64 pa, .int .i64 ln, .int .u8 (c.toNat : Int)], .bool true]) (by simp [results, Tryz.results35, go_sem, *]) rfl ?_
      have nr := (((((((((RCC.out.near.set 0 (.string ⟨#[]⟩)).set 1 (.int .i64 ar)).set 2 (.int .i64 fl)).set 3 (.int .i64 wd)).set 4 (.int .i64 wa)).set 5 (.int .i64 pr)).set 6 (.int .i64 pa)).set 7 (.int .i64 ln)).set 8 (.int .u8 (c.toNat : Int)))
      exact ⟨rfl, nr.is, nr.b, nr.k⟩
     ·cases pn3
      ·refine wp_region_held_drew (S := fun w' => w'.cell? ⟨X, 0, none⟩ = some (.string ⟨#[]⟩) ∧ w'.cell? ⟨X, 1, none⟩ = some (.int .i64 ar) ∧ w'.cell? ⟨X, 2, none⟩ = some (.int .i64 fl) ∧ w'.cell? ⟨X, 3, none⟩ = some (.int .i64 wd) ∧ w'.cell? ⟨X, 4, none⟩ = some (.int .i64 wa) ∧ w'.cell? ⟨X, 5, none⟩ = some (.int .i64 pr) ∧ w'.cell? ⟨X, 6, none⟩ = some (.int .i64 pa) ∧ w'.cell? ⟨X, 7, none⟩ = some (.int .i64 ln) ∧ w'.cell? ⟨X, 8, none⟩ = some (.int .u8 (c.toNat : Int)) ∧ w'.cell? ⟨g, 3, none⟩ = some (.bool true) ∧ w'.cell? ⟨g, 4, none⟩ = some (.bool false)) (by kernel_rfl) ⟨hx0, hx1, hx2, hx3, hx4, hx5, hx6, hx7, hx8, hg3, hg4⟩ (fun hHeld => ?_)
       refine wpAnyH_take (i := 0) (v := .agg #[.string ⟨#[]⟩, .int .i64 ar, .int .i64 fl, .int .i64 wd, .int .i64 wa, .int .i64 pr, .int .i64 pa, .int .i64 ln, .int .u8 (c.toNat : Int)]) rfl (by kernel_rfl) (by kernel_rfl) (by kernel_rfl) (fun _ _ _ h => h) (Or.inl ⟨rfl, ?_⟩) (by assumption) ?_
       ·(intro w' hS; obtain ⟨s0, s1, s2, s3, s4, s5, s6, s7, s8, s9, s10⟩ := hS; go_simp)
       try simp only [Act.put, List.getElem_toArray, List.getElem_cons_zero, List.getElem_cons_succ, List.setIfInBounds_toArray, List.set_cons_zero, List.set_cons_succ]
       refine wpAnyH_take (i := 1) (v := .agg #[.string ⟨#[]⟩, .int .i64 ar, .int .i64 fl, .int .i64 wd, .int .i64 wa, .int .i64 pr, .int .i64 pa, .int .i64 ln, .int .u8 (c.toNat : Int)]) rfl (by kernel_rfl) (by kernel_rfl) (by kernel_rfl) (fun _ _ _ h => h) (Or.inl ⟨rfl, ?_⟩) (by assumption) ?_
       ·(intro w' hS; obtain ⟨s0, s1, s2, s3, s4, s5, s6, s7, s8, s9, s10⟩ := hS; go_simp)
       try simp only [Act.put, List.getElem_toArray, List.getElem_cons_zero, List.getElem_cons_succ, List.setIfInBounds_toArray, List.set_cons_zero, List.set_cons_succ]
       refine wpAnyH_ready (rs := [2]) (by kernel_rfl) (by simp) ?_
       refine AllReadyH.cons rfl (fun K hK => ?_) AllReadyH.nil
       go_simp
       refine (HF.out _).mono ?_
       rintro e wC ⟨rfl, bC⟩
       refine hK.out _ _ ⟨pw_cell_below bC hx0, pw_cell_below bC hx1, pw_cell_below bC hx2, pw_cell_below bC hx3, pw_cell_below bC hx4, pw_cell_below bC hx5, pw_cell_below bC hx6, pw_cell_below bC hx7, pw_cell_below bC hx8, pw_cell_below bC hg3, pw_cell_below bC hg4⟩ (fun hHeld2 => ?_)
       clear hK K hHeld
       try simp only [Act.put, List.getElem_toArray, List.getElem_cons_zero, List.getElem_cons_succ, List.setIfInBounds_toArray, List.set_cons_zero, List.set_cons_succ]
       refine wpAnyH_take (i := 3) (v := .bool true) rfl (by kernel_rfl) (by kernel_rfl) (by kernel_rfl) (fun _ _ _ h => h) (Or.inl ⟨rfl, ?_⟩) (by assumption) ?_
       ·(intro w' hS; clear hS; go_simp)
       try simp only [Act.put, List.getElem_toArray, List.getElem_cons_zero, List.getElem_cons_succ, List.setIfInBounds_toArray, List.set_cons_zero, List.set_cons_succ]
       refine wpAnyH_take (i := 4) (v := .pointer (some ⟨g, 0, none⟩)) rfl (by kernel_rfl) (by kernel_rfl) (by kernel_rfl) (fun _ _ _ h => h) (Or.inl ⟨rfl, ?_⟩) (by assumption) ?_
       ·(intro w' hS; clear hS; go_simp)
       try simp only [Act.put, List.getElem_toArray, List.getElem_cons_zero, List.getElem_cons_succ, List.setIfInBounds_toArray, List.set_cons_zero, List.set_cons_succ]
       refine wpAnyH_take (i := 5) (v := .pointer (some ⟨g, 0, none⟩)) rfl (by kernel_rfl) (by kernel_rfl) (by kernel_rfl) (fun _ _ _ h => h) (Or.inl ⟨rfl, ?_⟩) (by assumption) ?_
       ·(intro w' hS; clear hS; go_simp)
       try simp only [Act.put, List.getElem_toArray, List.getElem_cons_zero, List.getElem_cons_succ, List.setIfInBounds_toArray, List.set_cons_zero, List.set_cons_succ]
       refine wpAnyH_take (i := 6) (v := .pointer (some ⟨g, 3, none⟩)) rfl (by kernel_rfl) (by kernel_rfl) (by kernel_rfl) (fun _ _ _ h => h) (Or.inl ⟨rfl, ?_⟩) (by assumption) ?_
       ·(intro w' hS; clear hS; go_simp)
       try simp only [Act.put, List.getElem_toArray, List.getElem_cons_zero, List.getElem_cons_succ, List.setIfInBounds_toArray, List.set_cons_zero, List.set_cons_succ]
       refine wpAnyH_take (i := 7) (v := .bool true) rfl (by kernel_rfl) (by kernel_rfl) (by kernel_rfl) (fun _ _ _ h => h) (Or.inl ⟨rfl, ?_⟩) (by assumption) ?_
       ·(intro w' hS; obtain ⟨s0, s1, s2, s3, s4, s5, s6, s7, s8, s9, s10⟩ := hS; go_simp)
       try simp only [Act.put, List.getElem_toArray, List.getElem_cons_zero, List.getElem_cons_succ, List.setIfInBounds_toArray, List.set_cons_zero, List.set_cons_succ]
       refine wpAnyH_take (i := 8) (v := .bool true) rfl (by kernel_rfl) (by kernel_rfl) (by kernel_rfl) (fun _ _ _ h => h) (Or.inl ⟨rfl, ?_⟩) (by assumption) ?_
       ·(intro w' hS; clear hS; go_simp)
       try simp only [Act.put, List.getElem_toArray, List.getElem_cons_zero, List.getElem_cons_succ, List.setIfInBounds_toArray, List.set_cons_zero, List.set_cons_succ]
       refine wpAnyH_take (i := 9) (v := .pointer (some ⟨g, 0, none⟩)) rfl (by kernel_rfl) (by kernel_rfl) (by kernel_rfl) (fun _ _ _ h => h) (Or.inl ⟨rfl, ?_⟩) (by assumption) ?_
       ·(intro w' hS; clear hS; go_simp)
       try simp only [Act.put, List.getElem_toArray, List.getElem_cons_zero, List.getElem_cons_succ, List.setIfInBounds_toArray, List.set_cons_zero, List.set_cons_succ]
       refine wpAnyH_take (i := 10) (v := .pointer (some ⟨g, 0, none⟩)) rfl (by kernel_rfl) (by kernel_rfl) (by kernel_rfl) (fun _ _ _ h => h) (Or.inl ⟨rfl, ?_⟩) (by assumption) ?_
       ·(intro w' hS; clear hS; go_simp)
       try simp only [Act.put, List.getElem_toArray, List.getElem_cons_zero, List.getElem_cons_succ, List.setIfInBounds_toArray, List.set_cons_zero, List.set_cons_succ]
       refine wpAnyH_take (i := 11) (v := .pointer (some ⟨g, 4, none⟩)) rfl (by kernel_rfl) (by kernel_rfl) (by kernel_rfl) (fun _ _ _ h => h) (Or.inl ⟨rfl, ?_⟩) (by assumption) ?_
       ·(intro w' hS; clear hS; go_simp)
       try simp only [Act.put, List.getElem_toArray, List.getElem_cons_zero, List.getElem_cons_succ, List.setIfInBounds_toArray, List.set_cons_zero, List.set_cons_succ]
       refine wpAnyH_take (i := 12) (v := .bool false) rfl (by kernel_rfl) (by kernel_rfl) (by kernel_rfl) (fun _ _ _ h => h) (Or.inl ⟨rfl, ?_⟩) (by assumption) ?_
       ·(intro w' hS; obtain ⟨s0, s1, s2, s3, s4, s5, s6, s7, s8, s9, s10⟩ := hS; go_simp)
       try simp only [Act.put, List.getElem_toArray, List.getElem_cons_zero, List.getElem_cons_succ, List.setIfInBounds_toArray, List.set_cons_zero, List.set_cons_succ]
       refine wpAnyH_take (i := 13) (v := .bool false) rfl (by kernel_rfl) (by kernel_rfl) (by kernel_rfl) (fun _ _ _ h => h) (Or.inl ⟨rfl, ?_⟩) (by assumption) ?_
       ·(intro w' hS; clear hS; go_simp)
       try simp only [Act.put, List.getElem_toArray, List.getElem_cons_zero, List.getElem_cons_succ, List.setIfInBounds_toArray, List.set_cons_zero, List.set_cons_succ]
       refine wpAnyH_take (i := 14) (v := .bool true) rfl (by kernel_rfl) (by kernel_rfl) (by kernel_rfl) (fun _ _ _ h => h) (Or.inl ⟨rfl, ?_⟩) (by assumption) ?_
       ·(intro w' hS; clear hS; go_simp)
       try simp only [Act.put, List.getElem_toArray, List.getElem_cons_zero, List.getElem_cons_succ, List.setIfInBounds_toArray, List.set_cons_zero, List.set_cons_succ]
       refine wpAnyH_take (i := 15) (v := .bool true) rfl (by kernel_rfl) (by kernel_rfl) (by kernel_rfl) (fun _ _ _ h => h) (Or.inl ⟨rfl, ?_⟩) (by assumption) ?_
       ·(intro w' hS; clear hS; go_simp)
       try simp only [Act.put, List.getElem_toArray, List.getElem_cons_zero, List.getElem_cons_succ, List.setIfInBounds_toArray, List.set_cons_zero, List.set_cons_succ]
       obtain ⟨q0, q1, q2, q3, q4, q5, q6, q7, q8, f0, f1, f2, f3, f4, f5, f6, f7, f8⟩ := r_facts ((bC.block _ (blk_lt RR.out)).trans RR.out)
       have rcC := RB.out.below ((below_drew (Below.refl _ _)).trans (bC.mono (Nat.le_refl _)))
       have RCC := Lib.hid rcC
       obtain ⟨s0, s1, s2, s3, s4, s5, s6, s7, s8, s9, s10⟩ := hHeld2
       clear rcC bC
       refine wpAnyH_ready (rs := [16]) (by kernel_rfl) (by simp) ?_
       refine AllReadyH.cons rfl (fun K hK => ?_) AllReadyH.nil
       go_simp
       refine hK.out _ _ ⟨?_, ?_, ?_, ?_, ?_, ?_, ?_, ?_, ?_, ?_, ?_⟩ (fun hHeld3 => ?_)
       ·(repeat rw [World.cell?_setCell_far _ ⟨R, _, none⟩ ⟨X, _, none⟩ _ hRX]); exact s0
       ·(repeat rw [World.cell?_setCell_far _ ⟨R, _, none⟩ ⟨X, _, none⟩ _ hRX]); exact s1
       ·(repeat rw [World.cell?_setCell_far _ ⟨R, _, none⟩ ⟨X, _, none⟩ _ hRX]); exact s2
       ·(repeat rw [World.cell?_setCell_far _ ⟨R, _, none⟩ ⟨X, _, none⟩ _ hRX]); exact s3
       ·(repeat rw [World.cell?_setCell_far _ ⟨R, _, none⟩ ⟨X, _, none⟩ _ hRX]); exact s4
       ·(repeat rw [World.cell?_setCell_far _ ⟨R, _, none⟩ ⟨X, _, none⟩ _ hRX]); exact s5
       ·(repeat rw [World.cell?_setCell_far _ ⟨R, _, none⟩ ⟨X, _, none⟩ _ hRX]); exact s6
       ·(repeat rw [World.cell?_setCell_far _ ⟨R, _, none⟩ ⟨X, _, none⟩ _ hRX]); exact s7
       ·(repeat rw [World.cell?_setCell_far _ ⟨R, _, none⟩ ⟨X, _, none⟩ _ hRX]); exact s8
       ·(repeat rw [World.cell?_setCell_far _ ⟨R, _, none⟩ ⟨g, _, none⟩ _ hRg]); exact s9
       ·(repeat rw [World.cell?_setCell_far _ ⟨R, _, none⟩ ⟨g, _, none⟩ _ hRg]); exact s10
       clear hK K
       try simp only [Act.put, List.getElem_toArray, List.getElem_cons_zero, List.getElem_cons_succ, List.setIfInBounds_toArray, List.set_cons_zero, List.set_cons_succ]
       refine wpAnyH_take (i := 17) (v := .bool true) rfl (by kernel_rfl) (by kernel_rfl) (by kernel_rfl) (fun _ _ _ h => h) (Or.inl ⟨rfl, ?_⟩) (by assumption) ?_
       ·(intro w' hS; clear hS; go_simp)
       try simp only [Act.put, List.getElem_toArray, List.getElem_cons_zero, List.getElem_cons_succ, List.setIfInBounds_toArray, List.set_cons_zero, List.set_cons_succ]
       refine wpAnyH_done (by kernel_rfl) ?_ _
       clear hHeld3
       go_wp2
       rw [HE.out]
       refine bodyPost_ret (v := .tuple #[.agg #[.string ⟨#[]⟩, .int .i64 ar, .int .i64 fl, .int .i64 wd, .int .i64 wa, .int .i64 pr, .int .i64 pa, .int .i64 ln, .int .u8 (c.toNat : Int)], .bool true]) (by simp [results, Tryz.results35, go_sem, *]) rfl ?_
       have nr := (((((((((RCC.out.near.set 0 (.string ⟨#[]⟩)).set 1 (.int .i64 ar)).set 2 (.int .i64 fl)).set 3 (.int .i64 wd)).set 4 (.int .i64 wa)).set 5 (.int .i64 pr)).set 6 (.int .i64 pa)).set 7 (.int .i64 ln)).set 8 (.int .u8 (c.toNat : Int)))
       exact ⟨rfl, nr.is, nr.b, nr.k⟩
      ·refine wp_region_held_drew (S := fun w' => w'.cell? ⟨X, 0, none⟩ = some (.string ⟨#[]⟩) ∧ w'.cell? ⟨X, 1, none⟩ = some (.int .i64 ar) ∧ w'.cell? ⟨X, 2, none⟩ = some (.int .i64 fl) ∧ w'.cell? ⟨X, 3, none⟩ = some (.int .i64 wd) ∧ w'.cell? ⟨X, 4, none⟩ = some (.int .i64 wa) ∧ w'.cell? ⟨X, 5, none⟩ = some (.int .i64 pr) ∧ w'.cell? ⟨X, 6, none⟩ = some (.int .i64 pa) ∧ w'.cell? ⟨X, 7, none⟩ = some (.int .i64 ln) ∧ w'.cell? ⟨X, 8, none⟩ = some (.int .u8 (c.toNat : Int)) ∧ w'.cell? ⟨g, 3, none⟩ = some (.bool true) ∧ w'.cell? ⟨g, 4, none⟩ = some (.bool true)) (by kernel_rfl) ⟨hx0, hx1, hx2, hx3, hx4, hx5, hx6, hx7, hx8, hg3, hg4⟩ (fun hHeld => ?_)
       refine wpAnyH_take (i := 0) (v := .agg #[.string ⟨#[]⟩, .int .i64 ar, .int .i64 fl, .int .i64 wd, .int .i64 wa, .int .i64 pr, .int .i64 pa, .int .i64 ln, .int .u8 (c.toNat : Int)]) rfl (by kernel_rfl) (by kernel_rfl) (by kernel_rfl) (fun _ _ _ h => h) (Or.inl ⟨rfl, ?_⟩) (by assumption) ?_
       ·(intro w' hS; obtain ⟨s0, s1, s2, s3, s4, s5, s6, s7, s8, s9, s10⟩ := hS; go_simp)
       try simp only [Act.put, List.getElem_toArray, List.getElem_cons_zero, List.getElem_cons_succ, List.setIfInBounds_toArray, List.set_cons_zero, List.set_cons_succ]
       refine wpAnyH_take (i := 1) (v := .agg #[.string ⟨#[]⟩, .int .i64 ar, .int .i64 fl, .int .i64 wd, .int .i64 wa, .int .i64 pr, .int .i64 pa, .int .i64 ln, .int .u8 (c.toNat : Int)]) rfl (by kernel_rfl) (by kernel_rfl) (by kernel_rfl) (fun _ _ _ h => h) (Or.inl ⟨rfl, ?_⟩) (by assumption) ?_
       ·(intro w' hS; obtain ⟨s0, s1, s2, s3, s4, s5, s6, s7, s8, s9, s10⟩ := hS; go_simp)
       try simp only [Act.put, List.getElem_toArray, List.getElem_cons_zero, List.getElem_cons_succ, List.setIfInBounds_toArray, List.set_cons_zero, List.set_cons_succ]
       refine wpAnyH_ready (rs := [2]) (by kernel_rfl) (by simp) ?_
       refine AllReadyH.cons rfl (fun K hK => ?_) AllReadyH.nil
       go_simp
       refine (HF.out _).mono ?_
       rintro e wC ⟨rfl, bC⟩
       refine hK.out _ _ ⟨pw_cell_below bC hx0, pw_cell_below bC hx1, pw_cell_below bC hx2, pw_cell_below bC hx3, pw_cell_below bC hx4, pw_cell_below bC hx5, pw_cell_below bC hx6, pw_cell_below bC hx7, pw_cell_below bC hx8, pw_cell_below bC hg3, pw_cell_below bC hg4⟩ (fun hHeld2 => ?_)
       clear hK K hHeld
       try simp only [Act.put, List.getElem_toArray, List.getElem_cons_zero, List.getElem_cons_succ, List.setIfInBounds_toArray, List.set_cons_zero, List.set_cons_succ]
       refine wpAnyH_take (i := 3) (v := .bool true) rfl (by kernel_rfl) (by kernel_rfl) (by kernel_rfl) (fun _ _ _ h => h) (Or.inl ⟨rfl, ?_⟩) (by assumption) ?_
       ·(intro w' hS; clear hS; go_simp)
       try simp only [Act.put, List.getElem_toArray, List.getElem_cons_zero, List.getElem_cons_succ, List.setIfInBounds_toArray, List.set_cons_zero, List.set_cons_succ]
       refine wpAnyH_take (i := 4) (v := .pointer (some ⟨g, 0, none⟩)) rfl (by kernel_rfl) (by kernel_rfl) (by kernel_rfl) (fun _ _ _ h => h) (Or.inl ⟨rfl, ?_⟩) (by assumption) ?_
       ·(intro w' hS; clear hS; go_simp)
       try simp only [Act.put, List.getElem_toArray, List.getElem_cons_zero, List.getElem_cons_succ, List.setIfInBounds_toArray, List.set_cons_zero, List.set_cons_succ]
       refine wpAnyH_take (i := 5) (v := .pointer (some ⟨g, 0, none⟩)) rfl (by kernel_rfl) (by kernel_rfl) (by kernel_rfl) (fun _ _ _ h => h) (Or.inl ⟨rfl, ?_⟩) (by assumption) ?_
       ·(intro w' hS; clear hS; go_simp)
       try simp only [Act.put, List.getElem_toArray, List.getElem_cons_zero, List.getElem_cons_succ, List.setIfInBounds_toArray, List.set_cons_zero, List.set_cons_succ]
       refine wpAnyH_take (i := 6) (v := .pointer (some ⟨g, 3, none⟩)) rfl (by kernel_rfl) (by kernel_rfl) (by kernel_rfl) (fun _ _ _ h => h) (Or.inl ⟨rfl, ?_⟩) (by assumption) ?_
       ·(intro w' hS; clear hS; go_simp)
       try simp only [Act.put, List.getElem_toArray, List.getElem_cons_zero, List.getElem_cons_succ, List.setIfInBounds_toArray, List.set_cons_zero, List.set_cons_succ]
       refine wpAnyH_take (i := 7) (v := .bool true) rfl (by kernel_rfl) (by kernel_rfl) (by kernel_rfl) (fun _ _ _ h => h) (Or.inl ⟨rfl, ?_⟩) (by assumption) ?_
       ·(intro w' hS; obtain ⟨s0, s1, s2, s3, s4, s5, s6, s7, s8, s9, s10⟩ := hS; go_simp)
       try simp only [Act.put, List.getElem_toArray, List.getElem_cons_zero, List.getElem_cons_succ, List.setIfInBounds_toArray, List.set_cons_zero, List.set_cons_succ]
       refine wpAnyH_take (i := 8) (v := .bool true) rfl (by kernel_rfl) (by kernel_rfl) (by kernel_rfl) (fun _ _ _ h => h) (Or.inl ⟨rfl, ?_⟩) (by assumption) ?_
       ·(intro w' hS; clear hS; go_simp)
       try simp only [Act.put, List.getElem_toArray, List.getElem_cons_zero, List.getElem_cons_succ, List.setIfInBounds_toArray, List.set_cons_zero, List.set_cons_succ]
       refine wpAnyH_take (i := 9) (v := .pointer (some ⟨g, 0, none⟩)) rfl (by kernel_rfl) (by kernel_rfl) (by kernel_rfl) (fun _ _ _ h => h) (Or.inl ⟨rfl, ?_⟩) (by assumption) ?_
       ·(intro w' hS; clear hS; go_simp)
       try simp only [Act.put, List.getElem_toArray, List.getElem_cons_zero, List.getElem_cons_succ, List.setIfInBounds_toArray, List.set_cons_zero, List.set_cons_succ]
       refine wpAnyH_take (i := 10) (v := .pointer (some ⟨g, 0, none⟩)) rfl (by kernel_rfl) (by kernel_rfl) (by kernel_rfl) (fun _ _ _ h => h) (Or.inl ⟨rfl, ?_⟩) (by assumption) ?_
       ·(intro w' hS; clear hS; go_simp)
       try simp only [Act.put, List.getElem_toArray, List.getElem_cons_zero, List.getElem_cons_succ, List.setIfInBounds_toArray, List.set_cons_zero, List.set_cons_succ]
       refine wpAnyH_take (i := 11) (v := .pointer (some ⟨g, 4, none⟩)) rfl (by kernel_rfl) (by kernel_rfl) (by kernel_rfl) (fun _ _ _ h => h) (Or.inl ⟨rfl, ?_⟩) (by assumption) ?_
       ·(intro w' hS; clear hS; go_simp)
       try simp only [Act.put, List.getElem_toArray, List.getElem_cons_zero, List.getElem_cons_succ, List.setIfInBounds_toArray, List.set_cons_zero, List.set_cons_succ]
       refine wpAnyH_take (i := 12) (v := .bool true) rfl (by kernel_rfl) (by kernel_rfl) (by kernel_rfl) (fun _ _ _ h => h) (Or.inl ⟨rfl, ?_⟩) (by assumption) ?_
       ·(intro w' hS; obtain ⟨s0, s1, s2, s3, s4, s5, s6, s7, s8, s9, s10⟩ := hS; go_simp)
       try simp only [Act.put, List.getElem_toArray, List.getElem_cons_zero, List.getElem_cons_succ, List.setIfInBounds_toArray, List.set_cons_zero, List.set_cons_succ]
       refine wpAnyH_take (i := 13) (v := .bool true) rfl (by kernel_rfl) (by kernel_rfl) (by kernel_rfl) (fun _ _ _ h => h) (Or.inl ⟨rfl, ?_⟩) (by assumption) ?_
       ·(intro w' hS; clear hS; go_simp)
       try simp only [Act.put, List.getElem_toArray, List.getElem_cons_zero, List.getElem_cons_succ, List.setIfInBounds_toArray, List.set_cons_zero, List.set_cons_succ]
       refine wpAnyH_take (i := 14) (v := .bool false) rfl (by kernel_rfl) (by kernel_rfl) (by kernel_rfl) (fun _ _ _ h => h) (Or.inl ⟨rfl, ?_⟩) (by assumption) ?_
       ·(intro w' hS; clear hS; go_simp)
       try simp only [Act.put, List.getElem_toArray, List.getElem_cons_zero, List.getElem_cons_succ, List.setIfInBounds_toArray, List.set_cons_zero, List.set_cons_succ]
       refine wpAnyH_take (i := 15) (v := .bool false) rfl (by kernel_rfl) (by kernel_rfl) (by kernel_rfl) (fun _ _ _ h => h) (Or.inl ⟨rfl, ?_⟩) (by assumption) ?_
       ·(intro w' hS; clear hS; go_simp)
       try simp only [Act.put, List.getElem_toArray, List.getElem_cons_zero, List.getElem_cons_succ, List.setIfInBounds_toArray, List.set_cons_zero, List.set_cons_succ]
       obtain ⟨q0, q1, q2, q3, q4, q5, q6, q7, q8, f0, f1, f2, f3, f4, f5, f6, f7, f8⟩ := r_facts ((bC.block _ (blk_lt RR.out)).trans RR.out)
       have rcC := RB.out.below ((below_drew (Below.refl _ _)).trans (bC.mono (Nat.le_refl _)))
       have RCC := Lib.hid rcC
       obtain ⟨s0, s1, s2, s3, s4, s5, s6, s7, s8, s9, s10⟩ := hHeld2
       clear rcC bC
       refine wpAnyH_ready (rs := [16]) (by kernel_rfl) (by simp) ?_
       refine AllReadyH.cons rfl (fun K hK => ?_) AllReadyH.nil
       go_simp
       refine hK.out _ _ ⟨?_, ?_, ?_, ?_, ?_, ?_, ?_, ?_, ?_, ?_, ?_⟩ (fun hHeld3 => ?_)
       ·(repeat rw [World.cell?_setCell_far _ ⟨R, _, none⟩ ⟨X, _, none⟩ _ hRX]); exact s0
       ·(repeat rw [World.cell?_setCell_far _ ⟨R, _, none⟩ ⟨X, _, none⟩ _ hRX]); exact s1
       ·(repeat rw [World.cell?_setCell_far _ ⟨R, _, none⟩ ⟨X, _, none⟩ _ hRX]); exact s2
       ·(repeat rw [World.cell?_setCell_far _ ⟨R, _, none⟩ ⟨X, _, none⟩ _ hRX]); exact s3
       ·(repeat rw [World.cell?_setCell_far _ ⟨R, _, none⟩ ⟨X, _, none⟩ _ hRX]); exact s4
       ·(repeat rw [World.cell?_setCell_far _ ⟨R, _, none⟩ ⟨X, _, none⟩ _ hRX]); exact s5
       ·(repeat rw [World.cell?_setCell_far _ ⟨R, _, none⟩ ⟨X, _, none⟩ _ hRX]); exact s6
       ·(repeat rw [World.cell?_setCell_far _ ⟨R, _, none⟩ ⟨X, _, none⟩ _ hRX]); exact s7
       ·(repeat rw [World.cell?_setCell_far _ ⟨R, _, none⟩ ⟨X, _, none⟩ _ hRX]); exact s8
       ·(repeat rw [World.cell?_setCell_far _ ⟨R, _, none⟩ ⟨g, _, none⟩ _ hRg]); exact s9
       ·(repeat rw [World.cell?_setCell_far _ ⟨R, _, none⟩ ⟨g, _, none⟩ _ hRg]); exact s10
       clear hK K
       try simp only [Act.put, List.getElem_toArray, List.getElem_cons_zero, List.getElem_cons_succ, List.setIfInBounds_toArray, List.set_cons_zero, List.set_cons_succ]
       refine wpAnyH_take (i := 17) (v := .bool false) rfl (by kernel_rfl) (by kernel_rfl) (by kernel_rfl) (fun _ _ _ h => h) (Or.inl ⟨rfl, ?_⟩) (by assumption) ?_
       ·(intro w' hS; clear hS; go_simp)
       try simp only [Act.put, List.getElem_toArray, List.getElem_cons_zero, List.getElem_cons_succ, List.setIfInBounds_toArray, List.set_cons_zero, List.set_cons_succ]
       refine wpAnyH_done (by kernel_rfl) ?_ _
       clear hHeld3
       go_wp2
       rw [HE.out]
       refine bodyPost_ret (v := .tuple #[.agg #[.string ⟨#[]⟩, .int .i64 ar, .int .i64 fl, .int .i64 wd, .int .i64 wa, .int .i64 pr, .int .i64 pa, .int .i64 ln, .int .u8 (c.toNat : Int)], .bool false]) (by simp [results, Tryz.results35, go_sem, *]) rfl ?_
       have nr := (((((((((RCC.out.near.set 0 (.string ⟨#[]⟩)).set 1 (.int .i64 ar)).set 2 (.int .i64 fl)).set 3 (.int .i64 wd)).set 4 (.int .i64 wa)).set 5 (.int .i64 pr)).set 6 (.int .i64 pa)).set 7 (.int .i64 ln)).set 8 (.int .u8 (c.toNat : Int)))
       exact ⟨rfl, nr.is, nr.b, nr.k⟩
end Go.Proofs.YtnhbgahfmcicnaaGreatDoor.PA
end
