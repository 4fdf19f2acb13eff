/- A part of the proof of the claim's statement. -/
import Derived.Test.YtnhbgahfmcicnaaGreatDoorPcM2
import Derived.Deep.Cut
import Derived.Deep.CutBlock
section
namespace Go.Proofs.YtnhbgahfmcicnaaGreatDoor.PA
set_option linter.unusedVariables false
set_option linter.unusedSimpArgs false
open Go.RowKit Go.Shelf Go.Proofs.YtnhbgahfmcicnaaGreatDoorW.PrintWords Go.Proofs.YtnhbgahfmcicnaaGreatDoorW.PrintLast Go.Proofs.YtnhbgahfmcicnaaGreatDoorW.PrintMore
def agg35 (x : S35) : Value := .agg #[.string x.f0, .int .i64 x.f1, .int .i64 x.f2, .int .i64 x.f3, .int .i64 x.f4, .int .i64 x.f5, .int .i64 x.f6, .int .i64 x.f7, .int .u8 x.f8]
def cells35 (x : S35) : Array Value := #[.string x.f0, .int .i64 x.f1, .int .i64 x.f2, .int .i64 x.f3, .int .i64 x.f4, .int .i64 x.f5, .int .i64 x.f6, .int .i64 x.f7, .int .u8 x.f8]
def cellsF (f : Fld) : Array Value := #[.int .i64 f.1, .bool f.2.1, .int .i64 f.2.2]
structure Cv (w0 w : World) (g X D P R : Nat) (v : SlV) (s : RdT) (x : S35) (wd pr : Fld) (W : World) : Prop where
  is : isT w0 W g s v
  b : Below w0.heap.size w0 W
  k : KeepBut w W g none
  x : W.heap[X]? = some (.cells (cells35 x) 35 (0, 0))
  d : W.heap[D]? = some (.cells (cellsF wd) 123 (0, 0))
  p : W.heap[P]? = some (.cells (cellsF pr) 123 (0, 0))
  r : W.heap[R]? = some (.cells (cells35 z35) 35 (0, 0))
  hX : w.heap.size ≤ X
  hD : w.heap.size ≤ D
  hP : w.heap.size ≤ P
  hR : w.heap.size ≤ R
  hw : w0.heap.size ≤ w.heap.size
  dp : D ≠ P
  rx : R ≠ X
section
variable {w0 w : World} {g X D P R : Nat} {v : SlV} {s s' : RdT} {x x' : S35} {wd pr wd' pr' : Fld} {W W' : World}
theorem Cv.gX (h : Cv w0 w g X D P R v s x wd pr W) : g ≠ X := IsS59.ne_blk h.is h.x (by decide)
theorem Cv.gD (h : Cv w0 w g X D P R v s x wd pr W) : g ≠ D := IsS59.ne_blk h.is h.d (by decide)
theorem Cv.gP (h : Cv w0 w g X D P R v s x wd pr W) : g ≠ P := IsS59.ne_blk h.is h.p (by decide)
theorem Cv.gR (h : Cv w0 w g X D P R v s x wd pr W) : g ≠ R := IsS59.ne_blk h.is h.r (by decide)
theorem Cv.xD (h : Cv w0 w g X D P R v s x wd pr W) : X ≠ D := blk_ne h.x h.d (by decide)
theorem Cv.xP (h : Cv w0 w g X D P R v s x wd pr W) : X ≠ P := blk_ne h.x h.p (by decide)
theorem Cv.rD (h : Cv w0 w g X D P R v s x wd pr W) : R ≠ D := blk_ne h.r h.d (by decide)
theorem Cv.rP (h : Cv w0 w g X D P R v s x wd pr W) : R ≠ P := blk_ne h.r h.p (by decide)
theorem Cv.lt (h : Cv w0 w g X D P R v s x wd pr W) : g < W.heap.size := IsS59.lt h.is
theorem Cv.call (h : Cv w0 w g X D P R v s x wd pr W) (hi : isT w0 W' g s' v) (hb : Below w0.heap.size w0 W') (hk : KeepBut W W' g none) : Cv w0 w g X D P R v s' x wd pr W' :=
  ⟨hi, hb, h.k.trans hk (.inl rfl), hk.blk h.x h.gX.symm (by simp), hk.blk h.d h.gD.symm (by simp), hk.blk h.p h.gP.symm (by simp), hk.blk h.r h.gR.symm (by simp), h.hX, h.hD, h.hP, h.hR, h.hw, h.dp, h.rx⟩
theorem Cv.below (h : Cv w0 w g X D P R v s x wd pr W) (hb : Below W.heap.size W W') : Cv w0 w g X D P R v s x wd pr W' :=
  h.call (IsS59.below h.is hb) (h.b.trans (hb.mono (Nat.le_trans h.hw h.k.1))) (KeepBut.of_below hb _ _)
theorem Cv.alloc (h : Cv w0 w g X D P R v s x wd pr W) (o : Obj) : Cv w0 w g X D P R v s x wd pr (W.alloc o) := h.below (below_alloc (Below.refl _ _) o)
theorem Cv.setX (h : Cv w0 w g X D P R v s x wd pr W) (j : Nat) (u : Value) (x' : S35) (hx : (cells35 x).setIfInBounds j u = cells35 x') : Cv w0 w g X D P R v s x' wd pr (W.setCell ⟨X, j, none⟩ u) :=
  ⟨IsS59.far h.is h.gX u, below_set h.b (Nat.le_trans h.hw h.hX), keep_far h.k h.hX j u, hx ▸ blk_set h.x j u, blk_far h.d h.xD.symm u, blk_far h.p h.xP.symm u, blk_far h.r h.rx u, h.hX, h.hD, h.hP, h.hR, h.hw, h.dp, h.rx⟩
theorem Cv.setD (h : Cv w0 w g X D P R v s x wd pr W) (f : Fld) : Cv w0 w g X D P R v s x f pr (((W.setCell ⟨D, 0, none⟩ (.int .i64 f.1)).setCell ⟨D, 1, none⟩ (.bool f.2.1)).setCell ⟨D, 2, none⟩ (.int .i64 f.2.2)) :=
  ⟨IsS59.far (IsS59.far (IsS59.far h.is h.gD _) h.gD _) h.gD _, below_set (below_set (below_set h.b (Nat.le_trans h.hw h.hD)) (Nat.le_trans h.hw h.hD)) (Nat.le_trans h.hw h.hD),
    keep_far (keep_far (keep_far h.k h.hD _ _) h.hD _ _) h.hD _ _, blk_far (blk_far (blk_far h.x h.xD _) h.xD _) h.xD _, blk_set (blk_set (blk_set h.d 0 _) 1 _) 2 _,
    blk_far (blk_far (blk_far h.p h.dp.symm _) h.dp.symm _) h.dp.symm _, blk_far (blk_far (blk_far h.r h.rD _) h.rD _) h.rD _, h.hX, h.hD, h.hP, h.hR, h.hw, h.dp, h.rx⟩
theorem Cv.setP (h : Cv w0 w g X D P R v s x wd pr W) (f : Fld) : Cv w0 w g X D P R v s x wd f (((W.setCell ⟨P, 0, none⟩ (.int .i64 f.1)).setCell ⟨P, 1, none⟩ (.bool f.2.1)).setCell ⟨P, 2, none⟩ (.int .i64 f.2.2)) :=
  ⟨IsS59.far (IsS59.far (IsS59.far h.is h.gP _) h.gP _) h.gP _, below_set (below_set (below_set h.b (Nat.le_trans h.hw h.hP)) (Nat.le_trans h.hw h.hP)) (Nat.le_trans h.hw h.hP),
    keep_far (keep_far (keep_far h.k h.hP _ _) h.hP _ _) h.hP _ _, blk_far (blk_far (blk_far h.x h.xP _) h.xP _) h.xP _, blk_far (blk_far (blk_far h.d h.dp _) h.dp _) h.dp _,
    blk_set (blk_set (blk_set h.p 0 _) 1 _) 2 _, blk_far (blk_far (blk_far h.r h.rP _) h.rP _) h.rP _, h.hX, h.hD, h.hP, h.hR, h.hw, h.dp, h.rx⟩
theorem Cv.start (hi : isT w0 w g s v) (hb : Below w0.heap.size w0 w) (hk : KeepBut ((w.setCell ⟨g, 5, none⟩ (.bool false)).alloc (.cells (cells35 z35) 35)) W g none) (hg : g < w.heap.size) (hI : isT w0 W g s' v) (hB : Below w0.heap.size w0 W) (ox od op : Obj)
    (hox : ox = .cells (cells35 x) 35) (hod : od = .cells (cellsF wd) 123) (hop : op = .cells (cellsF pr) 123) :
    Cv w0 w g W.heap.size (W.heap.size + 1) (W.heap.size + 1 + 1) w.heap.size v s' x wd pr (((W.alloc ox).alloc od).alloc op) := by
  subst hox hod hop
  have hR : W.heap[w.heap.size]? = some (.cells (cells35 z35) 35 (0, 0)) := (hk.2 w.heap.size (by simp) (by omega) (by simp)).trans (by have := World.alloc_heap_new (w.setCell ⟨g, 5, none⟩ (.bool false)) (.cells (cells35 z35) 35); simpa using this)
  have hlt := (Array.getElem?_eq_some_iff.1 hR).1
  have h1 := World.alloc_heap_new W (.cells (cells35 x) 35)
  have h2 := World.alloc_heap_new (W.alloc (.cells (cells35 x) 35)) (.cells (cellsF wd) 123)
  have h3 := World.alloc_heap_new ((W.alloc (.cells (cells35 x) 35)).alloc (.cells (cellsF wd) 123)) (.cells (cellsF pr) 123)
  have z1 : (W.alloc (.cells (cells35 x) 35)).heap.size = W.heap.size + 1 := by simp
  have z2 : ((W.alloc (.cells (cells35 x) 35)).alloc (.cells (cellsF wd) 123)).heap.size = W.heap.size + 1 + 1 := by simp
  rw [z1] at h2
  rw [z2] at h3
  have a1 : KeepBut W (((W.alloc (.cells (cells35 x) 35)).alloc (.cells (cellsF wd) 123)).alloc (.cells (cellsF pr) 123)) g none := keep_alloc (keep_alloc (keep_alloc (KeepBut.refl _ _ _) _) _) _
  have a2 : Below (W.heap.size + 1) (W.alloc (.cells (cells35 x) 35)) (((W.alloc (.cells (cells35 x) 35)).alloc (.cells (cellsF wd) 123)).alloc (.cells (cellsF pr) 123)) := z1 ▸ below_alloc (below_alloc (Below.refl _ _) _) _
  have a3 : Below (W.heap.size + 1 + 1) ((W.alloc (.cells (cells35 x) 35)).alloc (.cells (cellsF wd) 123)) (((W.alloc (.cells (cells35 x) 35)).alloc (.cells (cellsF wd) 123)).alloc (.cells (cellsF pr) 123)) := z2 ▸ below_alloc (Below.refl _ _) _
  exact ⟨IsS59.alloc (IsS59.alloc (IsS59.alloc hI _) _) _, below_alloc (below_alloc (below_alloc hB _) _) _, ((keep_alloc (KeepBut.set_ (KeepBut.refl w g none) 5 _) _).trans hk (.inl rfl)).trans a1 (.inl rfl),
    (a2.block _ (by omega)).trans h1, (a3.block _ (by omega)).trans h2, h3, (a1.2 _ hlt (by omega) (by simp)).trans hR, by omega, by omega, by omega, Nat.le_refl _, hb.size, by omega, by omega⟩
end
section
variable {w0 w : World} {g X D P R T : Nat} {v : SlV} {s s' : RdT} {x x' : S35} {wd pr wd' pr' : Fld} {W W' : World}
theorem Cv.d0 (h : Cv w0 w g X D P R v s x wd pr W) : W.cell? ⟨D, 0, none⟩ = some (.int .i64 wd.1) := blk_cell h.d 0
theorem Cv.d1 (h : Cv w0 w g X D P R v s x wd pr W) : W.cell? ⟨D, 1, none⟩ = some (.bool wd.2.1) := blk_cell h.d 1
theorem Cv.d2 (h : Cv w0 w g X D P R v s x wd pr W) : W.cell? ⟨D, 2, none⟩ = some (.int .i64 wd.2.2) := blk_cell h.d 2
theorem Cv.p0 (h : Cv w0 w g X D P R v s x wd pr W) : W.cell? ⟨P, 0, none⟩ = some (.int .i64 pr.1) := blk_cell h.p 0
theorem Cv.p1 (h : Cv w0 w g X D P R v s x wd pr W) : W.cell? ⟨P, 1, none⟩ = some (.bool pr.2.1) := blk_cell h.p 1
theorem Cv.p2 (h : Cv w0 w g X D P R v s x wd pr W) : W.cell? ⟨P, 2, none⟩ = some (.int .i64 pr.2.2) := blk_cell h.p 2
theorem Cv.x0 (h : Cv w0 w g X D P R v s x wd pr W) : W.cell? ⟨X, 0, none⟩ = some (.string x.f0) := blk_cell h.x 0
theorem Cv.r0 (h : Cv w0 w g X D P R v s x wd pr W) : W.cell? ⟨R, 0, none⟩ = some (.string ⟨#[]⟩) := blk_cell h.r 0
theorem Cv.r1 (h : Cv w0 w g X D P R v s x wd pr W) : W.cell? ⟨R, 1, none⟩ = some (.int .i64 0) := blk_cell h.r 1
theorem Cv.r2 (h : Cv w0 w g X D P R v s x wd pr W) : W.cell? ⟨R, 2, none⟩ = some (.int .i64 0) := blk_cell h.r 2
theorem Cv.r3 (h : Cv w0 w g X D P R v s x wd pr W) : W.cell? ⟨R, 3, none⟩ = some (.int .i64 0) := blk_cell h.r 3
theorem Cv.r4 (h : Cv w0 w g X D P R v s x wd pr W) : W.cell? ⟨R, 4, none⟩ = some (.int .i64 0) := blk_cell h.r 4
theorem Cv.r5 (h : Cv w0 w g X D P R v s x wd pr W) : W.cell? ⟨R, 5, none⟩ = some (.int .i64 0) := blk_cell h.r 5
theorem Cv.r6 (h : Cv w0 w g X D P R v s x wd pr W) : W.cell? ⟨R, 6, none⟩ = some (.int .i64 0) := blk_cell h.r 6
theorem Cv.r7 (h : Cv w0 w g X D P R v s x wd pr W) : W.cell? ⟨R, 7, none⟩ = some (.int .i64 0) := blk_cell h.r 7
theorem Cv.r8 (h : Cv w0 w g X D P R v s x wd pr W) : W.cell? ⟨R, 8, none⟩ = some (.int .u8 0) := blk_cell h.r 8
theorem Cv.x1 (h : Cv w0 w g X D P R v s x wd pr W) : W.cell? ⟨X, 1, none⟩ = some (.int .i64 x.f1) := blk_cell h.x 1
theorem Cv.x2 (h : Cv w0 w g X D P R v s x wd pr W) : W.cell? ⟨X, 2, none⟩ = some (.int .i64 x.f2) := blk_cell h.x 2
theorem Cv.x3 (h : Cv w0 w g X D P R v s x wd pr W) : W.cell? ⟨X, 3, none⟩ = some (.int .i64 x.f3) := blk_cell h.x 3
theorem Cv.x4 (h : Cv w0 w g X D P R v s x wd pr W) : W.cell? ⟨X, 4, none⟩ = some (.int .i64 x.f4) := blk_cell h.x 4
theorem Cv.x5 (h : Cv w0 w g X D P R v s x wd pr W) : W.cell? ⟨X, 5, none⟩ = some (.int .i64 x.f5) := blk_cell h.x 5
theorem Cv.x6 (h : Cv w0 w g X D P R v s x wd pr W) : W.cell? ⟨X, 6, none⟩ = some (.int .i64 x.f6) := blk_cell h.x 6
theorem Cv.x7 (h : Cv w0 w g X D P R v s x wd pr W) : W.cell? ⟨X, 7, none⟩ = some (.int .i64 x.f7) := blk_cell h.x 7
theorem Cv.x8 (h : Cv w0 w g X D P R v s x wd pr W) : W.cell? ⟨X, 8, none⟩ = some (.int .u8 x.f8) := blk_cell h.x 8
theorem Cv.fx (h : Cv w0 w g X D P R v s x wd pr W) (j : Nat) : W.frozen? ⟨X, j, none⟩ = false := blk_frozen h.x j
theorem Cv.fd (h : Cv w0 w g X D P R v s x wd pr W) (j : Nat) : W.frozen? ⟨D, j, none⟩ = false := blk_frozen h.d j
theorem Cv.fp (h : Cv w0 w g X D P R v s x wd pr W) (j : Nat) : W.frozen? ⟨P, j, none⟩ = false := blk_frozen h.p j
theorem Cv.fr (h : Cv w0 w g X D P R v s x wd pr W) (j : Nat) : W.frozen? ⟨R, j, none⟩ = false := blk_frozen h.r j
theorem Cv.fg (h : Cv w0 w g X D P R v s x wd pr W) (j : Nat) : W.frozen? ⟨g, j, none⟩ = false := by
  obtain ⟨A6, c6, HG, hg, HS⟩ := h.is
  exact blk_frozen HG j
theorem Cv.g0 (h : Cv w0 w g X D P R v s x wd pr W) : W.cell? ⟨g, 0, none⟩ = some (.int .i64 s.1) := by
  obtain ⟨A6, c6, HG, hg, HS⟩ := h.is
  exact cellS59_0 HG
theorem Cv.step {fmt : ByteArray} {c : UInt8} {l : List UInt8} {b nx pl : Int} {lg : Bool} {q : Nat} (hs : Suf fmt (c :: l)) (hq : fmt.size - (c :: l).length = q) (h : Cv w0 w g X D P R v (st fmt (c :: l) b nx pl lg) x wd pr W) : Cv w0 w g X D P R v (st fmt l b nx pl lg) x wd pr (W.setCell ⟨g, 0, none⟩ (.int .i64 ((q : Int) + 1))) := by
  have hl := hs.len
  have e : (q : Int) + 1 = ((fmt.size - l.length : Nat) : Int) := by
    simp only [List.length_cons] at hl hq ⊢
    omega
  rw [e]
  exact h.call (IsS59.set_0 h.is _) (below_set h.b (IsS59.ge h.is)) (KeepBut.set_ (KeepBut.refl _ _ _) _ _)
theorem Cv.g0q {fmt : ByteArray} {l : List UInt8} {b nx pl : Int} {lg : Bool} {q : Nat} (hq : fmt.size - l.length = q) (h : Cv w0 w g X D P R v (st fmt l b nx pl lg) x wd pr W) : W.cell? ⟨g, 0, none⟩ = some (.int .i64 (q : Int)) := by
  subst hq
  exact h.g0
def cellsR (r : RuleT) : Array Value := #[.int .i64 r.fl, .string r.ln, .bool r.wd, .bool r.pr]
structure Cr (w0 w : World) (g X D P R T : Nat) (v : SlV) (s : RdT) (x : S35) (wd pr : Fld) (ru : RuleT) (W : World) : Prop where
  c : Cv w0 w g X D P R v s x wd pr W
  t : W.heap[T]? = some (.cells (cellsR ru) 85 (0, 0))
variable {ru : RuleT}
theorem Cr.gT (h : Cr w0 w g X D P R T v s x wd pr ru W) : g ≠ T := IsS59.ne_blk h.c.is h.t (by decide)
theorem Cr.call (h : Cr w0 w g X D P R T v s x wd pr ru W) (hi : isT w0 W' g s' v) (hb : Below w0.heap.size w0 W') (hk : KeepBut W W' g none) : Cr w0 w g X D P R T v s' x wd pr ru W' :=
  ⟨h.c.call hi hb hk, hk.blk h.t h.gT.symm (by simp)⟩
theorem Cr.below (h : Cr w0 w g X D P R T v s x wd pr ru W) (hb : Below W.heap.size W W') : Cr w0 w g X D P R T v s x wd pr ru W' :=
  ⟨h.c.below hb, (hb.block _ (blk_lt h.t)).trans h.t⟩
theorem Cr.setX (h : Cr w0 w g X D P R T v s x wd pr ru W) (j : Nat) (u : Value) (x' : S35) (hx : (cells35 x).setIfInBounds j u = cells35 x') : Cr w0 w g X D P R T v s x' wd pr ru (W.setCell ⟨X, j, none⟩ u) :=
  ⟨h.c.setX j u x' hx, blk_far h.t (blk_ne h.t h.c.x (by decide)) u⟩
theorem Cr.step {fmt : ByteArray} {c : UInt8} {l : List UInt8} {b nx pl : Int} {lg : Bool} {q : Nat} (hs : Suf fmt (c :: l)) (hq : fmt.size - (c :: l).length = q) (h : Cr w0 w g X D P R T v (st fmt (c :: l) b nx pl lg) x wd pr ru W) : Cr w0 w g X D P R T v (st fmt l b nx pl lg) x wd pr ru (W.setCell ⟨g, 0, none⟩ (.int .i64 ((q : Int) + 1))) :=
  ⟨h.c.step hs hq, blk_far h.t h.gT.symm _⟩
theorem Cr.drewN (h : Cr w0 w g X D P R T v s x wd pr ru W) (n : Nat) : Cr w0 w g X D P R T v s x wd pr ru (W.drewN n) := h.below (pw_below_drewN (Below.refl _ _) n)
theorem Cr.drew (h : Cr w0 w g X D P R T v s x wd pr ru W) : Cr w0 w g X D P R T v s x wd pr ru W.drew := h.below (below_drew (Below.refl _ _))
theorem Cr.t0 (h : Cr w0 w g X D P R T v s x wd pr ru W) : W.cell? ⟨T, 0, none⟩ = some (.int .i64 ru.fl) := blk_cell h.t 0
theorem Cr.t1 (h : Cr w0 w g X D P R T v s x wd pr ru W) : W.cell? ⟨T, 1, none⟩ = some (.string ru.ln) := blk_cell h.t 1
theorem Cr.t2 (h : Cr w0 w g X D P R T v s x wd pr ru W) : W.cell? ⟨T, 2, none⟩ = some (.bool ru.wd) := blk_cell h.t 2
theorem Cr.t3 (h : Cr w0 w g X D P R T v s x wd pr ru W) : W.cell? ⟨T, 3, none⟩ = some (.bool ru.pr) := blk_cell h.t 3
end
def ConvPost (w0 w : World) (g : Nat) (v : SlV) (fmt : ByteArray) (b : Int) (c : Option ConvT) (e : Ending) (w' : World) : Prop :=
  match c with
  | some r => RdPost w0 w g v (agg35 r.x) (st fmt r.l b r.nx r.pl r.lg) e w'
  | none => e = failE 6 b ∧ Below w0.heap.size w0 w'
structure Near (w0 w : World) (g R : Nat) (v : SlV) (s : RdT) (W : World) : Prop where
  is : isT w0 W g s v
  b : Below w0.heap.size w0 W
  k : KeepBut w W g none
  ne : g ≠ R
  hR : w.heap.size ≤ R
  hw : w0.heap.size ≤ w.heap.size
theorem Near.set {w0 w : World} {g R : Nat} {v : SlV} {s : RdT} {W : World} (h : Near w0 w g R v s W) (j : Nat) (u : Value) : Near w0 w g R v s (W.setCell ⟨R, j, none⟩ u) :=
  ⟨IsS59.far h.is h.ne u, below_set h.b (Nat.le_trans h.hw h.hR), keep_far h.k h.hR j u, h.ne, h.hR, h.hw⟩
theorem Cv.near {w0 w : World} {g X D P R : Nat} {v : SlV} {s : RdT} {x : S35} {wd pr : Fld} {W : World} (h : Cv w0 w g X D P R v s x wd pr W) : Near w0 w g R v s W := ⟨h.is, h.b, h.k, h.gR, h.hR, h.hw⟩
theorem ConvPost.yes {w0 w : World} {g R : Nat} {v : SlV} {fmt : ByteArray} {b : Int} {c : Option ConvT} {w' : World} {r : ConvT} (h : c = some r) (hn : Near w0 w g R v (st fmt r.l b r.nx r.pl r.lg) w') : ConvPost w0 w g v fmt b c (.returned (agg35 r.x)) w' := by
  subst h
  exact ⟨rfl, hn.is, hn.b, hn.k⟩
theorem convE_dis {own fl ln c pl nx : Int} {wd pr : Fld} {l : List UInt8} (h : ¬ (agrees wd own = true ∧ agrees pr own = true)) : convE own fl wd pr ln c pl nx l = none := by
  unfold convE
  simp only [if_neg h, ite_self]
theorem convE_bad {own fl ln c pl nx : Int} {wd pr : Fld} {l : List UInt8} (h : okC (ruleC c) fl ln wd pr = false) : convE own fl wd pr ln c pl nx l = none := by
  have h' : ¬ okC (ruleC c) fl ln wd pr = true := by rw [h]; decide
  unfold convE
  simp only [if_neg h', ite_self]
theorem convE_yes {own fl ln c pl nx wa nx1 pa nx2 ar nx3 mo : Int} {wd pr : Fld} {l : List UInt8} {pb lg : Bool} (ho : (ruleC c).ok = true) (hpb : decide (0 < own) = pb) (hmo : modeOf pb = mo) (hm : pl = 0 ∨ pl = mo) (h1 : agrees wd own = true) (h2 : agrees pr own = true)
    (hw : starArg mo nx wd = (wa, nx1)) (hp : starArg mo nx1 pr = (pa, nx2)) (ha : argC mo nx2 own = (ar, nx3)) (hk : okC (ruleC c) fl ln wd pr = true)
    (hl : (((decide (10000 < wd.1) || decide (10000 < pr.1)) || (wd.2.1 && decide (64 < wa))) || (pr.2.1 && decide (64 < pa)) || decide (64 < ar)) = lg) :
    convE own fl wd pr ln c pl nx l = some ⟨⟨⟨#[]⟩, ar, fl, wd.1, wa, pr.1, pa, ln, c⟩, lg, mo, nx3, l⟩ := by
  unfold convE
  rw [if_pos ho, hpb, hmo, if_pos hm, if_pos ⟨h1, h2⟩]
  dsimp only
  rw [if_pos hk, hw]
  dsimp only
  rw [hp]
  dsimp only
  rw [ha]
  dsimp only
  rw [← hl, Bool.or_assoc, Bool.or_assoc, Bool.or_assoc]
theorem ConvPost.no {w0 w : World} {g : Nat} {v : SlV} {fmt : ByteArray} {b : Int} {c : Option ConvT} {w' : World} (h : c = none) (hb : Below w0.heap.size w0 w') : ConvPost w0 w g v fmt b c (.panicked [{ v := .iface 53 (.agg #[.int .i64 6, .int .i64 b]), recovered := false }]) w' := by
  subst h
  exact ⟨rfl, hb⟩
section
variable {w0 w : World} {g : Nat} {v : SlV} {fmt : ByteArray} {l : List UInt8} {b nx pl : Int} {lg : Bool}
theorem placeS (hI : isT w0 w g (st fmt l b nx pl lg) v) (hB : Below w0.heap.size w0 w) (hs : Suf fmt l) {o : Int} {t : List UInt8} (h : placeC l = (o, t)) :
    Calls Tryz.prog 88 #[.pointer (some ⟨g, 0, none⟩)] w (RdPost w0 w g v (.int .i64 o) (st fmt t b nx pl lg)) := placeT_calls (k := 3000) hI hB (by rw [placeT_st hs (by omega), h])
theorem flagsS (hI : isT w0 w g (st fmt l b nx pl lg) v) (hB : Below w0.heap.size w0 w) (hs : Suf fmt l) {o : Int} {t : List UInt8} (h : flagsC 0 l = (o, t)) :
    Calls Tryz.prog 89 #[.pointer (some ⟨g, 0, none⟩)] w (RdPost w0 w g v (.int .i64 o) (st fmt t b nx pl lg)) := flagsT_calls (k := 3000) hI hB (by rw [flagsT_st hs (by omega), h])
theorem peekS (hI : isT w0 w g (st fmt l b nx pl lg) v) (hB : Below w0.heap.size w0 w) (hs : Suf fmt l) :
    Calls Tryz.prog 55 #[.pointer (some ⟨g, 0, none⟩)] w (RdPost w0 w g v (.int .u8 (hdI l)) (st fmt l b nx pl lg)) := peekT_calls hI hB (peekT_st hs)
theorem lengthS (hI : isT w0 w g (st fmt l b nx pl lg) v) (hB : Below w0.heap.size w0 w) (hs : Suf fmt l) {o : Int} {t : List UInt8} (h : lenC l = (o, t)) :
    Calls Tryz.prog 92 #[.pointer (some ⟨g, 0, none⟩)] w (RdPost w0 w g v (.int .i64 o) (st fmt t b nx pl lg)) := lengthT_calls hI hB (by rw [lengthT_st hs, h])
theorem fieldS_yes (hI : isT w0 w g (st fmt l b nx pl lg) v) (hB : Below w0.heap.size w0 w) (hs : Suf fmt l) {f : Fld} {t : List UInt8} (h : fieldC l = some (f, t)) :
    Calls Tryz.prog 91 #[.pointer (some ⟨g, 0, none⟩)] w (RdPost w0 w g v (.agg #[.int .i64 f.1, .bool f.2.1, .int .i64 f.2.2]) (st fmt t b nx pl (lg || decide (10000 < f.1)))) :=
  fieldT_calls (k := 3000) (r := .ok (f, st fmt t b nx pl (lg || decide (10000 < f.1)))) hI hB (by rw [fieldT_st hs (by omega), h])
theorem fieldS_no (hI : isT w0 w g (st fmt l b nx pl lg) v) (hB : Below w0.heap.size w0 w) (hs : Suf fmt l) (h : fieldC l = none) :
    Calls Tryz.prog 91 #[.pointer (some ⟨g, 0, none⟩)] w fun e w' => e = .panicked [{ v := .iface 53 (.agg #[.int .i64 6, .int .i64 b]), recovered := false }] ∧ Below w0.heap.size w0 w' :=
  fieldT_calls (k := 3000) (r := .error (6, b)) hI hB (by rw [fieldT_st hs (by omega), h])
theorem skipS_yes (c : UInt8) (hc : (c.toNat : Int) ≠ 0) (hI : isT w0 w g (st fmt l b nx pl lg) v) (hB : Below w0.heap.size w0 w) (hs : Suf fmt l) {t : List UInt8} (h : skipC c l = some t) :
    Calls Tryz.prog 53 #[.pointer (some ⟨g, 0, none⟩), .int .u8 (c.toNat : Int)] w (RdPost w0 w g v (.bool true) (st fmt t b nx pl lg)) := skipT_calls hI hB (by rw [skipT_st hs c hc, h])
theorem skipS_no (c : UInt8) (hc : (c.toNat : Int) ≠ 0) (hI : isT w0 w g (st fmt l b nx pl lg) v) (hB : Below w0.heap.size w0 w) (hs : Suf fmt l) (h : skipC c l = none) :
    Calls Tryz.prog 53 #[.pointer (some ⟨g, 0, none⟩), .int .u8 (c.toNat : Int)] w (RdPost w0 w g v (.bool false) (st fmt l b nx pl lg)) := skipT_calls hI hB (by rw [skipT_st hs c hc, h])
theorem argumentS (hI : isT w0 w g (st fmt l b nx pl lg) v) (hB : Below w0.heap.size w0 w) (n : Int) {o nx' : Int} (h : argC pl nx n = (o, nx')) :
    Calls Tryz.prog 95 #[.pointer (some ⟨g, 0, none⟩), .int .i64 n] w (RdPost w0 w g v (.int .i64 o) (st fmt l b nx' pl (lg || decide (64 < o)))) := argumentT_calls hI hB (by rw [argumentT_st, h])
theorem needS_no (hI : isT w0 w g (st fmt l b nx pl lg) v) :
    Calls Tryz.prog 93 #[.pointer (some ⟨g, 0, none⟩), .bool false] w fun e w' => e = .panicked [{ v := .iface 53 (.agg #[.int .i64 6, .int .i64 b]), recovered := false }] ∧ w' = w := need_no g _ _ _ _ _ _ v w0 w hI
theorem modeS_yes (placed : Bool) (hI : isT w0 w g (st fmt l b nx pl lg) v) (hB : Below w0.heap.size w0 w) (h : pl = 0 ∨ pl = modeOf placed) :
    Calls Tryz.prog 94 #[.pointer (some ⟨g, 0, none⟩), .bool placed] w (RdPost w0 w g v (.tuple #[]) (st fmt l b nx (modeOf placed) lg)) := mode_yes g placed _ _ _ _ _ _ v w0 w hI hB h
theorem modeS_no (placed : Bool) (hI : isT w0 w g (st fmt l b nx pl lg) v) (hB : Below w0.heap.size w0 w) (h : ¬ (pl = 0 ∨ pl = modeOf placed)) :
    Calls Tryz.prog 94 #[.pointer (some ⟨g, 0, none⟩), .bool placed] w fun e w' => e = .panicked [{ v := .iface 53 (.agg #[.int .i64 6, .int .i64 b]), recovered := false }] ∧ Below w0.heap.size w0 w' := mode_no g placed _ _ _ _ _ _ v w0 w hI hB h
end
end Go.Proofs.YtnhbgahfmcicnaaGreatDoor.PA
end
