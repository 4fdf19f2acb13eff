/- A part of the proof of the claim's statement. -/
import Derived.Test.YtnhbgahfmcicnaaGreatDoorPcPAx4
import Derived.Test.YtnhbgahfmcicnaaGreatDoorPcM3
import Derived.Test.YtnhbgahfmcicnaaGreatDoorPcG3p5
import Derived.Deep.LoopGhost
section
namespace Go.Proofs.YtnhbgahfmcicnaaGreatDoor.PA
set_option linter.unusedVariables false
set_option linter.unusedSimpArgs false
open Go.RowKit Go.Shelf Go.Proofs.YtnhbgahfmcicnaaGreatDoorW.PrintWords Go.Proofs.YtnhbgahfmcicnaaGreatDoorW.PrintLast Go.Proofs.YtnhbgahfmcicnaaGreatDoorW.PrintMore
theorem info35 : (Tryz.prog.info? 35).map (fun i => (i.zero, i.size, i.bytes)) = some (some (.agg #[.string ⟨#[]⟩, .int .i64 0, .int .i64 0, .int .i64 0, .int .i64 0, .int .i64 0, .int .i64 0, .int .i64 0, .int .u8 0]), 9, 80) := by kernel_rfl
structure PR (w3 : World) (g : Nat) (fmt : ByteArray) (RES : Except (Int × List UInt8) (List S35)) (acc : List S35) (rest : List UInt8) (b nx pl : Int) (lg : Bool) (sv : SlV) (W : World) : Prop where
 is : isT w3 W g (st fmt rest b nx pl lg) sv
 b : Below w3.heap.size w3 W
 len : sv.length = acc.length
 row : k35.R 35 W w3.heap.size (fun k => k ≠ g) (.slice sv.A sv.length sv.cap) acc
 suf : Suf fmt rest
 res : piecesC (rest.length + 1) acc pl nx rest = RES
 le : acc.length ≤ 500
theorem PR.start {w3 : World} {g : Nat} {fmt : ByteArray} {RES : Except (Int × List UInt8) (List S35)} {W : World} (hi : isT w3 W g (st fmt fmt.data.toList 0 0 0 false) ⟨none, 0, 0⟩) (hb : Below w3.heap.size w3 W) (hz : fmt.size ≤ 2000)
  (hr : piecesC (fmt.data.toList.length + 1) [] 0 0 fmt.data.toList = RES) : PR w3 g fmt RES [] fmt.data.toList 0 0 0 false ⟨none, 0, 0⟩ W :=
 ⟨hi, hb, rfl, Kd.R_nil _ _ _ _ _, ⟨List.suffix_refl _, hz⟩, hr, by simp⟩
structure P3 (w w3 : World) (g : Nat) : Prop where
 s : w3.heap.size = g
 z : w.heap.size + 1 + 1 + 1 = g
 l : w3.heap[w.heap.size]? = some (.cells #[.slice none 0 0] 22 (0, 0))
 e : w3.heap[w.heap.size + 1]? = some (.cells #[.int .i64 0] 23 (0, 0))
 a : w3.heap[w.heap.size + 1 + 1]? = some (.cells #[.int .i64 0] 3 (0, 0))
 b : Below w.heap.size w w3
theorem P3.mk_ (w : World) : P3 w (((w.alloc (.cells #[.slice none 0 0] 22)).alloc (.cells #[.int .i64 0] 23)).alloc (.cells #[.int .i64 0] 3)) (w.heap.size + 1 + 1 + 1) := by
 have h1 := World.alloc_heap_new w (.cells #[.slice none 0 0] 22)
 have h2 := World.alloc_heap_new (w.alloc (.cells #[.slice none 0 0] 22)) (.cells #[.int .i64 0] 23)
 have h3 := World.alloc_heap_new ((w.alloc (.cells #[.slice none 0 0] 22)).alloc (.cells #[.int .i64 0] 23)) (.cells #[.int .i64 0] 3)
 have z1 : (w.alloc (.cells #[.slice none 0 0] 22)).heap.size = w.heap.size + 1 := by simp
 have z2 : ((w.alloc (.cells #[.slice none 0 0] 22)).alloc (.cells #[.int .i64 0] 23)).heap.size = w.heap.size + 1 + 1 := by simp
 rw [z1] at h2
 rw [z2] at h3
 have a2 : Below (w.heap.size + 1) (w.alloc (.cells #[.slice none 0 0] 22)) (((w.alloc (.cells #[.slice none 0 0] 22)).alloc (.cells #[.int .i64 0] 23)).alloc (.cells #[.int .i64 0] 3)) := z1 ▸ below_alloc (below_alloc (Below.refl _ _) _) _
 have a3 : Below (w.heap.size + 1 + 1) ((w.alloc (.cells #[.slice none 0 0] 22)).alloc (.cells #[.int .i64 0] 23)) (((w.alloc (.cells #[.slice none 0 0] 22)).alloc (.cells #[.int .i64 0] 23)).alloc (.cells #[.int .i64 0] 3)) := z2 ▸ below_alloc (Below.refl _ _) _
 exact ⟨by simp, rfl, (a2.block _ (by omega)).trans h1, (a3.block _ (by omega)).trans h2, h3, below_alloc (below_alloc (below_alloc (Below.refl _ _) _) _) _⟩
section
variable {w w3 W : World} {g : Nat}
theorem P3.bl (h : P3 w w3 g) (hb : Below w3.heap.size w3 W) : W.heap[w.heap.size]? = some (.cells #[.slice none 0 0] 22 (0, 0)) := (hb.block _ (blk_lt h.l)).trans h.l
theorem P3.be (h : P3 w w3 g) (hb : Below w3.heap.size w3 W) : W.heap[w.heap.size + 1]? = some (.cells #[.int .i64 0] 23 (0, 0)) := (hb.block _ (blk_lt h.e)).trans h.e
theorem P3.ba (h : P3 w w3 g) (hb : Below w3.heap.size w3 W) : W.heap[w.heap.size + 1 + 1]? = some (.cells #[.int .i64 0] 3 (0, 0)) := (hb.block _ (blk_lt h.a)).trans h.a
theorem P3.below (h : P3 w w3 g) (hb : Below w3.heap.size w3 W) : Below w.heap.size w W := h.b.trans (hb.mono h.b.size)
end
theorem isT_c6 {w0 W : World} {g : Nat} {s : RdT} {v : SlV} (h : isT w0 W g s v) : W.cell? ⟨g, 6, none⟩ = some (.slice v.A v.length v.cap) ∧ W.frozen? ⟨g, 6, none⟩ = false := by
 obtain ⟨A6, c6, HG, hg, HS⟩ := h
 obtain ⟨rfl, rfl⟩ := HS
 exact ⟨cellS59_6 HG, blk_frozen HG 6⟩
def ParsePost (w : World) (r : List S35 × Int × Int) (e : Ending) (w' : World) : Prop :=
 ∃ v0_ : Value, e = .returned (.tuple #[v0_, .int .i64 r.2.1, .int .i64 r.2.2]) ∧ Kd.R k35 35 w' w.heap.size (fun _ => True) v0_ r.1 ∧ Below w.heap.size w w'
theorem isT_set6 {w0 W : World} {g : Nat} {s : RdT} {v : SlV} (h : isT w0 W g s v) (A : Option Addr) (n c : Nat) : isT w0 (W.setCell ⟨g, 6, none⟩ (.slice A n c)) g s ⟨A, n, c⟩ := by
 obtain ⟨A6, c6, HG, hg, HS⟩ := h
 exact ⟨A, c, blk_set HG 6 _, hg, rfl, rfl⟩
section
variable {w3 w : World} {g : Nat} {fmt : ByteArray} {l : List UInt8} {b nx pl : Int} {lg full : Bool} {v : SlV}
theorem pieceS_no (hI : isT w3 w g (st fmt l b nx pl lg) v) (hB : Below w3.heap.size w3 w) (hs : Suf fmt l) (hf : decide (v.length = 500) = full) {c : Int} {t : List UInt8} (h : pieceC full pl nx l = .error (c, t)) :
  Calls Tryz.prog 31 #[.pointer (some ⟨g, 0, none⟩)] w fun e w' => e = .panicked [{ v := .iface 53 (.agg #[.int .i64 c, .int .i64 (offI fmt t)]), recovered := false }] ∧ Below w3.heap.size w3 w' := by
 have := piece_calls hI hB hs
 rw [hf, h] at this
 exact this
theorem pieceS_yes (hI : isT w3 w g (st fmt l b nx pl lg) v) (hB : Below w3.heap.size w3 w) (hs : Suf fmt l) (hf : decide (v.length = 500) = full) {x : S35} {pl' nx' : Int} {t : List UInt8} (h : pieceC full pl nx l = .ok (x, pl', nx', t)) :
  Calls Tryz.prog 31 #[.pointer (some ⟨g, 0, none⟩)] w fun e w' => e = .returned (.agg #[.string x.f0, .int .i64 x.f1, .int .i64 x.f2, .int .i64 x.f3, .int .i64 x.f4, .int .i64 x.f5, .int .i64 x.f6, .int .i64 x.f7, .int .u8 x.f8]) ∧ ∃ lg', isT w3 w' g (st fmt t (offI fmt l) nx' pl' lg') v ∧ Below w3.heap.size w3 w' ∧ KeepBut w w' g none := by
 have := piece_calls hI hB hs
 rw [hf, h] at this
 refine this.mono ?_
 rintro e w' ⟨lg', h1, h2, h3, h4⟩
 exact ⟨h1, lg', h2, h3, h4⟩
end
theorem wp_onlyNormal {P : Program} {s : Code} {Q : Exit → Act → World → Prop} {a : Act} {w : World} (h : s.wp P (fun e a' w' => match e with | .normal => Q .normal a' w' | _ => False) a w) : s.wp P Q a w := by
 refine wp_mono h ?_
 intro e a' w' hq
 cases e <;> first | exact hq | exact hq.elim
theorem end_leaves {w W : World} {tmps : Array Value} {vl : Value} {L : List S35} {c o : Int} (h2 : tmps[2]? = some (.pointer (some ⟨w.heap.size, 0, none⟩))) (h3 : tmps[3]? = some (.pointer (some ⟨w.heap.size + 1, 0, none⟩))) (h4 : tmps[4]? = some (.pointer (some ⟨w.heap.size + 1 + 1, 0, none⟩)))
  (cl : W.cell? ⟨w.heap.size, 0, none⟩ = some vl) (ce : W.cell? ⟨w.heap.size + 1, 0, none⟩ = some (.int .i64 c)) (ca : W.cell? ⟨w.heap.size + 1 + 1, 0, none⟩ = some (.int .i64 o))
  (hrow : Kd.R k35 35 W w.heap.size (fun _ => True) vl L) (hb : Below w.heap.size w W) : Leaves Tryz.prog Tryz.f11 tmps (ParsePost w (L, c, o)) [] .returning W := by
 simp [Leaves, results, Tryz.results11, go_sem, h2, h3, h4, cl, ce, ca]
 exact ⟨vl, rfl, hrow, hb⟩
theorem cell_drewN {W W' : World} (h : Drawn0 W W') (a : Addr) : W'.cell? a = W.cell? a := by
 obtain ⟨n, rfl⟩ := h.out
 rfl
theorem end_fail {w w3 W : World} {g : Nat} {tmps : Array Value} {c o : Int} (hp : P3 w w3 g) (hb : Below w3.heap.size w3 W) (h2 : tmps[2]? = some (.pointer (some ⟨w.heap.size, 0, none⟩))) (h3 : tmps[3]? = some (.pointer (some ⟨w.heap.size + 1, 0, none⟩))) (h4 : tmps[4]? = some (.pointer (some ⟨w.heap.size + 1 + 1, 0, none⟩)))
  {R : List S35 × Int × Int} (hR : R = ([], c, o)) :
  Leaves Tryz.prog Tryz.f11 tmps (ParsePost w R) [{ target := .fn (.func 30) #[.pointer (some ⟨w.heap.size, 0, none⟩), .pointer (some ⟨w.heap.size + 1, 0, none⟩), .pointer (some ⟨w.heap.size + 1 + 1, 0, none⟩)], args := #[] }] (.panicking [{ v := .iface 53 (.agg #[.int .i64 c, .int .i64 o]), recovered := false }]) W := by
 subst hR
 have bl := hp.bl hb
 have be := hp.be hb
 have ba := hp.ba hb
 refine leaves_cons (f := 30) (args := #[.pointer (some ⟨w.heap.size, 0, none⟩), .pointer (some ⟨w.heap.size + 1, 0, none⟩), .pointer (some ⟨w.heap.size + 1 + 1, 0, none⟩)]) (by simp) (by simp [go_sem]) ?_
 refine (catch_fail w.heap.size (w.heap.size + 1) (w.heap.size + 1 + 1) c o _ _ _ [] W (blk_cell bl 0) (blk_cell be 0) (blk_cell ba 0) (blk_frozen bl 0) (blk_frozen be 0) (blk_frozen ba 0) (by omega) (by omega) (by omega) (blk_lt bl) (blk_lt be) (blk_lt ba)).mono ?_
 rintro e u' w'' ⟨rfl, rfl, W2, rfl, hd⟩
 have l2 : (((W.setCell ⟨w.heap.size, 0, none⟩ (.slice none 0 0)).setCell ⟨w.heap.size + 1, 0, none⟩ (.int .i64 c)).setCell ⟨w.heap.size + 1 + 1, 0, none⟩ (.int .i64 o)).heap[w.heap.size]? = some (.cells #[.slice none 0 0] 22 (0, 0)) :=
  blk_far (blk_far (blk_set bl 0 (.slice none 0 0)) (by show w.heap.size ≠ w.heap.size + 1; omega) _) (by show w.heap.size ≠ w.heap.size + 1 + 1; omega) _
 have e2 : (((W.setCell ⟨w.heap.size, 0, none⟩ (.slice none 0 0)).setCell ⟨w.heap.size + 1, 0, none⟩ (.int .i64 c)).setCell ⟨w.heap.size + 1 + 1, 0, none⟩ (.int .i64 o)).heap[w.heap.size + 1]? = some (.cells #[.int .i64 c] 23 (0, 0)) :=
  blk_far (blk_set (blk_far be (by show w.heap.size + 1 ≠ w.heap.size; omega) (.slice none 0 0)) 0 (.int .i64 c)) (by show w.heap.size + 1 ≠ w.heap.size + 1 + 1; omega) _
 have a2 : (((W.setCell ⟨w.heap.size, 0, none⟩ (.slice none 0 0)).setCell ⟨w.heap.size + 1, 0, none⟩ (.int .i64 c)).setCell ⟨w.heap.size + 1 + 1, 0, none⟩ (.int .i64 o)).heap[w.heap.size + 1 + 1]? = some (.cells #[.int .i64 o] 3 (0, 0)) :=
  blk_set (blk_far (blk_far ba (by show w.heap.size + 1 + 1 ≠ w.heap.size; omega) (.slice none 0 0)) (by show w.heap.size + 1 + 1 ≠ w.heap.size + 1; omega) (.int .i64 c)) 0 (.int .i64 o)
 have bW := hp.below hb
 obtain ⟨V, hV⟩ : ∃ V, (((W.setCell ⟨w.heap.size, 0, none⟩ (.slice none 0 0)).setCell ⟨w.heap.size + 1, 0, none⟩ (.int .i64 c)).setCell ⟨w.heap.size + 1 + 1, 0, none⟩ (.int .i64 o)) = V := ⟨_, rfl⟩
 have bV : Below w.heap.size w V := by rw [← hV]; exact below_set (below_set (below_set bW (Nat.le_refl _)) (by omega)) (by omega)
 rw [hV] at l2 e2 a2 hd
 have al := below_alloc (Below.refl V.heap.size V) (.cells #[.int .i64 c, .int .i64 o] 53)
 have hb3 : Below w.heap.size w w'' := by
  obtain ⟨n, rfl⟩ := hd.out
  exact pw_below_drewN (below_alloc bV _) n
 exact end_leaves h2 h3 h4 ((cell_drewN hd _).trans (blk_cell ((al.block _ (blk_lt l2)).trans l2) 0)) ((cell_drewN hd _).trans (blk_cell ((al.block _ (blk_lt e2)).trans e2) 0)) ((cell_drewN hd _).trans (blk_cell ((al.block _ (blk_lt a2)).trans a2) 0)) (Kd.R_nil _ _ _ _ _) hb3
theorem end_ok {w w3 W : World} {g : Nat} {tmps : Array Value} {vl : Value} {L : List S35} {ok : Nat → Prop} (hp : P3 w w3 g) (hb : Below w3.heap.size w3 W) (h2 : tmps[2]? = some (.pointer (some ⟨w.heap.size, 0, none⟩))) (h3 : tmps[3]? = some (.pointer (some ⟨w.heap.size + 1, 0, none⟩))) (h4 : tmps[4]? = some (.pointer (some ⟨w.heap.size + 1 + 1, 0, none⟩)))
  (hrow : Kd.R k35 35 W w3.heap.size ok vl L) {R : List S35 × Int × Int} (hR : R = (L, 0, 0)) :
  Leaves Tryz.prog Tryz.f11 tmps (ParsePost w R) [{ target := .fn (.func 30) #[.pointer (some ⟨w.heap.size, 0, none⟩), .pointer (some ⟨w.heap.size + 1, 0, none⟩), .pointer (some ⟨w.heap.size + 1 + 1, 0, none⟩)], args := #[] }] .returning (((W.setCell ⟨w.heap.size, 0, none⟩ vl).setCell ⟨w.heap.size + 1, 0, none⟩ (.int .i64 0)).setCell ⟨w.heap.size + 1 + 1, 0, none⟩ (.int .i64 0)) := by
 subst hR
 have bl := hp.bl hb
 have be := hp.be hb
 have ba := hp.ba hb
 refine leaves_cons (f := 30) (args := #[.pointer (some ⟨w.heap.size, 0, none⟩), .pointer (some ⟨w.heap.size + 1, 0, none⟩), .pointer (some ⟨w.heap.size + 1 + 1, 0, none⟩)]) (by simp) (by simp [go_sem]) ?_
 refine (catch_idle _ _ _ _).mono ?_
 rintro e u' w'' ⟨rfl, rfl, rfl⟩
 have l2 : (((W.setCell ⟨w.heap.size, 0, none⟩ vl).setCell ⟨w.heap.size + 1, 0, none⟩ (.int .i64 0)).setCell ⟨w.heap.size + 1 + 1, 0, none⟩ (.int .i64 0)).heap[w.heap.size]? = some (.cells #[vl] 22 (0, 0)) :=
  blk_far (blk_far (blk_set bl 0 vl) (by show w.heap.size ≠ w.heap.size + 1; omega) _) (by show w.heap.size ≠ w.heap.size + 1 + 1; omega) _
 have e2 : (((W.setCell ⟨w.heap.size, 0, none⟩ vl).setCell ⟨w.heap.size + 1, 0, none⟩ (.int .i64 0)).setCell ⟨w.heap.size + 1 + 1, 0, none⟩ (.int .i64 0)).heap[w.heap.size + 1]? = some (.cells #[.int .i64 0] 23 (0, 0)) :=
  blk_far (blk_set (blk_far be (by show w.heap.size + 1 ≠ w.heap.size; omega) vl) 0 (.int .i64 0)) (by show w.heap.size + 1 ≠ w.heap.size + 1 + 1; omega) _
 have a2 : (((W.setCell ⟨w.heap.size, 0, none⟩ vl).setCell ⟨w.heap.size + 1, 0, none⟩ (.int .i64 0)).setCell ⟨w.heap.size + 1 + 1, 0, none⟩ (.int .i64 0)).heap[w.heap.size + 1 + 1]? = some (.cells #[.int .i64 0] 3 (0, 0)) :=
  blk_set (blk_far (blk_far ba (by show w.heap.size + 1 + 1 ≠ w.heap.size; omega) vl) (by show w.heap.size + 1 + 1 ≠ w.heap.size + 1; omega) (.int .i64 0)) 0 (.int .i64 0)
 have hs := hp.s
 have hz := hp.z
 have hr2 := Kd.R_bound hrow
 have hr3 : Kd.R k35 35 (((W.setCell ⟨w.heap.size, 0, none⟩ vl).setCell ⟨w.heap.size + 1, 0, none⟩ (.int .i64 0)).setCell ⟨w.heap.size + 1 + 1, 0, none⟩ (.int .i64 0)) w3.heap.size _ vl L :=
  Kd.R_far (Kd.R_far (Kd.R_far hr2 (p := ⟨w.heap.size, 0, none⟩) (fun k hk => by have := hk.2.1; show k ≠ w.heap.size; omega) vl) (p := ⟨w.heap.size + 1, 0, none⟩) (fun k hk => by have := hk.2.1; show k ≠ w.heap.size + 1; omega) (.int .i64 0)) (p := ⟨w.heap.size + 1 + 1, 0, none⟩) (fun k hk => by have := hk.2.1; show k ≠ w.heap.size + 1 + 1; omega) (.int .i64 0)
 exact end_leaves h2 h3 h4 (blk_cell l2 0) (blk_cell e2 0) (blk_cell a2 0) (Kd.R_mono (Kd.R_lower hr3 (by omega)) (fun _ _ => trivial)) (below_set (below_set (below_set (hp.below hb) (Nat.le_refl _)) (by omega)) (by omega))
set_option maxRecDepth 100000 in
set_option maxHeartbeats 40000000 in
theorem parse_calls (a0 : ByteArray) (w : World) : Calls Tryz.prog 11 #[.string a0] w (ParsePost w (parseC a0.data.toList)) := by
 have hdl : a0.data.toList.length = a0.size := data_length a0
 have hmf : ∀ (fn : Fn) (first cap : Array Value) (w : World), (Instr.makeFunc fn first cap).run Tryz.prog w = .ok (.func fn first cap) w := fun _ _ _ _ => rfl
 by_cases hz : 2000 < a0.size
 ·have hp : parseC a0.data.toList = ([], 2, 0) := if_pos (by omega)
  rw [hp]
  have hzi : (2000 : Int) < (a0.size : Int) := by omega
  clear hp hdl
  go_enter_defers Tryz.func11, Tryz.ntmps11
  go_wp2
  simp [bodyPostD, Leaves, settle, results, Tryz.results11, go_sem]
  exact ⟨_, rfl, Kd.R_nil _ _ _ _ _, below_alloc (below_alloc (below_alloc (Below.refl _ _) _) _) _⟩
 ·have hz2 : a0.size ≤ 2000 := by omega
  obtain ⟨RES, hres⟩ : ∃ x, piecesC (a0.data.toList.length + 1) [] 0 0 a0.data.toList = x := ⟨_, rfl⟩
  have hp : parseC a0.data.toList = outC a0.size RES := by
   unfold parseC
   rw [if_neg (by omega), hres, hdl]
  rw [hp]
  have HRES := Lib.hid hres
  have HDL := Lib.hid hdl
  have hzi : ¬ (2000 : Int) < (a0.size : Int) := by omega
  clear hp hres hdl
  go_enter_defers Tryz.func11, Tryz.ntmps11
  go_upto_block 0 with fail
  have hp3 := P3.mk_ w
  obtain ⟨w3, hw3⟩ : ∃ x, (((w.alloc (.cells #[.slice none 0 0] 22)).alloc (.cells #[.int .i64 0] 23)).alloc (.cells #[.int .i64 0] 3)) = x := ⟨_, rfl⟩
  rw [hw3] at hp3 ⊢
  clear hw3
  obtain ⟨g, hg⟩ : ∃ x, w.heap.size + 1 + 1 + 1 = x := ⟨_, rfl⟩
  rw [hg] at hp3 ⊢
  have HP3 := Lib.hid hp3
  have hpr : PR w3 g a0 RES [] a0.data.toList 0 0 0 false ⟨none, 0, 0⟩ (w3.alloc (.cells #[.int .i64 0, .string a0, .int .i64 0, .int .i64 0, .int .i64 0, .bool false, .slice none 0 0] 59)) := by
   refine PR.start ?_ (below_alloc (Below.refl _ _) _) hz2 HRES.out
   have h1 := IsS59.new w3 w3 none 0 0 a0 0 0 0 false ⟨none, 0, 0⟩ (Below.refl _ _) ⟨rfl, rfl⟩
   rw [hp3.s] at h1
   unfold isT st
   rw [HDL.out, Nat.sub_self]
   exact h1
  clear hp3 hg
  go_wp2_with fail
  go_loopg [6] a0.size (fun k x wr => ∃ acc rest b nx pl lg sv, rest.length = k ∧ PR w3 g a0 RES acc rest b nx pl lg sv wr)
  case atStart => exact ⟨_, _, _, _, _, _, _, HDL.out, hpr⟩
  case round =>
   clear hpr
   obtain ⟨acc, rest, b, nx, pl, lg, sv, hk, pr⟩ := hrel
   by_cases hr : rest = []
   ·subst hr
    obtain ⟨A, n, c⟩ := sv
    obtain rfl : n = acc.length := pr.len
    have hc0 : wr.cell? ⟨g, 0, none⟩ = some (.int .i64 (a0.size : Int)) := (isT_c0 pr.is).1
    have hc6 : wr.cell? ⟨g, 6, none⟩ = some (.slice A acc.length c) := (isT_c6 pr.is).1
    have hRES : RES = .ok acc := by rw [← pr.res]; exact piecesC_end
    subst hRES
    obtain ⟨A', c', hv, hle, hC⟩ := Kd.R_reads pr.row
    injection hv with hv1 hv2 hv3
    subst hv1 hv3
    obtain ⟨bw, hbw⟩ : ∃ x, wholeC acc = x := ⟨_, rfl⟩
    have hwf : spec_whole.f (allC acc) = some bw := by
     unfold spec_whole.f
     have := allC_length acc
     have := pr.le
     rw [if_pos (by omega), ← hbw]
     rfl
    have hacc : acc.length ≤ 1000000 := by have := pr.le; omega
    have HC := Lib.hid hC
    have HLE := Lib.hid hle
    have HWF := Lib.hid hwf
    have HBW := Lib.hid hbw
    have HRow := Lib.hid pr.row
    have PRB := Lib.hid pr.b
    have HIS := Lib.hid pr.is
    have hsz : ¬ (a0.size : Int) < (a0.size : Int) := by omega
    clear hC hle hwf hbw pr hk HRES HDL
    cases bw
    ·have HO := Lib.hid (show outC a0.size (.ok acc) = ([], 6, (a0.size : Int)) from if_neg (by rw [HBW.out]; decide))
     go_wp2_with (first
      | (go_at_call 34; refine (spec_all.calls (acc.length + 1) A c acc (allC acc) _ HC.out HLE.out (all_f acc hacc (Nat.lt_succ_self _))).mono ?_; rintro e w5 ⟨v0, rfl, ho, hb5⟩; obtain ⟨A5, c5, rfl, hle5, hc5⟩ := Kd.R_reads ho; have HC5 := Lib.hid hc5; have HLE5 := Lib.hid hle5; clear hc5 hle5 ho)
      | (go_at_call 33; refine (spec_whole.calls A5 c5 (allC acc) false _ HC5.out HLE5.out HWF.out).mono ?_; rintro e w6 ⟨rfl, hb6⟩; have b5 := below_then PRB.out PRB.out.size hb5; have b6 := below_then b5 b5.size hb6; have hc6b := (isT_c6 (IsS59.below (IsS59.below HIS.out hb5) hb6)).1; have hl6 := HP3.out.bl b6; have he6 := HP3.out.be b6; have ha6 := HP3.out.ba b6; have cl := blk_cell hl6 0; have ce := blk_cell he6 0; have ca := blk_cell ha6 0; have fl := blk_frozen hl6 0; have fe := blk_frozen he6 0; have fa := blk_frozen ha6 0))
     exact end_fail HP3.out b6 rfl rfl rfl HO.out
    ·have HO := Lib.hid (show outC a0.size (.ok acc) = (acc, 0, 0) from if_pos HBW.out)
     go_wp2_with (first
      | (go_at_call 34; refine (spec_all.calls (acc.length + 1) A c acc (allC acc) _ HC.out HLE.out (all_f acc hacc (Nat.lt_succ_self _))).mono ?_; rintro e w5 ⟨v0, rfl, ho, hb5⟩; obtain ⟨A5, c5, rfl, hle5, hc5⟩ := Kd.R_reads ho; have HC5 := Lib.hid hc5; have HLE5 := Lib.hid hle5; clear hc5 hle5 ho)
      | (go_at_call 33; refine (spec_whole.calls A5 c5 (allC acc) true _ HC5.out HLE5.out HWF.out).mono ?_; rintro e w6 ⟨rfl, hb6⟩; have b5 := below_then PRB.out PRB.out.size hb5; have b6 := below_then b5 b5.size hb6; have hc6b := (isT_c6 (IsS59.below (IsS59.below HIS.out hb5) hb6)).1; have hl6 := HP3.out.bl b6; have he6 := HP3.out.be b6; have ha6 := HP3.out.ba b6; have cl := blk_cell hl6 0; have ce := blk_cell he6 0; have ca := blk_cell ha6 0; have fl := blk_frozen hl6 0; have fe := blk_frozen he6 0; have fa := blk_frozen ha6 0))
     exact end_ok HP3.out b6 rfl rfl rfl (Kd.R_below (Kd.R_below HRow.out hb5) hb6) HO.out
   ·obtain ⟨A, n, c⟩ := sv
    obtain rfl : n = acc.length := pr.len
    obtain ⟨q, hq⟩ : ∃ q, a0.size - rest.length = q := ⟨_, rfl⟩
    have hlen := pr.suf.len
    have hpos : 0 < rest.length := List.length_pos_iff.2 hr
    have hc0 : wr.cell? ⟨g, 0, none⟩ = some (.int .i64 (q : Int)) := by rw [← hq]; exact (isT_c0 pr.is).1
    have hlt : (q : Int) < (a0.size : Int) := by omega
    have HQ := Lib.hid hq
    obtain ⟨full, hfull⟩ : ∃ x, decide (acc.length = 500) = x := ⟨_, rfl⟩
    have HFU := Lib.hid hfull
    have HIS := Lib.hid pr.is
    have PRB := Lib.hid pr.b
    have HSU := Lib.hid pr.suf
    have HRES2 := Lib.hid pr.res
    have HRow := Lib.hid pr.row
    have HLE := Lib.hid pr.le
    have HK := Lib.hid hk
    have HRN := Lib.hid hr
    clear pr hlen hpos hq hfull hk HRES HDL hr
    cases hp : pieceC full pl nx rest with
    | error er =>
     obtain ⟨cc, t⟩ := er
     have HP := Lib.hid hp
     have HO := Lib.hid (show outC a0.size RES = ([], cc, offI a0 t) from by
      rw [← HRES2.out, piecesC_err HRN.out (by rw [HFU.out]; exact hp)]
      rfl)
     clear hp
     go_wp2_with (go_at_call 31; refine (pieceS_no HIS.out PRB.out HSU.out HFU.out HP.out).mono ?_; rintro e w4 ⟨rfl, b4⟩)
     exact end_fail HP3.out b4 rfl rfl rfl HO.out
    | ok r =>
     obtain ⟨x, pl', nx', l'⟩ := r
     have HP := Lib.hid hp
     clear hp
     cases full
     ·have hn5 : ¬ acc.length = 500 := of_decide_eq_false HFU.out
      have HN5 := Lib.hid hn5
      clear hn5
      go_upto_region 8 with (first
       | (go_at_call 31; refine (pieceS_yes HIS.out PRB.out HSU.out HFU.out HP.out).mono ?_; rintro e w4 ⟨rfl, lg', i4, b4, k4⟩)
       | (go_at_call 32; refine (roomS_yes (IsS59.alloc i4 _) HN5.out).mono ?_; rintro e w5 ⟨rfl, rfl⟩))
      have i5 : isT w3 (w4.alloc (.cells #[.string x.f0, .int .i64 x.f1, .int .i64 x.f2, .int .i64 x.f3, .int .i64 x.f4, .int .i64 x.f5, .int .i64 x.f6, .int .i64 x.f7, .int .u8 x.f8] 35)) g (st a0 l' (offI a0 rest) nx' pl' lg') ⟨A, acc.length, c⟩ := IsS59.alloc i4 _
      have hc6 : (w4.alloc (.cells #[.string x.f0, .int .i64 x.f1, .int .i64 x.f2, .int .i64 x.f3, .int .i64 x.f4, .int .i64 x.f5, .int .i64 x.f6, .int .i64 x.f7, .int .u8 x.f8] 35)).cell? ⟨g, 6, none⟩ = some (.slice A acc.length c) := (isT_c6 i5).1
      have hy := World.alloc_heap_new w4 (.cells #[.string x.f0, .int .i64 x.f1, .int .i64 x.f2, .int .i64 x.f3, .int .i64 x.f4, .int .i64 x.f5, .int .i64 x.f6, .int .i64 x.f7, .int .u8 x.f8] 35)
      have row5 : k35.R 35 (w4.alloc (.cells #[.string x.f0, .int .i64 x.f1, .int .i64 x.f2, .int .i64 x.f3, .int .i64 x.f4, .int .i64 x.f5, .int .i64 x.f6, .int .i64 x.f7, .int .u8 x.f8] 35)) w3.heap.size (fun k => k ≠ g) (.slice A acc.length c) acc := Kd.R_below (Kd.R_keep HRow.out k4 (fun _ h => h)) (below_alloc (Below.refl _ _) _)
      have b5 := below_alloc b4 (.cells #[.string x.f0, .int .i64 x.f1, .int .i64 x.f2, .int .i64 x.f3, .int .i64 x.f4, .int .i64 x.f5, .int .i64 x.f6, .int .i64 x.f7, .int .u8 x.f8] 35)
      have hgl := IsS59.lt i5
      obtain ⟨W5, hW5⟩ : ∃ W5, w4.alloc (.cells #[.string x.f0, .int .i64 x.f1, .int .i64 x.f2, .int .i64 x.f3, .int .i64 x.f4, .int .i64 x.f5, .int .i64 x.f6, .int .i64 x.f7, .int .u8 x.f8] 35) = W5 := ⟨_, rfl⟩
      have hya : W5.heap[w4.heap.size]? = some (.cells #[.string x.f0, .int .i64 x.f1, .int .i64 x.f2, .int .i64 x.f3, .int .i64 x.f4, .int .i64 x.f5, .int .i64 x.f6, .int .i64 x.f7, .int .u8 x.f8] 35 (0, 0)) := by rw [← hW5]; exact hy
      obtain ⟨Yb, hYb⟩ : ∃ Yb, w4.heap.size = Yb := ⟨_, rfl⟩
      rw [hYb] at hya
      rw [hW5] at i5 hc6 row5 b5 hgl ⊢
      rw [hYb]
      have hy0 := (blk_cell hya 0).trans rfl
      have hy1 := (blk_cell hya 1).trans rfl
      have hy2 := (blk_cell hya 2).trans rfl
      have hy3 := (blk_cell hya 3).trans rfl
      have hy4 := (blk_cell hya 4).trans rfl
      have hy5 := (blk_cell hya 5).trans rfl
      have hy6 := (blk_cell hya 6).trans rfl
      have hy7 := (blk_cell hya 7).trans rfl
      have hy8 := (blk_cell hya 8).trans rfl
      have I5 := Lib.hid i5
      have R5 := Lib.hid row5
      have B5 := Lib.hid b5
      have HY := Lib.hid hya
      have HL5 := Lib.hid (show (acc.length + 1) * 80 ≤ 140737488355328 from by have := HLE.out; omega)
      have HGL := Lib.hid (show ∀ k, W5.heap.size ≤ k → k ≠ g from fun k hk => by omega)
      clear hy hya i5 row5 b5 hW5 hYb i4 b4 k4 hc0 hlt
      generalize hQ0 : Exit.inBlock 1 _ = Q0
      have HQ0 := Lib.hid hQ0
      clear hQ0
      refine wp_onlyNormal ?_
      go_region_law ((refine Kd.R_append_step k35 (w0 := w3) (W := W5.drew) w3.heap.size (by simp [Region.wanted]) (.tmp 30) (.tmp 32) 22 35 (.agg #[.string ⟨#[]⟩, .int .i64 0, .int .i64 0, .int .i64 0, .int .i64 0, .int .i64 0, .int .i64 0, .int .i64 0, .int .u8 0]) 80 rfl Tryz.underlying22 info35 rfl (by decide) (by decide) (.slice A acc.length c) acc x [.string x.f0, .int .i64 x.f1, .int .i64 x.f2, .int .i64 x.f3, .int .i64 x.f4, .int .i64 x.f5, .int .i64 x.f6, .int .i64 x.f7, .int .u8 x.f8] (fun k => k ≠ g) (fun _ => False) (by simp [Act.eval, Act.put]) (by simp [Act.eval, Act.put]) (k35_mkM _ _ _ x) (fun _ h => h.elim) HGL.out (Kd.R_drew R5.out) (below_drew B5.out) B5.out.size HL5.out ?_); intro v1 w1 ho1 hb1 hg1 hat1; obtain ⟨A1, c1, rfl⟩ := Kd.R_slice ho1; have i6 := IsS59.grown (IsS59.drew I5.out) hg1 (fun e => R5.out.1 g e.symm rfl); have cc6 := (isT_c6 i6).1; have ff6 := (isT_c6 i6).2)
      all_goals
       show Q0 Exit.normal _ _
       rw [← HQ0.out]
       go_wp2_with fail
       go_roundg l'.length
       case measure =>
        have h1 := (pieceC_suf HP.out HRN.out).2
        have h2 := HK.out
        omega
       case rel =>
        have e1 : (acc ++ [x]).length = acc.length + 1 := by simp
        have ho2 : k35.R 35 w1 w3.heap.size (fun k => k ≠ g) (.slice A1 (acc.length + 1) c1) (acc ++ [x]) := by
         rw [← e1]
         exact ho1
        exact ⟨acc ++ [x], l', offI a0 rest, nx', pl', lg', ⟨A1, acc.length + 1, c1⟩, rfl, isT_set6 i6 A1 (acc.length + 1) c1, below_set hb1 (IsS59.ge i6), e1.symm, Kd.R_far ho2 (p := ⟨g, 6, none⟩) (fun k hk => hk) _,
         HSU.out.of (pieceC_suf HP.out HRN.out).1, (piecesC_step HRN.out (by rw [HFU.out]; exact HP.out) HN5.out).trans HRES2.out, by have h3 := HLE.out; have h4 := HN5.out; rw [e1]; omega⟩
     ·have hn5 : acc.length = 500 := of_decide_eq_true HFU.out
      have HN5 := Lib.hid hn5
      have HO := Lib.hid (show outC a0.size RES = ([], 2, offI a0 rest) from by
       rw [← HRES2.out, piecesC_full HRN.out (by rw [HFU.out]; exact HP.out) HN5.out]
       rfl)
      clear hn5
      go_wp2_with (first
       | (go_at_call 31; refine (pieceS_yes HIS.out PRB.out HSU.out HFU.out HP.out).mono ?_; rintro e w4 ⟨rfl, lg', i4, b4, k4⟩)
       | (go_at_call 32; refine (roomS_no (IsS59.alloc i4 _) HN5.out).mono ?_; rintro e w5 ⟨rfl, rfl⟩))
      exact end_fail HP3.out (below_alloc b4 _) rfl rfl rfl HO.out
theorem spec_Parse.calls (a0 : ByteArray) (r1 : List (S35)) (r2 : Int) (r3 : Int) (w : World) (h : spec_Parse.f a0 = some (r1, r2, r3)) :
  Calls Tryz.prog 11 #[.string a0] w fun e w' => ∃ v0_ : Value, e = .returned (.tuple #[v0_, .int .i64 r2, .int .i64 r3]) ∧ Kd.R k35 35 w' w.heap.size (fun _ => True) v0_ r1 ∧ Below w.heap.size w w' := by
 have h1 := parse_calls a0 w
 rw [Option.some.inj h] at h1
 exact h1
end Go.Proofs.YtnhbgahfmcicnaaGreatDoor.PA
end
