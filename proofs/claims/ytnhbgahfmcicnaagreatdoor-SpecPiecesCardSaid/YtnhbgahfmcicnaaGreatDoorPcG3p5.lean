/- A part of the proof of the claim's statement. -/
import Derived.Test.YtnhbgahfmcicnaaGreatDoorPcG3p4
import Derived.Deep.RegionHeld3
import Derived.StillTailTactics
import Derived.Defers
import Derived.Recover
import Derived.Laws.Pointers
section
namespace Go.Proofs.YtnhbgahfmcicnaaGreatDoor.PA
set_option linter.unusedVariables false
set_option linter.unusedSimpArgs false
open Go.RowKit Go.Shelf Go.Proofs.YtnhbgahfmcicnaaGreatDoorW.PrintWords Go.Proofs.YtnhbgahfmcicnaaGreatDoorW.PrintLast Go.Proofs.YtnhbgahfmcicnaaGreatDoorW.PrintMore
structure Pv (w0 w : World) (g R : Nat) (v : SlV) (s : RdT) (W : World) : Prop where
 n : Near w0 w g R v s W
 r : W.heap[R]? = some (.cells (cells35 z35) 35 (0, 0))
section
variable {w0 w : World} {g R : Nat} {v : SlV} {s s' : RdT} {W W' : World}
theorem Near.call (h : Near w0 w g R v s W) (hi : isT w0 W' g s' v) (hb : Below w0.heap.size w0 W') (hk : KeepBut W W' g none) : Near w0 w g R v s' W' :=
 ⟨hi, hb, h.k.trans hk (.inl rfl), h.ne, h.hR, h.hw⟩
theorem Near.alloc (h : Near w0 w g R v s W) (o : Obj) : Near w0 w g R v s (W.alloc o) := ⟨IsS59.alloc h.is o, below_alloc h.b o, keep_alloc h.k o, h.ne, h.hR, h.hw⟩
theorem Near.drew (h : Near w0 w g R v s W) : Near w0 w g R v s W.drew := ⟨h.is, below_drew h.b, h.k, h.ne, h.hR, h.hw⟩
theorem Near.drewN (h : Near w0 w g R v s W) (n : Nat) : Near w0 w g R v s (W.drewN n) := ⟨IsS59.drewN h.is n, pw_below_drewN h.b n, keep_drewN h.k n, h.ne, h.hR, h.hw⟩
theorem Pv.call (h : Pv w0 w g R v s W) (hi : isT w0 W' g s' v) (hb : Below w0.heap.size w0 W') (hk : KeepBut W W' g none) : Pv w0 w g R v s' W' :=
 ⟨h.n.call hi hb hk, hk.blk h.r h.n.ne.symm (by simp)⟩
theorem Pv.below (h : Pv w0 w g R v s W) (hb : Below W.heap.size W W') : Pv w0 w g R v s W' :=
 h.call (IsS59.below h.n.is hb) (h.n.b.trans (hb.mono (Nat.le_trans h.n.hw h.n.k.1))) (KeepBut.of_below hb _ _)
theorem Pv.alloc (h : Pv w0 w g R v s W) (o : Obj) : Pv w0 w g R v s (W.alloc o) := h.below (below_alloc (Below.refl _ _) o)
theorem Pv.drewN (h : Pv w0 w g R v s W) (n : Nat) : Pv w0 w g R v s (W.drewN n) := h.below (pw_below_drewN (Below.refl _ _) n)
theorem Pv.drew (h : Pv w0 w g R v s W) : Pv w0 w g R v s W.drew := h.below (below_drew (Below.refl _ _))
theorem Pv.r0 (h : Pv w0 w g R v s W) : W.cell? ⟨R, 0, none⟩ = some (.string ⟨#[]⟩) := blk_cell h.r 0
theorem Pv.r1 (h : Pv w0 w g R v s W) : W.cell? ⟨R, 1, none⟩ = some (.int .i64 0) := blk_cell h.r 1
theorem Pv.r2 (h : Pv w0 w g R v s W) : W.cell? ⟨R, 2, none⟩ = some (.int .i64 0) := blk_cell h.r 2
theorem Pv.r3 (h : Pv w0 w g R v s W) : W.cell? ⟨R, 3, none⟩ = some (.int .i64 0) := blk_cell h.r 3
theorem Pv.r4 (h : Pv w0 w g R v s W) : W.cell? ⟨R, 4, none⟩ = some (.int .i64 0) := blk_cell h.r 4
theorem Pv.r5 (h : Pv w0 w g R v s W) : W.cell? ⟨R, 5, none⟩ = some (.int .i64 0) := blk_cell h.r 5
theorem Pv.r6 (h : Pv w0 w g R v s W) : W.cell? ⟨R, 6, none⟩ = some (.int .i64 0) := blk_cell h.r 6
theorem Pv.r7 (h : Pv w0 w g R v s W) : W.cell? ⟨R, 7, none⟩ = some (.int .i64 0) := blk_cell h.r 7
theorem Pv.r8 (h : Pv w0 w g R v s W) : W.cell? ⟨R, 8, none⟩ = some (.int .u8 0) := blk_cell h.r 8
theorem Pv.fr (h : Pv w0 w g R v s W) (j : Nat) : W.frozen? ⟨R, j, none⟩ = false := blk_frozen h.r j
theorem Pv.start (hI : isT w0 w g s v) (hB : Below w0.heap.size w0 w) (b : Int) : Pv w0 w g w.heap.size v (s.1, s.2.1, b, s.2.2.2) ((w.setCell ⟨g, 2, none⟩ (.int .i64 b)).alloc (.cells (cells35 z35) 35)) :=
 ⟨⟨IsS59.alloc (IsS59.set_2 hI b) _, below_alloc (below_set hB (IsS59.ge hI)) _, keep_alloc (KeepBut.set_ (KeepBut.refl w g none) 2 _) _, by have := IsS59.lt hI; omega, Nat.le_refl _, hB.size⟩,
  by have := World.alloc_heap_new (w.setCell ⟨g, 2, none⟩ (.int .i64 b)) (.cells (cells35 z35) 35); simpa using this⟩
theorem Pv.adv {fmt : ByteArray} {l t : List UInt8} {b nx pl : Int} {lg : Bool} (h : Pv w0 w g R v (st fmt l b nx pl lg) W) (x : Int) (hx : ((fmt.size - t.length : Nat) : Int) = x) : Pv w0 w g R v (st fmt t b nx pl lg) (W.setCell ⟨g, 0, none⟩ (.int .i64 x)) := by
 subst hx
 exact h.call (IsS59.set_0 h.n.is _) (below_set h.n.b (IsS59.ge h.n.is)) (KeepBut.set_ (KeepBut.refl _ _ _) _ _)
theorem isT_c0 (h : isT w0 W g s v) : W.cell? ⟨g, 0, none⟩ = some (.int .i64 s.1) ∧ W.frozen? ⟨g, 0, none⟩ = false := by
 obtain ⟨A6, c6, HG, hg, HS⟩ := h
 exact ⟨cellS59_0 HG, blk_frozen HG 0⟩
theorem isT_c1 (h : isT w0 W g s v) : W.cell? ⟨g, 1, none⟩ = some (.string s.2.1) := by
 obtain ⟨A6, c6, HG, hg, HS⟩ := h
 exact cellS59_1 HG
theorem isT_c2 (h : isT w0 W g s v) : W.cell? ⟨g, 2, none⟩ = some (.int .i64 s.2.2.1) ∧ W.frozen? ⟨g, 2, none⟩ = false := by
 obtain ⟨A6, c6, HG, hg, HS⟩ := h
 exact ⟨cellS59_2 HG, blk_frozen HG 2⟩
theorem isT_c5 (h : isT w0 W g s v) : W.cell? ⟨g, 5, none⟩ = some (.bool s.2.2.2.2.2) := by
 obtain ⟨A6, c6, HG, hg, HS⟩ := h
 exact cellS59_5 HG
end
def offI (fmt : ByteArray) (l : List UInt8) : Int := ((fmt.size - l.length : Nat) : Int)
def PiecePost (w0 w : World) (g : Nat) (v : SlV) (fmt : ByteArray) (l : List UInt8) (p : Except (Int × List UInt8) (S35 × Int × Int × List UInt8)) (e : Ending) (w' : World) : Prop :=
 match p with
 | .ok r => ∃ lg, RdPost w0 w g v (agg35 r.1) (st fmt r.2.2.2 (offI fmt l) r.2.2.1 r.2.1 lg) e w'
 | .error r => e = failE r.1 (offI fmt r.2) ∧ Below w0.heap.size w0 w'
theorem PiecePost.no {w0 w : World} {g : Nat} {v : SlV} {fmt : ByteArray} {l t : List UInt8} {p : Except (Int × List UInt8) (S35 × Int × Int × List UInt8)} {c o : Int} {w' : World} (h : p = .error (c, t)) (ho : offI fmt t = o) (hb : Below w0.heap.size w0 w') : PiecePost w0 w g v fmt l p (.panicked [{ v := .iface 53 (.agg #[.int .i64 c, .int .i64 o]), recovered := false }]) w' := by
 subst h
 subst ho
 exact ⟨rfl, hb⟩
theorem PiecePost.yes {w0 w : World} {g R : Nat} {v : SlV} {fmt : ByteArray} {l t : List UInt8} {p : Except (Int × List UInt8) (S35 × Int × Int × List UInt8)} {x : S35} {pl nx b : Int} {lg : Bool} {w' : World} (h : p = .ok (x, pl, nx, t)) (hb : offI fmt l = b) (hn : Near w0 w g R v (st fmt t b nx pl lg) w') : PiecePost w0 w g v fmt l p (.returned (agg35 x)) w' := by
 subst h
 subst hb
 exact ⟨lg, rfl, hn.is, hn.b, hn.k⟩
section
variable {w0 w : World} {g : Nat} {v : SlV} {fmt : ByteArray} {l : List UInt8} {b nx pl : Int} {lg : Bool}
theorem convS_no (hI : isT w0 w g (st fmt l b nx pl lg) v) (hB : Below w0.heap.size w0 w) (hs : Suf fmt l) (h : convC pl nx l = none) :
  Calls Tryz.prog 56 #[.pointer (some ⟨g, 0, none⟩)] w fun e w' => e = .panicked [{ v := .iface 53 (.agg #[.int .i64 6, .int .i64 b]), recovered := false }] ∧ Below w0.heap.size w0 w' := by
 have := conv_calls hI hB hs
 rw [h] at this
 exact this
theorem convS_yes (hI : isT w0 w g (st fmt l b nx pl lg) v) (hB : Below w0.heap.size w0 w) (hs : Suf fmt l) {r : ConvT} (h : convC pl nx l = some r) :
  Calls Tryz.prog 56 #[.pointer (some ⟨g, 0, none⟩)] w (RdPost w0 w g v (.agg #[.string r.x.f0, .int .i64 r.x.f1, .int .i64 r.x.f2, .int .i64 r.x.f3, .int .i64 r.x.f4, .int .i64 r.x.f5, .int .i64 r.x.f6, .int .i64 r.x.f7, .int .u8 r.x.f8]) (st fmt r.l b r.nx r.pl r.lg)) := by
 have := conv_calls hI hB hs
 rw [h] at this
 exact this
theorem roomS_no (hI : isT w0 w g (st fmt l b nx pl lg) v) (h : v.length = 500) :
  Calls Tryz.prog 32 #[.pointer (some ⟨g, 0, none⟩)] w fun e w' => e = .panicked [{ v := .iface 53 (.agg #[.int .i64 2, .int .i64 b]), recovered := false }] ∧ w' = w := by
 have := room_calls g _ _ _ _ _ _ v w0 w hI
 rw [if_pos h] at this
 exact this
theorem roomS_yes (hI : isT w0 w g (st fmt l b nx pl lg) v) (h : ¬ v.length = 500) :
  Calls Tryz.prog 32 #[.pointer (some ⟨g, 0, none⟩)] w fun e w' => e = .returned (.tuple #[]) ∧ w' = w := by
 have := room_calls g _ _ _ _ _ _ v w0 w hI
 rw [if_neg h] at this
 exact this
end
theorem indexAny_txt : ∀ l : List UInt8, Lib.indexAny l [37, 0] = if l.dropWhile isTxt = [] then -1 else ((l.takeWhile isTxt).length : Int)
 | [] => rfl
 | c :: l => by
  have ih := indexAny_txt l
  unfold Lib.indexAny
  by_cases h : isTxt c = true
  ·have hc : List.contains [37, 0] c = false := by
    unfold isTxt at h
    simp only [Bool.and_eq_true, bne_iff_ne, ne_eq] at h
    simp [h.1, h.2]
   rw [hc, List.dropWhile_cons_of_pos h, List.takeWhile_cons_of_pos h, ih]
   by_cases e : l.dropWhile isTxt = []
   ·simp [e]
   ·simp only [if_neg e, Bool.false_eq_true, if_false, List.length_cons]
    rw [if_neg (by simp)]
    omega
  ·have hc : List.contains [37, 0] c = true := by
    unfold isTxt at h
    simp only [Bool.and_eq_true, bne_iff_ne, ne_eq, not_and, Decidable.not_not] at h
    by_cases e : c = 37
    ·simp [e]
    ·simp [h e]
   rw [hc, List.dropWhile_cons_of_neg h, List.takeWhile_cons_of_neg h]
   simp
theorem drop_take_while (l : List UInt8) : l.drop (l.takeWhile isTxt).length = l.dropWhile isTxt := by
 induction l with
 | nil => rfl
 | cons c l ih =>
  by_cases h : isTxt c = true
  ·rw [List.takeWhile_cons_of_pos h, List.dropWhile_cons_of_pos h]
   exact ih
  ·rw [List.takeWhile_cons_of_neg h, List.dropWhile_cons_of_neg h]
   rfl
theorem len_while (l : List UInt8) : (l.takeWhile isTxt).length + (l.dropWhile isTxt).length = l.length := by
 have h := congrArg List.length (List.takeWhile_append_dropWhile (p := isTxt) (l := l))
 rwa [List.length_append] at h
theorem text_at {fmt : ByteArray} {l : List UInt8} (h : Suf fmt l) (k : Nat) : fmt.extract (fmt.size - l.length) (fmt.size - l.length + k) = ⟨(l.take k).toArray⟩ := by
 apply ByteArray.ext
 apply Array.ext'
 rw [Lib.extract_data, drop_suf h, Nat.add_sub_cancel_left]
theorem rest_at {fmt : ByteArray} {l : List UInt8} (h : Suf fmt l) : (fmt.extract (fmt.size - l.length) fmt.size).data.toList = l := by
 have hl := h.len
 rw [Lib.extract_data, drop_suf h, show fmt.size - (fmt.size - l.length) = l.length from by omega, List.take_length]
end Go.Proofs.YtnhbgahfmcicnaaGreatDoor.PA
end
section
namespace Go.Proofs.YtnhbgahfmcicnaaGreatDoor.PA
set_option linter.unusedVariables false
set_option linter.unusedSimpArgs false
open Go.RowKit Go.Shelf Go.Proofs.YtnhbgahfmcicnaaGreatDoorW.PrintWords Go.Proofs.YtnhbgahfmcicnaaGreatDoorW.PrintLast Go.Proofs.YtnhbgahfmcicnaaGreatDoorW.PrintMore
set_option maxRecDepth 100000 in
set_option maxHeartbeats 4000000 in
theorem peek_quiet {fmt : ByteArray} {p : Nat} {g : Nat} {w : World} {n : Nat} (h0 : (w.drewN n).cell? ⟨g, 0, none⟩ = some (.int .i64 (p : Int))) (h1 : (w.drewN n).cell? ⟨g, 1, none⟩ = some (.string fmt)) (hp : p < fmt.size) (hz : fmt.size ≤ 2000) {c : UInt8} (hc : fmt[p]'hp = c) :
  Calls Tryz.prog 55 #[.pointer (some ⟨g, 0, none⟩)] (w.drewN n) fun e w' => e = .returned (.int .u8 (c.toNat : Int)) ∧ ∃ m, w' = (w.drewN n).drewN m := by
 subst hc
 obtain ⟨W, hW⟩ : ∃ W, w.drewN n = W := ⟨_, rfl⟩
 rw [hW] at h0 h1 ⊢
 clear hW
 have hp0 : (0 : Int) ≤ (p : Int) := Int.natCast_nonneg p
 have hp1 : (p : Int) < (fmt.size : Int) := by omega
 go_enter Tryz.func55, Tryz.ntmps55
 go_wp2_with fail
 go_quiet (fail)
 go_wp2
 go_quiet (fail)
 go_wp2
 go_ret
 exact ⟨rfl, _, World.drewN_drewN _ _ _⟩
set_option maxRecDepth 100000 in
set_option maxHeartbeats 40000000 in
theorem piece_calls {w0 w : World} {g : Nat} {v : SlV} {fmt : ByteArray} {l : List UInt8} {b nx pl : Int} {lg : Bool} (hI : isT w0 w g (st fmt l b nx pl lg) v) (hB : Below w0.heap.size w0 w) (hs : Suf fmt l) :
  Calls Tryz.prog 31 #[.pointer (some ⟨g, 0, none⟩)] w (PiecePost w0 w g v fmt l (pieceC (decide (v.length = 500)) pl nx l)) := by
 obtain ⟨q, hq⟩ : ∃ q, fmt.size - l.length = q := ⟨_, rfl⟩
 have hlen := hs.len
 have hz := hs.z
 have hqz : q ≤ fmt.size := by omega
 have hIa := IsS59.alloc hI (.cells (cells35 z35) 35)
 have hz0 : (w.alloc (.cells (cells35 z35) 35)).cell? ⟨g, 0, none⟩ = some (.int .i64 (q : Int)) := by
  rw [← hq]
  exact (isT_c0 (s := st fmt l b nx pl lg) hIa).1
 have hz2 := (isT_c2 (s := st fmt l b nx pl lg) hIa).1
 have hf2 := (isT_c2 (s := st fmt l b nx pl lg) hIa).2
 have hpv : Pv w0 w g w.heap.size v (st fmt l q nx pl lg) ((w.setCell ⟨g, 2, none⟩ (.int .i64 (q : Int))).alloc (.cells (cells35 z35) 35)) := Pv.start hI hB (q : Int)
 have hglt := IsS59.lt hI
 unfold cells35 z35 at hz0 hz2 hf2 hpv
 dsimp only at hz0 hz2 hf2 hpv
 have PV := Lib.hid hpv
 have HQ := Lib.hid (show offI fmt l = (q : Int) from congrArg Int.ofNat hq)
 have HQN := Lib.hid hq
 obtain ⟨full, hfull⟩ : ∃ x, decide (v.length = 500) = x := ⟨_, rfl⟩
 rw [hfull]
 have HFU := Lib.hid hfull
 clear hI hB hIa hpv hq hfull
 cases hk : skipC 37 l with
 | none =>
  have hpc : pieceC full pl nx l = if full then .error (2, l) else if hdI (l.dropWhile isTxt) = 0 ∧ l.dropWhile isTxt ≠ [] then .error (6, l.dropWhile isTxt)
   else .ok (⟨⟨(l.takeWhile isTxt).toArray⟩, 0, 0, -1, 0, -1, 0, 0, 0⟩, pl, nx, l.dropWhile isTxt) := by unfold pieceC; rw [hk]
  have HPC := Lib.hid hpc
  have HK := Lib.hid hk
  clear hpc hk
  cases full
  ·have hv : ¬ v.length = 500 := of_decide_eq_false HFU.out
   have HV := Lib.hid hv
   clear hv
   have hp2 : pieceC false pl nx l = if hdI (l.dropWhile isTxt) = 0 ∧ l.dropWhile isTxt ≠ [] then .error (6, l.dropWhile isTxt) else .ok (⟨⟨(l.takeWhile isTxt).toArray⟩, 0, 0, -1, 0, -1, 0, 0, 0⟩, pl, nx, l.dropWhile isTxt) := HPC.out
   clear HPC
   obtain ⟨rest, hrest⟩ : ∃ x, l.dropWhile isTxt = x := ⟨_, rfl⟩
   obtain ⟨txt, htxt⟩ : ∃ x, l.takeWhile isTxt = x := ⟨_, rfl⟩
   have hia := indexAny_txt l
   have hdt := drop_take_while l
   have hlw := len_while l
   rw [hrest, htxt] at hp2 hia hdt hlw
   have hpre : l.take txt.length = txt := by rw [← htxt]; exact (List.prefix_iff_eq_take.1 (List.takeWhile_prefix isTxt)).symm
   have HP2 := Lib.hid hp2
   obtain ⟨n, hn⟩ : ∃ n, (if rest = [] then -1 else (txt.length : Int)) = n := ⟨_, rfl⟩
   rw [hn] at hia
   have hra := rest_at hs
   rw [HQN.out] at hra
   have HIA := Lib.hid (fun W => strings_IndexAny.calls (fmt.extract q fmt.size) ⟨#[37, 0]⟩ n W (by unfold strings_IndexAny.f; rw [hra, hia]; exact if_pos ⟨rfl, by rw [ByteArray.size_extract]; omega⟩))
   have HN := Lib.hid hn
   have HDT := Lib.hid hdt
   have HPR := Lib.hid hpre
   have srest : Suf fmt rest := hs.of (by rw [← hdt]; exact List.drop_suffix _ _)
   clear hp2 hrest htxt hia hdt hpre hn hra
   go_enter Tryz.func31, Tryz.ntmps31
   go_upto_region 4 with (first
    | (go_at_call 53; refine (skipS_no 37 (by decide) PV.out.n.is PV.out.n.b hs HK.out).mono ?_; rintro e w1 ⟨rfl, i1, b1, k1⟩)
    | (go_at_call 32; refine (roomS_yes i1 HV.out).mono ?_; rintro e w2 ⟨rfl, rfl⟩))
   have pv := PV.out.call i1 b1 k1
   clear i1 b1 k1
   have hq0 : (0 : Int) ≤ (q : Int) := Int.natCast_nonneg q
   have hq1 : (q : Int) ≤ (fmt.size : Int) := by omega
   have hc0 : w2.cell? ⟨g, 0, none⟩ = some (.int .i64 (q : Int)) := by rw [← HQN.out]; exact (isT_c0 pv.n.is).1
   have hc1 : w2.cell? ⟨g, 1, none⟩ = some (.string fmt) := isT_c1 pv.n.is
   go_cut [3] from 5 (fun s3 wc => s3 = .int .i64 n ∧ Pv w0 w g w.heap.size v (st fmt l q nx pl lg) wc)
   case first =>
    go_region_held3 (fun w' => w'.cell? ⟨g, 0, none⟩ = some (.int .i64 (q : Int)) ∧ w'.cell? ⟨g, 1, none⟩ = some (.string fmt)) (first | go_keep | (refine ⟨pw_cell_below (by assumption) ?_, pw_cell_below (by assumption) ?_⟩ <;> simp [*])) ((go_at_call 54; refine (HIA.out _).mono ?_; rintro e w5 ⟨rfl, b5⟩))
    go_wp2_with fail
    go_meet
    case rel => exact ⟨rfl, pv.drew.below b5⟩
   case rest =>
    clear pv hc0 hc1 HIA
    obtain ⟨rfl, pv⟩ := hcut
    have hc0 : wc.cell? ⟨g, 0, none⟩ = some (.int .i64 (q : Int)) := by rw [← HQN.out]; exact (isT_c0 pv.n.is).1
    have hc1 : wc.cell? ⟨g, 1, none⟩ = some (.string fmt) := isT_c1 pv.n.is
    have hk0 : (0 : Int) ≤ (txt.length : Int) := Int.natCast_nonneg _
    have hk1 : (q : Int) + (txt.length : Int) ≤ (fmt.size : Int) := by have := HQN.out; omega
    have hk2 : (fmt.size : Int) ≤ 2000 := by omega
    go_upto_if 30 with fail
    go_cut [3] from 5 (fun s3 wc => s3 = .int .i64 (txt.length : Int) ∧ Pv w0 w g w.heap.size v (st fmt l q nx pl lg) wc)
    case first =>
     by_cases hr : rest = []
     ·obtain rfl : n = -1 := by rw [← HN.out]; exact if_pos hr
      have HE := Lib.hid (show (fmt.size : Int) - (q : Int) = (txt.length : Int) from by
       rw [hr] at hlw
       simp only [List.length_nil] at hlw
       have := HQN.out
       omega)
      clear hr hlw
      go_wp2_with fail
      go_quiet (fail)
      go_wp2
      go_meet
      case rel => exact ⟨by rw [HE.out], pv.drewN _⟩
     ·obtain rfl : n = (txt.length : Int) := by rw [← HN.out]; exact if_neg hr
      have hnn : ¬ (txt.length : Int) < 0 := by omega
      clear hr
      go_wp2_with fail
      go_meet
      case rel => exact ⟨rfl, pv⟩
    case rest =>
     clear pv hc0 hc1 HN
     obtain ⟨rfl, pv⟩ := hcut
     have hc0 : wc.cell? ⟨g, 0, none⟩ = some (.int .i64 (q : Int)) := by rw [← HQN.out]; exact (isT_c0 pv.n.is).1
     have fc0 := (isT_c0 pv.n.is).2
     go_upto_region 8 with fail
     have pv7 := pv.adv (t := rest) ((q : Int) + (txt.length : Int)) (by have := HQN.out; omega)
     obtain ⟨W7, hW7⟩ : ∃ x, wc.setCell ⟨g, 0, none⟩ (.int .i64 ((q : Int) + (txt.length : Int))) = x := ⟨_, rfl⟩
     rw [hW7] at pv7 ⊢
     clear pv hc0 fc0 hW7
     obtain ⟨p, hp⟩ : ∃ p, fmt.size - rest.length = p := ⟨_, rfl⟩
     have hc0 : W7.cell? ⟨g, 0, none⟩ = some (.int .i64 (p : Int)) := by rw [← hp]; exact (isT_c0 pv7.n.is).1
     have hc1 : W7.cell? ⟨g, 1, none⟩ = some (.string fmt) := isT_c1 pv7.n.is
     have hpq : q + txt.length = p := by have := HQN.out; omega
     have HP := Lib.hid hp
     have HPQ := Lib.hid hpq
     have hp0 : (0 : Int) ≤ (p : Int) := Int.natCast_nonneg _
     have hp1 : (p : Int) ≤ (fmt.size : Int) := by omega
     clear hp hpq hlw
     go_cut [67] from 5 (fun s67 wc => s67 = .bool (decide (hdI rest = 0 ∧ rest ≠ [])) ∧ Pv w0 w g w.heap.size v (st fmt rest q nx pl lg) wc)
     case first =>
      cases rest with
      | nil =>
       have hd : decide (p < fmt.size) = false := decide_eq_false (by have := HP.out; simp only [List.length_nil] at this; omega)
       go_quiet (fail)
       go_wp2
       go_meet
       case rel => exact ⟨rfl, pv7.drewN _⟩
      | cons c t =>
       have hlt : p < fmt.size := by have := HP.out; have := srest.len; simp only [List.length_cons] at *; omega
       have hd : decide (p < fmt.size) = true := decide_eq_true hlt
       have hcb : fmt[p]'hlt = c := by
        have h1 := srest.at_
        rw [HP.out] at h1
        unfold bt at h1
        rw [Int.toNat_natCast, dif_pos hlt] at h1
        exact UInt8.toNat_inj.1 (by omega)
       have hq2 := fun n => peek_quiet (w := W7) (n := n) (g := g) (p := p) hc0 hc1 hlt hs.z hcb
       have HQ2 := Lib.hid hq2
       have HT := Lib.hid (show decide (hdI (c :: t) = 0 ∧ c :: t ≠ []) = ((c.toNat : Int) == 0) from by
        rw [Bool.eq_iff_iff]
        simp [hdI])
       clear hq2 hcb
       go_quiet ((go_at_call 55; exact Calls.quiet_of (HQ2.out _)))
       go_wp2
       go_meet
       case rel => exact ⟨by rw [HT.out], pv7.drewN _⟩
     case rest =>
      clear pv7 hc0 hc1
      obtain ⟨rfl, pv⟩ := hcut
      have hc0 : wc.cell? ⟨g, 0, none⟩ = some (.int .i64 (p : Int)) := by rw [← HP.out]; exact (isT_c0 pv.n.is).1
      have hc1 : wc.cell? ⟨g, 1, none⟩ = some (.string fmt) := isT_c1 pv.n.is
      have hc2 : wc.cell? ⟨g, 2, none⟩ = some (.int .i64 (q : Int)) := (isT_c2 pv.n.is).1
      cases hz0 : decide (hdI rest = 0 ∧ rest ≠ [])
      ·have HZ := Lib.hid (show pieceC false pl nx l = .ok (⟨⟨txt.toArray⟩, 0, 0, -1, 0, -1, 0, 0, 0⟩, pl, nx, rest) from HP2.out.trans (if_neg (of_decide_eq_false hz0)))
       have hr0 := pv.r0
       have hr1 := pv.r1
       have hr2 := pv.r2
       have hr3 := pv.r3
       have hr4 := pv.r4
       have hr5 := pv.r5
       have hr6 := pv.r6
       have hr7 := pv.r7
       have hr8 := pv.r8
       have hfr0 := pv.fr 0
       have hfr1 := pv.fr 1
       have hfr2 := pv.fr 2
       have hfr3 := pv.fr 3
       have hfr4 := pv.fr 4
       have hfr5 := pv.fr 5
       have hfr6 := pv.fr 6
       have hfr7 := pv.fr 7
       have hfr8 := pv.fr 8
       have hqp : (q : Int) ≤ (p : Int) := by have := HPQ.out; omega
       clear hz0
       go_upto_region 10 with fail
       go_still_tail 15, (by kernel_rfl)
       change wpList _ _ _ _ _ wc.drew
       have HTX := Lib.hid (show fmt.extract q p = ⟨txt.toArray⟩ from by
        have h1 := text_at hs txt.length
        rw [HQN.out, HPQ.out, HPR.out] at h1
        exact h1)
       go_wp2
       refine bodyPost_ret (v := .agg #[.string (fmt.extract q p), .int .i64 0, .int .i64 0, .int .i64 (-1), .int .i64 0, .int .i64 (-1), .int .i64 0, .int .i64 0, .int .u8 0]) (by simp [results, Tryz.results31, go_sem, hr0, hr1, hr2, hr3, hr4, hr5, hr6, hr7, hr8]) rfl ?_
       rw [HTX.out]
       exact PiecePost.yes HZ.out HQ.out (((((((((pv.n.set 0 _).set 1 _).set 2 _).set 3 _).set 4 _).set 5 _).set 6 _).set 7 _).set 8 _).drew
      ·have HZ := Lib.hid (show pieceC false pl nx l = .error (6, rest) from HP2.out.trans (if_pos (of_decide_eq_true hz0)))
       clear hz0
       go_wp2_with fail
       exact ⟨rfl, PiecePost.no HZ.out (congrArg Int.ofNat HP.out) pv.n.b⟩
  ·have HP2 := Lib.hid (show pieceC true pl nx l = .error (2, l) from HPC.out)
   go_enter Tryz.func31, Tryz.ntmps31
   go_wp2_with (first
    | (go_at_call 53; refine (skipS_no 37 (by decide) PV.out.n.is PV.out.n.b hs HK.out).mono ?_; rintro e w1 ⟨rfl, i1, b1, k1⟩)
    | (go_at_call 32; refine (roomS_no i1 (of_decide_eq_true HFU.out)).mono ?_; rintro e w2 ⟨rfl, rfl⟩))
   exact ⟨rfl, PiecePost.no HP2.out HQ.out b1⟩
 | some t =>
  have HK := Lib.hid hk
  have st1 : Suf fmt t := hs.of (skipC_suf hk)
  cases hk2 : skipC 37 t with
  | some t' =>
   have HPC := Lib.hid (show pieceC full pl nx l = .ok (⟨⟨#[]⟩, 0, 0, -1, 0, -1, 0, 0, 37⟩, pl, nx, t') from by unfold pieceC; rw [hk]; dsimp only; rw [hk2])
   have HK2 := Lib.hid hk2
   clear hk hk2
   go_enter Tryz.func31, Tryz.ntmps31
   go_upto_if 15 with (go_at_call 53; refine (skipS_yes 37 (by decide) PV.out.n.is PV.out.n.b hs HK.out).mono ?_; rintro e w1 ⟨rfl, i1, b1, k1⟩; have pv := PV.out.call i1 b1 k1)
   clear i1 b1 k1
   go_wp2_with (go_at_call 53; refine (skipS_yes 37 (by decide) pv.n.is pv.n.b st1 HK2.out).mono ?_; rintro e w3 ⟨rfl, i3, b3, k3⟩; have pv3 := pv.call i3 b3 k3; have hr0 := pv3.r0; have hr1 := pv3.r1; have hr2 := pv3.r2; have hr3 := pv3.r3; have hr4 := pv3.r4; have hr5 := pv3.r5; have hr6 := pv3.r6; have hr7 := pv3.r7; have hr8 := pv3.r8; have hfr0 := pv3.fr 0; have hfr1 := pv3.fr 1; have hfr2 := pv3.fr 2; have hfr3 := pv3.fr 3; have hfr4 := pv3.fr 4; have hfr5 := pv3.fr 5; have hfr6 := pv3.fr 6; have hfr7 := pv3.fr 7; have hfr8 := pv3.fr 8)
   refine bodyPost_ret (v := .agg #[.string ⟨#[]⟩, .int .i64 0, .int .i64 0, .int .i64 (-1), .int .i64 0, .int .i64 (-1), .int .i64 0, .int .i64 0, .int .u8 37]) (by simp [results, Tryz.results31, go_sem, hr0, hr1, hr2, hr3, hr4, hr5, hr6, hr7, hr8]) rfl ?_
   exact PiecePost.yes HPC.out HQ.out (((((((((pv3.n.set 0 _).set 1 _).set 2 _).set 3 _).set 4 _).set 5 _).set 6 _).set 7 _).set 8 _)
  | none =>
   cases hcv : convC pl nx t with
   | none =>
    have HPC := Lib.hid (show pieceC full pl nx l = .error (6, l) from by unfold pieceC; rw [hk]; dsimp only; rw [hk2]; dsimp only; rw [hcv])
    have HK2 := Lib.hid hk2
    have HCV := Lib.hid hcv
    clear hk hk2 hcv
    go_enter Tryz.func31, Tryz.ntmps31
    go_upto_if 15 with (go_at_call 53; refine (skipS_yes 37 (by decide) PV.out.n.is PV.out.n.b hs HK.out).mono ?_; rintro e w1 ⟨rfl, i1, b1, k1⟩; have pv := PV.out.call i1 b1 k1)
    clear i1 b1 k1
    go_wp2_with (first
     | (go_at_call 53; refine (skipS_no 37 (by decide) pv.n.is pv.n.b st1 HK2.out).mono ?_; rintro e w3 ⟨rfl, i3, b3, k3⟩)
     | (go_at_call 56; refine (convS_no i3 b3 st1 HCV.out).mono ?_; rintro e w4 ⟨rfl, b4⟩))
    exact ⟨rfl, PiecePost.no HPC.out HQ.out b4⟩
   | some r =>
    have HPC := Lib.hid (show pieceC full pl nx l = if r.lg then .error (2, l) else .ok (r.x, r.pl, r.nx, r.l) from by unfold pieceC; rw [hk]; dsimp only; rw [hk2]; dsimp only; rw [hcv])
    have HK2 := Lib.hid hk2
    have HCV := Lib.hid hcv
    clear hk hk2 hcv
    cases hlg : r.lg
    ·have HP2 := Lib.hid (show pieceC full pl nx l = .ok (r.x, r.pl, r.nx, r.l) from HPC.out.trans (if_neg (by rw [hlg]; decide)))
     have HLG := Lib.hid hlg
     clear hlg HPC
     go_enter Tryz.func31, Tryz.ntmps31
     go_upto_if 15 with (go_at_call 53; refine (skipS_yes 37 (by decide) PV.out.n.is PV.out.n.b hs HK.out).mono ?_; rintro e w1 ⟨rfl, i1, b1, k1⟩; have pv := PV.out.call i1 b1 k1)
     clear i1 b1 k1
     go_upto_region 14 with (first
      | (go_at_call 53; refine (skipS_no 37 (by decide) pv.n.is pv.n.b st1 HK2.out).mono ?_; rintro e w3 ⟨rfl, i3, b3, k3⟩; have pv3 := pv.call i3 b3 k3)
      | (go_at_call 56; refine (convS_yes i3 b3 st1 HCV.out).mono ?_; rintro e w4 ⟨rfl, i4, b4, k4⟩; have pv4 := pv3.call i4 b4 k4))
     have pv5 := pv4.alloc (.cells #[.string r.x.f0, .int .i64 r.x.f1, .int .i64 r.x.f2, .int .i64 r.x.f3, .int .i64 r.x.f4, .int .i64 r.x.f5, .int .i64 r.x.f6, .int .i64 r.x.f7, .int .u8 r.x.f8] 35)
     have hy := World.alloc_heap_new w4 (.cells #[.string r.x.f0, .int .i64 r.x.f1, .int .i64 r.x.f2, .int .i64 r.x.f3, .int .i64 r.x.f4, .int .i64 r.x.f5, .int .i64 r.x.f6, .int .i64 r.x.f7, .int .u8 r.x.f8] 35)
     have hlt4 := blk_lt pv4.r
     have hc5 := isT_c5 pv5.n.is
     rw [show (st fmt r.l q r.nx r.pl r.lg).2.2.2.2.2 = false from HLG.out] at hc5
     have hr0 := pv4.r0
     have hfr0 := pv4.fr 0
     have hr1 := pv4.r1
     have hfr1 := pv4.fr 1
     have hr2 := pv4.r2
     have hfr2 := pv4.fr 2
     have hr3 := pv4.r3
     have hfr3 := pv4.fr 3
     have hr4 := pv4.r4
     have hfr4 := pv4.fr 4
     have hr5 := pv4.r5
     have hfr5 := pv4.fr 5
     have hr6 := pv4.r6
     have hfr6 := pv4.fr 6
     have hr7 := pv4.r7
     have hfr7 := pv4.fr 7
     have hr8 := pv4.r8
     have hfr8 := pv4.fr 8
     clear hy
     go_wp2_with fail
     refine bodyPost_ret (v := .agg #[.string r.x.f0, .int .i64 r.x.f1, .int .i64 r.x.f2, .int .i64 r.x.f3, .int .i64 r.x.f4, .int .i64 r.x.f5, .int .i64 r.x.f6, .int .i64 r.x.f7, .int .u8 r.x.f8]) (by simp [results, Tryz.results31, go_sem, hlt4, hr0, hr1, hr2, hr3, hr4, hr5, hr6, hr7, hr8]) rfl ?_
     exact PiecePost.yes HP2.out HQ.out ((((((((((pv4.n.set 0 _).set 1 _).set 2 _).set 3 _).set 4 _).set 5 _).set 6 _).set 7 _).set 8 _).alloc _)
    ·have HP2 := Lib.hid (show pieceC full pl nx l = .error (2, l) from HPC.out.trans (if_pos hlg))
     have HLG := Lib.hid hlg
     clear hlg HPC
     go_enter Tryz.func31, Tryz.ntmps31
     go_upto_if 15 with (go_at_call 53; refine (skipS_yes 37 (by decide) PV.out.n.is PV.out.n.b hs HK.out).mono ?_; rintro e w1 ⟨rfl, i1, b1, k1⟩; have pv := PV.out.call i1 b1 k1)
     clear i1 b1 k1
     go_upto_region 14 with (first
      | (go_at_call 53; refine (skipS_no 37 (by decide) pv.n.is pv.n.b st1 HK2.out).mono ?_; rintro e w3 ⟨rfl, i3, b3, k3⟩; have pv3 := pv.call i3 b3 k3)
      | (go_at_call 56; refine (convS_yes i3 b3 st1 HCV.out).mono ?_; rintro e w4 ⟨rfl, i4, b4, k4⟩; have pv4 := pv3.call i4 b4 k4))
     have pv5 := pv4.alloc (.cells #[.string r.x.f0, .int .i64 r.x.f1, .int .i64 r.x.f2, .int .i64 r.x.f3, .int .i64 r.x.f4, .int .i64 r.x.f5, .int .i64 r.x.f6, .int .i64 r.x.f7, .int .u8 r.x.f8] 35)
     have hc5 := isT_c5 pv5.n.is
     have hc2 := (isT_c2 pv5.n.is).1
     rw [show (st fmt r.l q r.nx r.pl r.lg).2.2.2.2.2 = true from HLG.out] at hc5
     rw [show (st fmt r.l q r.nx r.pl r.lg).2.2.1 = (q : Int) from rfl] at hc2
     go_wp2_with fail
     exact ⟨rfl, PiecePost.no HP2.out HQ.out pv5.n.b⟩
end Go.Proofs.YtnhbgahfmcicnaaGreatDoor.PA
end
section
namespace Go.Proofs.YtnhbgahfmcicnaaGreatDoor.PA
set_option linter.unusedVariables false
set_option linter.unusedSimpArgs false
open Go.RowKit Go.Shelf Go.Proofs.YtnhbgahfmcicnaaGreatDoorW.PrintWords Go.Proofs.YtnhbgahfmcicnaaGreatDoorW.PrintLast Go.Proofs.YtnhbgahfmcicnaaGreatDoorW.PrintMore
set_option maxRecDepth 100000 in
theorem catch_idle (L E A : Addr) (w : World) :
  CallsD Tryz.prog 30 #[.pointer (some L), .pointer (some E), .pointer (some A)] .returning w fun e u' w' => e = .returned (.tuple #[]) ∧ u' = .returning ∧ w' = w := by
 refine callsD_of_wpS Tryz.func30 rfl fun c₀ cs hu => ?_
 refine wpS_seq ?_
 refine wpS_region ?_
 simp [wpOpsS, go_sem, recoverD, hu, Tryz.ntmps30, Exit.thenS]
 refine wpS_of_wp ?_
 simp only [Array.replicate_succ, Array.replicate_zero, List.push_toArray, List.append_toArray, List.nil_append, List.cons_append, List.setIfInBounds_toArray, List.set_cons_succ, List.set_cons_zero]
 go_wp2
 cases c₀
 simp_all [bodyPostS, results, Tryz.results30]
def failV (c o : Int) : Value := .iface 53 (.agg #[.int .i64 c, .int .i64 o])
set_option maxRecDepth 100000 in
theorem catch_fail (l e a : Nat) (c o : Int) (v1 v2 v3 : Value) (older : List PanicEntry) (w : World) (hl : w.cell? ⟨l, 0, none⟩ = some v1) (he : w.cell? ⟨e, 0, none⟩ = some v2) (ha : w.cell? ⟨a, 0, none⟩ = some v3)
  (fl : w.frozen? ⟨l, 0, none⟩ = false) (fe : w.frozen? ⟨e, 0, none⟩ = false) (fa : w.frozen? ⟨a, 0, none⟩ = false) (hle : ¬ l = e) (hla : ¬ l = a) (hea : ¬ e = a) (ll : l < w.heap.size) (le : e < w.heap.size) (la : a < w.heap.size) :
  CallsD Tryz.prog 30 #[.pointer (some ⟨l, 0, none⟩), .pointer (some ⟨e, 0, none⟩), .pointer (some ⟨a, 0, none⟩)] (.panicking ({ v := failV c o, recovered := false } :: older)) w fun en u' w' =>
   en = .returned (.tuple #[]) ∧ u' = .panicking ({ v := failV c o, recovered := true } :: older) ∧ ∃ W, W = (((w.setCell ⟨l, 0, none⟩ (.slice none 0 0)).setCell ⟨e, 0, none⟩ (.int .i64 c)).setCell ⟨a, 0, none⟩ (.int .i64 o)).alloc (.cells #[.int .i64 c, .int .i64 o] 53) ∧ Drawn0 W w' := by
 unfold failV
 have hta : ∀ W : World, (Instr.typeAssert (.iface 53 (.agg #[.int .i64 c, .int .i64 o])) 20 53 true).run Tryz.prog W = .ok (.tuple #[.agg #[.int .i64 c, .int .i64 o], .bool true]) W := fun _ => by kernel_rfl
 have hel : ¬ e = l := fun h => hle h.symm
 have hal : ¬ a = l := fun h => hla h.symm
 have hae : ¬ a = e := fun h => hea h.symm
 refine callsD_of_wpS Tryz.func30 rfl fun c₀ cs hu => ?_
 refine wpS_seq ?_
 refine wpS_region ?_
 simp [wpOpsS, go_sem, recoverD, hu, Tryz.ntmps30, Exit.thenS]
 refine wpS_of_wp ?_
 simp only [Array.replicate_succ, Array.replicate_zero, List.push_toArray, List.append_toArray, List.nil_append, List.cons_append, List.setIfInBounds_toArray, List.set_cons_succ, List.set_cons_zero]
 go_wp2
 go_region
 all_goals
  go_wp2
  simp [bodyPostS, results, Tryz.results30]
  exact ⟨⟨1, rfl⟩⟩
end Go.Proofs.YtnhbgahfmcicnaaGreatDoor.PA
end
