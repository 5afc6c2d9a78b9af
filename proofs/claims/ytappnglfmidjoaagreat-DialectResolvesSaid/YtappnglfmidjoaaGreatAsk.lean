/- What the methods of a struct of effects do to it: ask, with, slot, whole, low, of the program and of the reference. -/
import Derived.WalkKit
import Derived.WalkSpells
import Derived.Maps.AppendAt
import Derived.Deep.AppendLies
import Derived.Lib.Hide
import Derived.RangeFuncBox
import Derived.Deep.RegionWith
import Derived.StillTailTactics
import Derived.KernelRfl
import Derived.Test.YtappnglfmidjoaaGreatProg
import Derived.Test.YtappnglfmidjoaaGreatSt
set_option linter.unusedVariables false
set_option linter.unusedSimpArgs false
namespace Go.Proofs.YtappnglfmidjoaaGreat.D
open Go Go.RowKit
open Go.Proofs.YtappnglfmidjoaaGreat.DB
abbrev PAt := At 50 69 27 32
abbrev RAt := At 50 58 26 30
theorem infoOp : (Tryz.prog.info? 50).map (fun i => (i.zero, i.size, i.bytes)) = some (some (.agg #[.int .i64 0, .int .i64 0, .int .i64 0]), 3, 24) := by kernel_rfl

set_option maxRecDepth 100000 in
set_option maxHeartbeats 400000 in
theorem pask (base b : Nat) (w : World) (S : St) (k x y : Int) (hA : PAt base w b S) (hl : S.ops.length ≤ 1000) :
    Calls Tryz.prog 63 #[.pointer (some ⟨b, 0, none⟩), .int .i64 k, .int .i64 x, .int .i64 y] w fun e w' => e = .returned (.tuple #[]) ∧ PAt base w' b (S.ask k x y) ∧ Kp 50 base b w w' := by
  obtain ⟨v, hv, ho⟩ := hA.cops
  replace hv : w.cell? ⟨b, 30, none⟩ = some v := hv
  obtain ⟨cs, hc⟩ := hA.blk
  have HC := Lib.hid hc; clear hc
  have hf := hA.fz 30
  have hlt := hA.lt
  have hbb := hA.base_le
  obtain ⟨i0, hi, hzz⟩ := Option.map_eq_some_iff.1 infoOp
  simp only [Prod.mk.injEq] at hzz
  obtain ⟨hz0, hz1, hz2⟩ := hzz
  go_enter Tryz.func63, Tryz.ntmps63
  go_wp2_with (at_builtin; refine wpList_append_own_at _ rfl _ _ 30 rfl base 50 i0 (.agg #[.int .i64 0, .int .i64 0, .int .i64 0]) 3 24 Tryz.underlying30 hi hz0 hz1 hz2 rfl (by decide) v S.ops.length (opvs S.ops) rfl (ho.alloc _) ⟨w.heap.size, 0, none⟩ 1 1 (opv (k, x, y)) rfl rfl (World.news_of_block (cs := #[.int .i64 k, .int .i64 x, .int .i64 y]) (t := 50) (fr := (0, 0)) (heap_alloc_new w _)) (by simp [opv, Value.oneCell']) (by unfold maxLen; omega) (by omega) (by simp; omega) ?_; intro v' w1 hown hg hnil hat; have hst := append_step (T := 69) (by decide) HC.out ho hg; have hc1 := cell_of (hst.1.trans HC.out) 30; have hf1 := frozen_of (hst.1.trans HC.out) 30; rw [← cell_of HC.out 30, hv] at hc1; obtain ⟨g', cap', rfl⟩ := ownsRow_succ hown)
  go_end0
  refine ⟨rfl, ?_, hst.2.setCell _ _ _⟩
  exact hA.set_ops (by decide) (by decide) (by decide) (S.ops ++ [(k, x, y)]) _ hst.1 (by rw [opvs_snoc, List.length_append]; exact hown)
set_option maxRecDepth 100000 in
set_option maxHeartbeats 400000 in
theorem pput (base b : Nat) (w : World) (S : St) (x : Int) (hA : PAt base w b S) :
    Calls Tryz.prog 53 #[.pointer (some ⟨b, 0, none⟩), .int .i64 x] w fun e w' => e = .returned (.tuple #[]) ∧ PAt base w' b (S.put x) ∧ Kp 50 base b w w' := by
  have c27 := hA.cp
  have f27 := hA.fz 27
  have c28 := hA.ch
  have f28 := hA.fz 28
  have c29 := hA.cl
  have f29 := hA.fz 29
  simp only [Nat.reduceAdd] at c28 c29
  go_enter Tryz.func53, Tryz.ntmps53
  go_wp2
  go_end0
  exact ⟨rfl, ((hA.set_p (by decide) (by decide) (by decide) _).set_h (by decide) (by decide) (by decide) _).set_l (by decide) (by decide) (by decide) _, ((((Kp.refl _ _ _ _).setCell _ _ _).setCell _ _ _).setCell _ _ _)⟩
set_option maxRecDepth 100000 in
set_option maxHeartbeats 400000 in
theorem pslot (base b : Nat) (w : World) (S : St) (k : Int) (h0 : 0 ≤ k) (hk : k < 24) (hA : PAt base w b S) :
    Calls Tryz.prog 77 #[.pointer (some ⟨b, 0, none⟩), .int .i64 k] w fun e w' => e = .returned (.int .i64 (S.slot k)) ∧ PAt base w' b S ∧ Kp 50 base b w w' := by
  have ck := hA.slot k.toNat (by omega)
  obtain ⟨u, cu⟩ := hA.any 31 (by decide)
  have fu := hA.fz 31
  go_enter Tryz.func77, Tryz.ntmps77
  go_wp2
  go_ret
  exact ⟨by simp [St.slot], hA.set_other (by decide) 31 _ (by decide) (by decide), (Kp.refl _ _ _ _).setCell _ _ _⟩
set_option maxRecDepth 100000 in
set_option maxHeartbeats 400000 in
theorem pwhole (base b : Nat) (w : World) (S : St) (k : Int) (h0 : 0 ≤ k) (hk : k < 24) (hA : PAt base w b S) :
    Calls Tryz.prog 70 #[.pointer (some ⟨b, 0, none⟩), .int .i64 k] w fun e w' => e = .returned (.tuple #[]) ∧ PAt base w' b (S.whole k) ∧ Kp 50 base b w w' := by
  have cp := hA.cp
  have ck := hA.slot k.toNat (by omega)
  have fk := hA.fz k.toNat
  simp only [List.getD_eq_getElem?_getD] at ck
  by_cases hp : S.p = 0
  · have hpb : (S.p == 0) = true := by simpa using hp
    have hfin : S.whole k = (S.put (S.slot k)).keep k (S.slot k) := by simp [St.whole, hp]
    rw [hfin]
    clear hp hfin
    go_enter Tryz.func70, Tryz.ntmps70
    go_wp2_with (first | (go_at_call 77; refine (pslot base b _ S _ h0 hk hA).mono ?_; rintro e w1 ⟨rfl, hA1, hK1⟩) | (go_at_call 53; refine (pput base b _ S _ hA1).mono ?_; rintro e w2 ⟨rfl, hA2, hK2⟩; have dp := hA2.cp; have dk := hA2.slot k.toNat (by omega); have gk := hA2.fz k.toNat))
    go_region
    go_end0
    refine ⟨rfl, ?_, ((hK1.trans hK2).setCell _ _ _).drew⟩
    exact (hA2.set_slot (by decide) (by decide) (by decide) k.toNat (by omega) _).drew
  · have hpb : (S.p == 0) = false := by simpa using hp
    have hfin : S.whole k = S.keep k S.p := by simp [St.whole, hp]
    rw [hfin]
    clear hp hfin
    go_enter Tryz.func70, Tryz.ntmps70
    go_wp2
    go_region
    go_end0
    exact ⟨rfl, (hA.set_slot (by decide) (by decide) (by decide) k.toNat (by omega) _).drew, ((Kp.refl _ _ _ _).setCell _ _ _).drew⟩
set_option maxRecDepth 100000 in
set_option maxHeartbeats 400000 in
theorem plow (base b : Nat) (w : World) (S : St) (k : Int) (h0 : 0 ≤ k) (hk : k < 24) (hA : PAt base w b S) :
    Calls Tryz.prog 116 #[.pointer (some ⟨b, 0, none⟩), .int .i64 k] w fun e w' => e = .returned (.tuple #[]) ∧ PAt base w' b (S.low k) ∧ Kp 50 base b w w' := by
  have cl := hA.cl
  simp only [Nat.reduceAdd] at cl
  have fl := hA.fz 29
  have ck := hA.slot k.toNat (by omega)
  have fk := hA.fz k.toNat
  simp only [List.getD_eq_getElem?_getD] at ck
  by_cases hp : S.l = 0
  · have hpb : (S.l == 0) = true := by simpa using hp
    have hfin : S.low k = { S with l := S.slot k, slots := S.slots.set k.toNat (S.slot k) } := by simp [St.low, hp]
    rw [hfin]
    clear hp hfin
    go_enter Tryz.func116, Tryz.ntmps116
    go_wp2_with (go_at_call 77; refine (pslot base b _ S _ h0 hk hA).mono ?_; rintro e w1 ⟨rfl, hA1, hK1⟩; have cl1 := hA1.cl; have fl1 := hA1.fz 29; have ck1 := hA1.slot k.toNat (by omega); have fk1 := hA1.fz k.toNat; simp only [Nat.reduceAdd, List.getD_eq_getElem?_getD] at cl1 ck1)
    have hA2 := hA1.set_l (by decide) (by decide) (by decide) (S.slot k)
    have cl2 := hA2.cl
    have fk2 := hA2.fz k.toNat
    simp only [Nat.reduceAdd] at cl2 hA2
    have ck2 := hA2.slot k.toNat (by omega)
    generalize hw2 : w1.setCell _ _ = w2 at *
    have hK2 : Kp 50 base b w w2 := by rw [← hw2]; exact hK1.setCell _ _ _
    clear hw2
    go_region
    go_end0
    exact ⟨rfl, (hA2.set_slot (by decide) (by decide) (by decide) k.toNat (by omega) _).drew, (hK2.setCell _ _ _).drew⟩
  · have hpb : (S.l == 0) = false := by simpa using hp
    have hfin : S.low k = S.keep k S.l := by simp [St.low, hp, St.keep]
    rw [hfin]
    clear hp hfin
    go_enter Tryz.func116, Tryz.ntmps116
    go_wp2
    go_region
    go_end0
    exact ⟨rfl, (hA.set_slot (by decide) (by decide) (by decide) k.toNat (by omega) _).drew, ((Kp.refl _ _ _ _).setCell _ _ _).drew⟩
set_option maxRecDepth 100000 in
set_option maxHeartbeats 400000 in
theorem phalves11 (base b : Nat) (w : World) (S : St) (k : Int) (h0 : 0 ≤ k) (hk : k < 24) (hhz : (S.h == 0) = true) (hlz : (S.l == 0) = true) (hA : PAt base w b S) :
    Calls Tryz.prog 72 #[.pointer (some ⟨b, 0, none⟩), .int .i64 k] w fun e w' => e = .returned (.tuple #[]) ∧ PAt base w' b ((S.put (wrap64 (wrap64 (16 * wrap64 ((S.slot k).tdiv 16)) + (S.slot k).tmod 16))).keep k (wrap64 (wrap64 (16 * wrap64 ((S.slot k).tdiv 16)) + (S.slot k).tmod 16))) ∧ Kp 50 base b w w' := by
  have ch := hA.ch
  have cl := hA.cl
  have ck := hA.slot k.toNat (by omega)
  simp only [Nat.reduceAdd, List.getD_eq_getElem?_getD] at ch cl ck
  have hA0 := hA.drew
  have hK0 := (Kp.refl 50 base b w).drew
  go_enter Tryz.func72, Tryz.ntmps72
  go_wp2
  go_region
  go_wp2_with (first | (go_at_call 77; refine (pslot base b _ S _ h0 hk hA0).mono ?_; clear hA0; rintro e w1 ⟨rfl, hA1, hK1⟩) | (go_at_call 77; refine (pslot base b _ S _ h0 hk hA1).mono ?_; clear hA1; rintro e w2 ⟨rfl, hA2, hK2⟩) | (go_at_call 53; refine (pput base b _ S _ hA2).mono ?_; rintro e w9 ⟨rfl, hA9, hK9⟩; have dp := hA9.cp; have dk := hA9.slot k.toNat (by omega); have gk := hA9.fz k.toNat))
  go_region
  go_end0
  exact ⟨rfl, (hA9.set_slot (by decide) (by decide) (by decide) k.toNat (by omega) _).drew, ((((hK0.trans hK1).trans hK2).trans hK9).setCell _ _ _).drew⟩
set_option maxRecDepth 100000 in
set_option maxHeartbeats 400000 in
theorem phalves10 (base b : Nat) (w : World) (S : St) (k : Int) (h0 : 0 ≤ k) (hk : k < 24) (hhz : (S.h == 0) = true) (hlz : (S.l == 0) = false) (hA : PAt base w b S) :
    Calls Tryz.prog 72 #[.pointer (some ⟨b, 0, none⟩), .int .i64 k] w fun e w' => e = .returned (.tuple #[]) ∧ PAt base w' b ((S.put (wrap64 (wrap64 (16 * wrap64 ((S.slot k).tdiv 16)) + S.l))).keep k (wrap64 (wrap64 (16 * wrap64 ((S.slot k).tdiv 16)) + S.l))) ∧ Kp 50 base b w w' := by
  have ch := hA.ch
  have cl := hA.cl
  have ck := hA.slot k.toNat (by omega)
  simp only [Nat.reduceAdd, List.getD_eq_getElem?_getD] at ch cl ck
  have hA0 := hA.drew
  have hK0 := (Kp.refl 50 base b w).drew
  go_enter Tryz.func72, Tryz.ntmps72
  go_wp2
  go_region
  go_wp2_with (first | (go_at_call 77; refine (pslot base b _ S _ h0 hk hA0).mono ?_; clear hA0; rintro e w1 ⟨rfl, hA1, hK1⟩) | (go_at_call 53; refine (pput base b _ S _ hA1).mono ?_; rintro e w9 ⟨rfl, hA9, hK9⟩; have dp := hA9.cp; have dk := hA9.slot k.toNat (by omega); have gk := hA9.fz k.toNat))
  go_region
  go_end0
  exact ⟨rfl, (hA9.set_slot (by decide) (by decide) (by decide) k.toNat (by omega) _).drew, (((hK0.trans hK1).trans hK9).setCell _ _ _).drew⟩
set_option maxRecDepth 100000 in
set_option maxHeartbeats 400000 in
theorem phalves01 (base b : Nat) (w : World) (S : St) (k : Int) (h0 : 0 ≤ k) (hk : k < 24) (hhz : (S.h == 0) = false) (hlz : (S.l == 0) = true) (hA : PAt base w b S) :
    Calls Tryz.prog 72 #[.pointer (some ⟨b, 0, none⟩), .int .i64 k] w fun e w' => e = .returned (.tuple #[]) ∧ PAt base w' b ((S.put (wrap64 (wrap64 (16 * S.h) + (S.slot k).tmod 16))).keep k (wrap64 (wrap64 (16 * S.h) + (S.slot k).tmod 16))) ∧ Kp 50 base b w w' := by
  have ch := hA.ch
  have cl := hA.cl
  have ck := hA.slot k.toNat (by omega)
  simp only [Nat.reduceAdd, List.getD_eq_getElem?_getD] at ch cl ck
  have hA0 := hA.drew
  have hK0 := (Kp.refl 50 base b w).drew
  go_enter Tryz.func72, Tryz.ntmps72
  go_wp2
  go_region
  go_wp2_with (first | (go_at_call 77; refine (pslot base b _ S _ h0 hk hA0).mono ?_; clear hA0; rintro e w1 ⟨rfl, hA1, hK1⟩) | (go_at_call 53; refine (pput base b _ S _ hA1).mono ?_; rintro e w9 ⟨rfl, hA9, hK9⟩; have dp := hA9.cp; have dk := hA9.slot k.toNat (by omega); have gk := hA9.fz k.toNat))
  go_region
  go_end0
  exact ⟨rfl, (hA9.set_slot (by decide) (by decide) (by decide) k.toNat (by omega) _).drew, (((hK0.trans hK1).trans hK9).setCell _ _ _).drew⟩
set_option maxRecDepth 100000 in
set_option maxHeartbeats 400000 in
theorem phalves00 (base b : Nat) (w : World) (S : St) (k : Int) (h0 : 0 ≤ k) (hk : k < 24) (hhz : (S.h == 0) = false) (hlz : (S.l == 0) = false) (hA : PAt base w b S) :
    Calls Tryz.prog 72 #[.pointer (some ⟨b, 0, none⟩), .int .i64 k] w fun e w' => e = .returned (.tuple #[]) ∧ PAt base w' b ((S.put (wrap64 (wrap64 (16 * S.h) + S.l))).keep k (wrap64 (wrap64 (16 * S.h) + S.l))) ∧ Kp 50 base b w w' := by
  have ch := hA.ch
  have cl := hA.cl
  have ck := hA.slot k.toNat (by omega)
  simp only [Nat.reduceAdd, List.getD_eq_getElem?_getD] at ch cl ck
  have hA0 := hA.drew
  have hK0 := (Kp.refl 50 base b w).drew
  go_enter Tryz.func72, Tryz.ntmps72
  go_wp2
  go_region
  go_wp2_with (first | (go_at_call 53; refine (pput base b _ S _ hA0).mono ?_; rintro e w9 ⟨rfl, hA9, hK9⟩; have dp := hA9.cp; have dk := hA9.slot k.toNat (by omega); have gk := hA9.fz k.toNat))
  go_region
  go_end0
  exact ⟨rfl, (hA9.set_slot (by decide) (by decide) (by decide) k.toNat (by omega) _).drew, ((hK0.trans hK9).setCell _ _ _).drew⟩
set_option maxRecDepth 100000 in
set_option maxHeartbeats 400000 in
theorem phalves (base b : Nat) (w : World) (S : St) (k : Int) (h0 : 0 ≤ k) (hk : k < 24) (hA : PAt base w b S) :
    Calls Tryz.prog 72 #[.pointer (some ⟨b, 0, none⟩), .int .i64 k] w fun e w' => e = .returned (.tuple #[]) ∧ PAt base w' b (S.halves k) ∧ Kp 50 base b w w' := by
  by_cases h : S.h = 0 <;> by_cases l : S.l = 0
  · refine (phalves11 base b w S k h0 hk (by simp [h]) (by simp [l]) hA).mono ?_
    rintro e w' ⟨he, hA', hK'⟩
    exact ⟨he, hA'.eq (by simp [St.halves, h, l]), hK'⟩
  · refine (phalves10 base b w S k h0 hk (by simp [h]) (by simp [l]) hA).mono ?_
    rintro e w' ⟨he, hA', hK'⟩
    exact ⟨he, hA'.eq (by simp [St.halves, h, l]), hK'⟩
  · refine (phalves01 base b w S k h0 hk (by simp [h]) (by simp [l]) hA).mono ?_
    rintro e w' ⟨he, hA', hK'⟩
    exact ⟨he, hA'.eq (by simp [St.halves, h, l]), hK'⟩
  · refine (phalves00 base b w S k h0 hk (by simp [h]) (by simp [l]) hA).mono ?_
    rintro e w' ⟨he, hA', hK'⟩
    exact ⟨he, hA'.eq (by simp [St.halves, h, l]), hK'⟩
set_option maxRecDepth 100000 in
set_option maxHeartbeats 400000 in
theorem pslide_a (base b : Nat) (w : World) (S : St) (t0 : (S.l == 15) = true) (t1 : (S.h != 0) = true) (hl : S.ops.length ≤ 900) (hA : PAt base w b S) :
    Calls Tryz.prog 105 #[.pointer (some ⟨b, 0, none⟩)] w fun e w' => e = .returned (.tuple #[]) ∧ PAt base w' b (S.ask 13 S.h 0) ∧ Kp 50 base b w w' := by
  have ch := hA.ch
  have cl := hA.cl
  simp only [Nat.reduceAdd] at ch cl
  go_enter Tryz.func105, Tryz.ntmps105
  go_wp2_with (go_at_call 63; refine (pask base b _ S _ _ _ hA (by omega)).mono ?_; rintro e w1 ⟨rfl, hA1, hK1⟩)
  go_end0
  exact ⟨rfl, hA1, hK1⟩
set_option maxRecDepth 100000 in
set_option maxHeartbeats 400000 in
theorem pslide_b (base b : Nat) (w : World) (S : St) (t0 : (S.l == 15) = true) (t1 : (S.h != 0) = false) (t2 : (S.h == 15) = false) (hl : S.ops.length ≤ 900) (hA : PAt base w b S) :
    Calls Tryz.prog 105 #[.pointer (some ⟨b, 0, none⟩)] w fun e w' => e = .returned (.tuple #[]) ∧ PAt base w' b (S.ask 12 S.h S.l) ∧ Kp 50 base b w w' := by
  have ch := hA.ch
  have cl := hA.cl
  simp only [Nat.reduceAdd] at ch cl
  go_enter Tryz.func105, Tryz.ntmps105
  go_wp2
  go_still_tail 9, (by kernel_rfl)
  change wpList _ _ _ _ _ w.drew
  have hAd := hA.drew
  have hKd := (Kp.refl 50 base b w).drew
  generalize w.drew = wd at hAd hKd ⊢
  go_wp2_with (go_at_call 63; refine (pask base b _ S _ _ _ hAd (by omega)).mono ?_; rintro e w1 ⟨rfl, hA1, hK1⟩)
  go_end0
  exact ⟨rfl, hA1, hKd.trans hK1⟩
set_option maxRecDepth 100000 in
set_option maxHeartbeats 400000 in
theorem pslide_c (base b : Nat) (w : World) (S : St) (t0 : (S.l == 15) = false) (t1 : (S.h == 15) = true) (t2 : (S.l != 0) = true) (hl : S.ops.length ≤ 900) (hA : PAt base w b S) :
    Calls Tryz.prog 105 #[.pointer (some ⟨b, 0, none⟩)] w fun e w' => e = .returned (.tuple #[]) ∧ PAt base w' b (S.ask 14 S.l 0) ∧ Kp 50 base b w w' := by
  have ch := hA.ch
  have cl := hA.cl
  simp only [Nat.reduceAdd] at ch cl
  go_enter Tryz.func105, Tryz.ntmps105
  go_wp2_with (go_at_call 63; refine (pask base b _ S _ _ _ hA (by omega)).mono ?_; rintro e w1 ⟨rfl, hA1, hK1⟩)
  go_end0
  exact ⟨rfl, hA1, hK1⟩
set_option maxRecDepth 100000 in
set_option maxHeartbeats 400000 in
theorem pslide_d (base b : Nat) (w : World) (S : St) (t0 : (S.l == 15) = false) (t1 : (S.h == 15) = true) (t2 : (S.l != 0) = false) (hl : S.ops.length ≤ 900) (hA : PAt base w b S) :
    Calls Tryz.prog 105 #[.pointer (some ⟨b, 0, none⟩)] w fun e w' => e = .returned (.tuple #[]) ∧ PAt base w' b (S.ask 12 S.h S.l) ∧ Kp 50 base b w w' := by
  have ch := hA.ch
  have cl := hA.cl
  simp only [Nat.reduceAdd] at ch cl
  go_enter Tryz.func105, Tryz.ntmps105
  go_wp2
  go_still_tail 9, (by kernel_rfl)
  change wpList _ _ _ _ _ w.drew
  have hAd := hA.drew
  have hKd := (Kp.refl 50 base b w).drew
  generalize w.drew = wd at hAd hKd ⊢
  go_wp2_with (go_at_call 63; refine (pask base b _ S _ _ _ hAd (by omega)).mono ?_; rintro e w1 ⟨rfl, hA1, hK1⟩)
  go_end0
  exact ⟨rfl, hA1, hKd.trans hK1⟩
set_option maxRecDepth 100000 in
set_option maxHeartbeats 400000 in
theorem pslide_e (base b : Nat) (w : World) (S : St) (t0 : (S.l == 15) = false) (t1 : (S.h == 15) = false) (hl : S.ops.length ≤ 900) (hA : PAt base w b S) :
    Calls Tryz.prog 105 #[.pointer (some ⟨b, 0, none⟩)] w fun e w' => e = .returned (.tuple #[]) ∧ PAt base w' b (S.ask 12 S.h S.l) ∧ Kp 50 base b w w' := by
  have ch := hA.ch
  have cl := hA.cl
  simp only [Nat.reduceAdd] at ch cl
  go_enter Tryz.func105, Tryz.ntmps105
  go_wp2
  go_still_tail 9, (by kernel_rfl)
  change wpList _ _ _ _ _ w.drew
  have hAd := hA.drew
  have hKd := (Kp.refl 50 base b w).drew
  generalize w.drew = wd at hAd hKd ⊢
  go_wp2_with (go_at_call 63; refine (pask base b _ S _ _ _ hAd (by omega)).mono ?_; rintro e w1 ⟨rfl, hA1, hK1⟩)
  go_end0
  exact ⟨rfl, hA1, hKd.trans hK1⟩
set_option maxRecDepth 100000 in
set_option maxHeartbeats 400000 in
theorem pslide (base b : Nat) (w : World) (S : St) (hl : S.ops.length ≤ 900) (hA : PAt base w b S) :
    Calls Tryz.prog 105 #[.pointer (some ⟨b, 0, none⟩)] w fun e w' => e = .returned (.tuple #[]) ∧ PAt base w' b (S.slide) ∧ Kp 50 base b w w' := by
  by_cases l15 : S.l = 15
  · by_cases h0 : S.h = 0
    · refine (pslide_b base b w S (by simp [l15]) (by simp [h0]) (by simp [h0]) hl hA).mono ?_
      rintro e w' ⟨he, hA', hK'⟩
      exact ⟨he, hA'.eq (by simp [St.slide, l15, h0]), hK'⟩
    · refine (pslide_a base b w S (by simp [l15]) (by simp [h0]) hl hA).mono ?_
      rintro e w' ⟨he, hA', hK'⟩
      exact ⟨he, hA'.eq (by simp [St.slide, l15, h0]), hK'⟩
  · by_cases h15 : S.h = 15
    · by_cases l0 : S.l = 0
      · refine (pslide_d base b w S (by simp [l15]) (by simp [h15]) (by simp [l0]) hl hA).mono ?_
        rintro e w' ⟨he, hA', hK'⟩
        exact ⟨he, hA'.eq (by simp [St.slide, l0, h15]), hK'⟩
      · refine (pslide_c base b w S (by simp [l15]) (by simp [h15]) (by simp [l0]) hl hA).mono ?_
        rintro e w' ⟨he, hA', hK'⟩
        exact ⟨he, hA'.eq (by simp [St.slide, l15, l0, h15]), hK'⟩
    · refine (pslide_e base b w S (by simp [l15]) (by simp [h15]) hl hA).mono ?_
      rintro e w' ⟨he, hA', hK'⟩
      exact ⟨he, hA'.eq (by simp [St.slide, l15, h15]), hK'⟩
set_option maxRecDepth 100000 in
set_option maxHeartbeats 400000 in
theorem pbend (base b : Nat) (w : World) (S : St) (fine extra plain : Int) (hl : S.ops.length ≤ 900) (hA : PAt base w b S) :
    Calls Tryz.prog 137 #[.pointer (some ⟨b, 0, none⟩), .int .i64 plain, .int .i64 fine, .int .i64 extra] w fun e w' => e = .returned (.tuple #[]) ∧ PAt base w' b (S.bend fine extra plain) ∧ Kp 50 base b w w' := by
  have cp := hA.cp
  have cl := hA.cl
  simp only [Nat.reduceAdd] at cl
  by_cases p1 : S.p ≥ 240
  · have hfin : S.bend fine extra plain = S.ask fine S.l 0 := by simp [St.bend, p1]
    rw [hfin]
    clear hfin
    go_enter Tryz.func137, Tryz.ntmps137
    go_wp2_with (go_at_call 63; refine (pask base b _ S _ _ _ hA (by omega)).mono ?_; rintro e w1 ⟨rfl, hA1, hK1⟩)
    go_end0
    exact ⟨rfl, hA1, hK1⟩
  · by_cases p2 : S.p ≥ 224
    · have hfin : S.bend fine extra plain = S.ask extra S.l 0 := by simp [St.bend, p1, p2]
      rw [hfin]
      clear hfin
      go_enter Tryz.func137, Tryz.ntmps137
      go_wp2_with (go_at_call 63; refine (pask base b _ S _ _ _ hA (by omega)).mono ?_; rintro e w1 ⟨rfl, hA1, hK1⟩)
      go_end0
      exact ⟨rfl, hA1, hK1⟩
    · have hfin : S.bend fine extra plain = S.ask plain S.p 0 := by simp [St.bend, p1, p2]
      rw [hfin]
      clear hfin
      go_enter Tryz.func137, Tryz.ntmps137
      go_wp2_with (go_at_call 63; refine (pask base b _ S _ _ _ hA (by omega)).mono ?_; rintro e w1 ⟨rfl, hA1, hK1⟩)
      go_end0
      exact ⟨rfl, hA1, hK1⟩
set_option maxRecDepth 100000 in
set_option maxHeartbeats 400000 in
theorem rask (base b : Nat) (w : World) (S : St) (k x y : Int) (hA : RAt base w b S) (hl : S.ops.length ≤ 1000) :
    Calls Tryz.prog 39 #[.pointer (some ⟨b, 0, none⟩), .int .i64 k, .int .i64 x, .int .i64 y] w fun e w' => e = .returned (.tuple #[]) ∧ RAt base w' b (S.ask k x y) ∧ Kp 50 base b w w' := by
  obtain ⟨v, hv, ho⟩ := hA.cops
  replace hv : w.cell? ⟨b, 29, none⟩ = some v := hv
  obtain ⟨cs, hc⟩ := hA.blk
  have HC := Lib.hid hc; clear hc
  have hf := hA.fz 29
  have hlt := hA.lt
  have hbb := hA.base_le
  obtain ⟨i0, hi, hzz⟩ := Option.map_eq_some_iff.1 infoOp
  simp only [Prod.mk.injEq] at hzz
  obtain ⟨hz0, hz1, hz2⟩ := hzz
  go_enter Tryz.func39, Tryz.ntmps39
  go_wp2_with (at_builtin; refine wpList_append_own_at _ rfl _ _ 30 rfl base 50 i0 (.agg #[.int .i64 0, .int .i64 0, .int .i64 0]) 3 24 Tryz.underlying30 hi hz0 hz1 hz2 rfl (by decide) v S.ops.length (opvs S.ops) rfl (ho.alloc _) ⟨w.heap.size, 0, none⟩ 1 1 (opv (k, x, y)) rfl rfl (World.news_of_block (cs := #[.int .i64 k, .int .i64 x, .int .i64 y]) (t := 50) (fr := (0, 0)) (heap_alloc_new w _)) (by simp [opv, Value.oneCell']) (by unfold maxLen; omega) (by omega) (by simp; omega) ?_; intro v' w1 hown hg hnil hat; have hst := append_step (T := 58) (by decide) HC.out ho hg; have hc1 := cell_of (hst.1.trans HC.out) 29; have hf1 := frozen_of (hst.1.trans HC.out) 29; rw [← cell_of HC.out 29, hv] at hc1; obtain ⟨g', cap', rfl⟩ := ownsRow_succ hown)
  go_end0
  refine ⟨rfl, ?_, hst.2.setCell _ _ _⟩
  exact hA.set_ops (by decide) (by decide) (by decide) (S.ops ++ [(k, x, y)]) _ hst.1 (by rw [opvs_snoc, List.length_append]; exact hown)
set_option maxRecDepth 100000 in
set_option maxHeartbeats 400000 in
theorem rput (base b : Nat) (w : World) (S : St) (x : Int) (hA : RAt base w b S) :
    Calls Tryz.prog 40 #[.pointer (some ⟨b, 0, none⟩), .int .i64 x] w fun e w' => e = .returned (.tuple #[]) ∧ RAt base w' b (S.put x) ∧ Kp 50 base b w w' := by
  have c26 := hA.cp
  have f26 := hA.fz 26
  have c27 := hA.ch
  have f27 := hA.fz 27
  have c28 := hA.cl
  have f28 := hA.fz 28
  simp only [Nat.reduceAdd] at c27 c28
  go_enter Tryz.func40, Tryz.ntmps40
  go_wp2
  go_end0
  exact ⟨rfl, ((hA.set_p (by decide) (by decide) (by decide) _).set_h (by decide) (by decide) (by decide) _).set_l (by decide) (by decide) (by decide) _, ((((Kp.refl _ _ _ _).setCell _ _ _).setCell _ _ _).setCell _ _ _)⟩
set_option maxRecDepth 100000 in
set_option maxHeartbeats 400000 in
theorem rwhole (base b : Nat) (w : World) (S : St) (k : Int) (h0 : 0 ≤ k) (hk : k < 24) (hA : RAt base w b S) :
    Calls Tryz.prog 41 #[.pointer (some ⟨b, 0, none⟩), .int .i64 k] w fun e w' => e = .returned (.tuple #[]) ∧ RAt base w' b (S.whole k) ∧ Kp 50 base b w w' := by
  have cp := hA.cp
  have ck := hA.slot k.toNat (by omega)
  have fk := hA.fz k.toNat
  simp only [List.getD_eq_getElem?_getD] at ck
  by_cases hp : S.p = 0
  · have hpb : (S.p == 0) = true := by simpa using hp
    have hfin : S.whole k = (S.put (S.slot k)).keep k (S.slot k) := by simp [St.whole, hp]
    rw [hfin]
    clear hp hfin
    go_enter Tryz.func41, Tryz.ntmps41
    go_wp2_with (first | (go_at_call 40; refine (rput base b _ S _ hA).mono ?_; rintro e w2 ⟨rfl, hA2, hK2⟩; have dp := hA2.cp; have dk := hA2.slot k.toNat (by omega); have gk := hA2.fz k.toNat))
    go_region
    go_end0
    refine ⟨rfl, ?_, (hK2.setCell _ _ _).drew⟩
    exact (hA2.set_slot (by decide) (by decide) (by decide) k.toNat (by omega) _).drew
  · have hpb : (S.p == 0) = false := by simpa using hp
    have hfin : S.whole k = S.keep k S.p := by simp [St.whole, hp]
    rw [hfin]
    clear hp hfin
    go_enter Tryz.func41, Tryz.ntmps41
    go_wp2
    go_region
    go_end0
    exact ⟨rfl, (hA.set_slot (by decide) (by decide) (by decide) k.toNat (by omega) _).drew, ((Kp.refl _ _ _ _).setCell _ _ _).drew⟩
set_option maxRecDepth 100000 in
set_option maxHeartbeats 400000 in
theorem rlow (base b : Nat) (w : World) (S : St) (k : Int) (h0 : 0 ≤ k) (hk : k < 24) (hA : RAt base w b S) :
    Calls Tryz.prog 60 #[.pointer (some ⟨b, 0, none⟩), .int .i64 k] w fun e w' => e = .returned (.tuple #[]) ∧ RAt base w' b (S.low k) ∧ Kp 50 base b w w' := by
  have cl := hA.cl
  simp only [Nat.reduceAdd] at cl
  have fl := hA.fz 28
  have ck := hA.slot k.toNat (by omega)
  have fk := hA.fz k.toNat
  simp only [List.getD_eq_getElem?_getD] at ck
  by_cases hp : S.l = 0
  · have hpb : (S.l == 0) = true := by simpa using hp
    have hfin : S.low k = { S with l := S.slot k, slots := S.slots.set k.toNat (S.slot k) } := by simp [St.low, hp]
    rw [hfin]
    clear hp hfin
    have hA2 := hA.set_l (by decide) (by decide) (by decide) (S.slot k)
    have cl2 := hA2.cl
    have fk2 := hA2.fz k.toNat
    simp only [Nat.reduceAdd] at cl2 hA2
    have ck2 := hA2.slot k.toNat (by omega)
    have hK2 : Kp 50 base b w _ := (Kp.refl _ _ _ _).setCell 28 none (.int .i64 (S.slot k))
    go_enter Tryz.func60, Tryz.ntmps60
    go_wp2
    unfold St.slot at hA2 cl2 ck2 fk2 hK2
    generalize w.setCell _ _ = w2 at *
    go_region
    go_end0
    exact ⟨rfl, (hA2.set_slot (by decide) (by decide) (by decide) k.toNat (by omega) _).drew, (hK2.setCell _ _ _).drew⟩
  · have hpb : (S.l == 0) = false := by simpa using hp
    have hfin : S.low k = S.keep k S.l := by simp [St.low, hp, St.keep]
    rw [hfin]
    clear hp hfin
    go_enter Tryz.func60, Tryz.ntmps60
    go_wp2
    go_region
    go_end0
    exact ⟨rfl, (hA.set_slot (by decide) (by decide) (by decide) k.toNat (by omega) _).drew, ((Kp.refl _ _ _ _).setCell _ _ _).drew⟩
set_option maxRecDepth 100000 in
set_option maxHeartbeats 400000 in
theorem rhalves11 (base b : Nat) (w : World) (S : St) (k : Int) (h0 : 0 ≤ k) (hk : k < 24) (hhz : (S.h == 0) = true) (hlz : (S.l == 0) = true) (hA : RAt base w b S) :
    Calls Tryz.prog 42 #[.pointer (some ⟨b, 0, none⟩), .int .i64 k] w fun e w' => e = .returned (.tuple #[]) ∧ RAt base w' b ((S.put (wrap64 (wrap64 (16 * wrap64 ((S.slot k).tdiv 16)) + (S.slot k).tmod 16))).keep k (wrap64 (wrap64 (16 * wrap64 ((S.slot k).tdiv 16)) + (S.slot k).tmod 16))) ∧ Kp 50 base b w w' := by
  have ch := hA.ch
  have cl := hA.cl
  have ck := hA.slot k.toNat (by omega)
  simp only [Nat.reduceAdd, List.getD_eq_getElem?_getD] at ch cl ck
  have hA0 := hA.drew
  have hK0 := (Kp.refl 50 base b w).drew
  go_enter Tryz.func42, Tryz.ntmps42
  go_wp2
  go_region
  go_wp2_with (first | (go_at_call 40; refine (rput base b _ S _ hA0).mono ?_; rintro e w9 ⟨rfl, hA9, hK9⟩; have dp := hA9.cp; have dk := hA9.slot k.toNat (by omega); have gk := hA9.fz k.toNat))
  go_region
  go_end0
  exact ⟨rfl, (hA9.set_slot (by decide) (by decide) (by decide) k.toNat (by omega) _).drew, ((hK0.trans hK9).setCell _ _ _).drew⟩
set_option maxRecDepth 100000 in
set_option maxHeartbeats 400000 in
theorem rhalves10 (base b : Nat) (w : World) (S : St) (k : Int) (h0 : 0 ≤ k) (hk : k < 24) (hhz : (S.h == 0) = true) (hlz : (S.l == 0) = false) (hA : RAt base w b S) :
    Calls Tryz.prog 42 #[.pointer (some ⟨b, 0, none⟩), .int .i64 k] w fun e w' => e = .returned (.tuple #[]) ∧ RAt base w' b ((S.put (wrap64 (wrap64 (16 * wrap64 ((S.slot k).tdiv 16)) + S.l))).keep k (wrap64 (wrap64 (16 * wrap64 ((S.slot k).tdiv 16)) + S.l))) ∧ Kp 50 base b w w' := by
  have ch := hA.ch
  have cl := hA.cl
  have ck := hA.slot k.toNat (by omega)
  simp only [Nat.reduceAdd, List.getD_eq_getElem?_getD] at ch cl ck
  have hA0 := hA.drew
  have hK0 := (Kp.refl 50 base b w).drew
  go_enter Tryz.func42, Tryz.ntmps42
  go_wp2
  go_region
  go_wp2_with (first | (go_at_call 40; refine (rput base b _ S _ hA0).mono ?_; rintro e w9 ⟨rfl, hA9, hK9⟩; have dp := hA9.cp; have dk := hA9.slot k.toNat (by omega); have gk := hA9.fz k.toNat))
  go_region
  go_end0
  exact ⟨rfl, (hA9.set_slot (by decide) (by decide) (by decide) k.toNat (by omega) _).drew, ((hK0.trans hK9).setCell _ _ _).drew⟩
set_option maxRecDepth 100000 in
set_option maxHeartbeats 400000 in
theorem rhalves01 (base b : Nat) (w : World) (S : St) (k : Int) (h0 : 0 ≤ k) (hk : k < 24) (hhz : (S.h == 0) = false) (hlz : (S.l == 0) = true) (hA : RAt base w b S) :
    Calls Tryz.prog 42 #[.pointer (some ⟨b, 0, none⟩), .int .i64 k] w fun e w' => e = .returned (.tuple #[]) ∧ RAt base w' b ((S.put (wrap64 (wrap64 (16 * S.h) + (S.slot k).tmod 16))).keep k (wrap64 (wrap64 (16 * S.h) + (S.slot k).tmod 16))) ∧ Kp 50 base b w w' := by
  have ch := hA.ch
  have cl := hA.cl
  have ck := hA.slot k.toNat (by omega)
  simp only [Nat.reduceAdd, List.getD_eq_getElem?_getD] at ch cl ck
  have hA0 := hA.drew
  have hK0 := (Kp.refl 50 base b w).drew
  go_enter Tryz.func42, Tryz.ntmps42
  go_wp2
  go_region
  go_wp2_with (first | (go_at_call 40; refine (rput base b _ S _ hA0).mono ?_; rintro e w9 ⟨rfl, hA9, hK9⟩; have dp := hA9.cp; have dk := hA9.slot k.toNat (by omega); have gk := hA9.fz k.toNat))
  go_region
  go_end0
  exact ⟨rfl, (hA9.set_slot (by decide) (by decide) (by decide) k.toNat (by omega) _).drew, ((hK0.trans hK9).setCell _ _ _).drew⟩
set_option maxRecDepth 100000 in
set_option maxHeartbeats 400000 in
theorem rhalves00 (base b : Nat) (w : World) (S : St) (k : Int) (h0 : 0 ≤ k) (hk : k < 24) (hhz : (S.h == 0) = false) (hlz : (S.l == 0) = false) (hA : RAt base w b S) :
    Calls Tryz.prog 42 #[.pointer (some ⟨b, 0, none⟩), .int .i64 k] w fun e w' => e = .returned (.tuple #[]) ∧ RAt base w' b ((S.put (wrap64 (wrap64 (16 * S.h) + S.l))).keep k (wrap64 (wrap64 (16 * S.h) + S.l))) ∧ Kp 50 base b w w' := by
  have ch := hA.ch
  have cl := hA.cl
  have ck := hA.slot k.toNat (by omega)
  simp only [Nat.reduceAdd, List.getD_eq_getElem?_getD] at ch cl ck
  have hA0 := hA.drew
  have hK0 := (Kp.refl 50 base b w).drew
  go_enter Tryz.func42, Tryz.ntmps42
  go_wp2
  go_region
  go_wp2_with (first | (go_at_call 40; refine (rput base b _ S _ hA0).mono ?_; rintro e w9 ⟨rfl, hA9, hK9⟩; have dp := hA9.cp; have dk := hA9.slot k.toNat (by omega); have gk := hA9.fz k.toNat))
  go_region
  go_end0
  exact ⟨rfl, (hA9.set_slot (by decide) (by decide) (by decide) k.toNat (by omega) _).drew, ((hK0.trans hK9).setCell _ _ _).drew⟩
set_option maxRecDepth 100000 in
set_option maxHeartbeats 400000 in
theorem rhalves (base b : Nat) (w : World) (S : St) (k : Int) (h0 : 0 ≤ k) (hk : k < 24) (hA : RAt base w b S) :
    Calls Tryz.prog 42 #[.pointer (some ⟨b, 0, none⟩), .int .i64 k] w fun e w' => e = .returned (.tuple #[]) ∧ RAt base w' b (S.halves k) ∧ Kp 50 base b w w' := by
  by_cases h : S.h = 0 <;> by_cases l : S.l = 0
  · refine (rhalves11 base b w S k h0 hk (by simp [h]) (by simp [l]) hA).mono ?_
    rintro e w' ⟨he, hA', hK'⟩
    exact ⟨he, hA'.eq (by simp [St.halves, h, l]), hK'⟩
  · refine (rhalves10 base b w S k h0 hk (by simp [h]) (by simp [l]) hA).mono ?_
    rintro e w' ⟨he, hA', hK'⟩
    exact ⟨he, hA'.eq (by simp [St.halves, h, l]), hK'⟩
  · refine (rhalves01 base b w S k h0 hk (by simp [h]) (by simp [l]) hA).mono ?_
    rintro e w' ⟨he, hA', hK'⟩
    exact ⟨he, hA'.eq (by simp [St.halves, h, l]), hK'⟩
  · refine (rhalves00 base b w S k h0 hk (by simp [h]) (by simp [l]) hA).mono ?_
    rintro e w' ⟨he, hA', hK'⟩
    exact ⟨he, hA'.eq (by simp [St.halves, h, l]), hK'⟩
set_option maxRecDepth 100000 in
set_option maxHeartbeats 400000 in
theorem rslide_a (base b : Nat) (w : World) (S : St) (t0 : (S.l == 15) = true) (t1 : (S.h != 0) = true) (hl : S.ops.length ≤ 900) (hA : RAt base w b S) :
    Calls Tryz.prog 57 #[.pointer (some ⟨b, 0, none⟩)] w fun e w' => e = .returned (.tuple #[]) ∧ RAt base w' b (S.ask 13 S.h 0) ∧ Kp 50 base b w w' := by
  have ch := hA.ch
  have cl := hA.cl
  simp only [Nat.reduceAdd] at ch cl
  go_enter Tryz.func57, Tryz.ntmps57
  go_wp2_with (go_at_call 39; refine (rask base b _ S _ _ _ hA (by omega)).mono ?_; rintro e w1 ⟨rfl, hA1, hK1⟩)
  go_end0
  exact ⟨rfl, hA1, hK1⟩
set_option maxRecDepth 100000 in
set_option maxHeartbeats 400000 in
theorem rslide_b (base b : Nat) (w : World) (S : St) (t0 : (S.l == 15) = true) (t1 : (S.h != 0) = false) (t2 : (S.h == 15) = false) (hl : S.ops.length ≤ 900) (hA : RAt base w b S) :
    Calls Tryz.prog 57 #[.pointer (some ⟨b, 0, none⟩)] w fun e w' => e = .returned (.tuple #[]) ∧ RAt base w' b (S.ask 12 S.h S.l) ∧ Kp 50 base b w w' := by
  have ch := hA.ch
  have cl := hA.cl
  simp only [Nat.reduceAdd] at ch cl
  go_enter Tryz.func57, Tryz.ntmps57
  go_wp2
  go_still_tail 9, (by kernel_rfl)
  change wpList _ _ _ _ _ w.drew
  have hAd := hA.drew
  have hKd := (Kp.refl 50 base b w).drew
  generalize w.drew = wd at hAd hKd ⊢
  go_wp2_with (go_at_call 39; refine (rask base b _ S _ _ _ hAd (by omega)).mono ?_; rintro e w1 ⟨rfl, hA1, hK1⟩)
  go_end0
  exact ⟨rfl, hA1, hKd.trans hK1⟩
set_option maxRecDepth 100000 in
set_option maxHeartbeats 400000 in
theorem rslide_c (base b : Nat) (w : World) (S : St) (t0 : (S.l == 15) = false) (t1 : (S.h == 15) = true) (t2 : (S.l != 0) = true) (hl : S.ops.length ≤ 900) (hA : RAt base w b S) :
    Calls Tryz.prog 57 #[.pointer (some ⟨b, 0, none⟩)] w fun e w' => e = .returned (.tuple #[]) ∧ RAt base w' b (S.ask 14 S.l 0) ∧ Kp 50 base b w w' := by
  have ch := hA.ch
  have cl := hA.cl
  simp only [Nat.reduceAdd] at ch cl
  go_enter Tryz.func57, Tryz.ntmps57
  go_wp2_with (go_at_call 39; refine (rask base b _ S _ _ _ hA (by omega)).mono ?_; rintro e w1 ⟨rfl, hA1, hK1⟩)
  go_end0
  exact ⟨rfl, hA1, hK1⟩
set_option maxRecDepth 100000 in
set_option maxHeartbeats 400000 in
theorem rslide_d (base b : Nat) (w : World) (S : St) (t0 : (S.l == 15) = false) (t1 : (S.h == 15) = true) (t2 : (S.l != 0) = false) (hl : S.ops.length ≤ 900) (hA : RAt base w b S) :
    Calls Tryz.prog 57 #[.pointer (some ⟨b, 0, none⟩)] w fun e w' => e = .returned (.tuple #[]) ∧ RAt base w' b (S.ask 12 S.h S.l) ∧ Kp 50 base b w w' := by
  have ch := hA.ch
  have cl := hA.cl
  simp only [Nat.reduceAdd] at ch cl
  go_enter Tryz.func57, Tryz.ntmps57
  go_wp2
  go_still_tail 9, (by kernel_rfl)
  change wpList _ _ _ _ _ w.drew
  have hAd := hA.drew
  have hKd := (Kp.refl 50 base b w).drew
  generalize w.drew = wd at hAd hKd ⊢
  go_wp2_with (go_at_call 39; refine (rask base b _ S _ _ _ hAd (by omega)).mono ?_; rintro e w1 ⟨rfl, hA1, hK1⟩)
  go_end0
  exact ⟨rfl, hA1, hKd.trans hK1⟩
set_option maxRecDepth 100000 in
set_option maxHeartbeats 400000 in
theorem rslide_e (base b : Nat) (w : World) (S : St) (t0 : (S.l == 15) = false) (t1 : (S.h == 15) = false) (hl : S.ops.length ≤ 900) (hA : RAt base w b S) :
    Calls Tryz.prog 57 #[.pointer (some ⟨b, 0, none⟩)] w fun e w' => e = .returned (.tuple #[]) ∧ RAt base w' b (S.ask 12 S.h S.l) ∧ Kp 50 base b w w' := by
  have ch := hA.ch
  have cl := hA.cl
  simp only [Nat.reduceAdd] at ch cl
  go_enter Tryz.func57, Tryz.ntmps57
  go_wp2
  go_still_tail 9, (by kernel_rfl)
  change wpList _ _ _ _ _ w.drew
  have hAd := hA.drew
  have hKd := (Kp.refl 50 base b w).drew
  generalize w.drew = wd at hAd hKd ⊢
  go_wp2_with (go_at_call 39; refine (rask base b _ S _ _ _ hAd (by omega)).mono ?_; rintro e w1 ⟨rfl, hA1, hK1⟩)
  go_end0
  exact ⟨rfl, hA1, hKd.trans hK1⟩
set_option maxRecDepth 100000 in
set_option maxHeartbeats 400000 in
theorem rslide (base b : Nat) (w : World) (S : St) (hl : S.ops.length ≤ 900) (hA : RAt base w b S) :
    Calls Tryz.prog 57 #[.pointer (some ⟨b, 0, none⟩)] w fun e w' => e = .returned (.tuple #[]) ∧ RAt base w' b (S.slide) ∧ Kp 50 base b w w' := by
  by_cases l15 : S.l = 15
  · by_cases h0 : S.h = 0
    · refine (rslide_b base b w S (by simp [l15]) (by simp [h0]) (by simp [h0]) hl hA).mono ?_
      rintro e w' ⟨he, hA', hK'⟩
      exact ⟨he, hA'.eq (by simp [St.slide, l15, h0]), hK'⟩
    · refine (rslide_a base b w S (by simp [l15]) (by simp [h0]) hl hA).mono ?_
      rintro e w' ⟨he, hA', hK'⟩
      exact ⟨he, hA'.eq (by simp [St.slide, l15, h0]), hK'⟩
  · by_cases h15 : S.h = 15
    · by_cases l0 : S.l = 0
      · refine (rslide_d base b w S (by simp [l15]) (by simp [h15]) (by simp [l0]) hl hA).mono ?_
        rintro e w' ⟨he, hA', hK'⟩
        exact ⟨he, hA'.eq (by simp [St.slide, l0, h15]), hK'⟩
      · refine (rslide_c base b w S (by simp [l15]) (by simp [h15]) (by simp [l0]) hl hA).mono ?_
        rintro e w' ⟨he, hA', hK'⟩
        exact ⟨he, hA'.eq (by simp [St.slide, l15, l0, h15]), hK'⟩
    · refine (rslide_e base b w S (by simp [l15]) (by simp [h15]) hl hA).mono ?_
      rintro e w' ⟨he, hA', hK'⟩
      exact ⟨he, hA'.eq (by simp [St.slide, l15, h15]), hK'⟩
set_option maxRecDepth 100000 in
set_option maxHeartbeats 400000 in
theorem rbend (base b : Nat) (w : World) (S : St) (fine extra plain : Int) (hl : S.ops.length ≤ 900) (hA : RAt base w b S) :
    Calls Tryz.prog 58 #[.pointer (some ⟨b, 0, none⟩), .int .i64 fine, .int .i64 extra, .int .i64 plain] w fun e w' => e = .returned (.tuple #[]) ∧ RAt base w' b (S.bend fine extra plain) ∧ Kp 50 base b w w' := by
  have cp := hA.cp
  have cl := hA.cl
  simp only [Nat.reduceAdd] at cl
  by_cases p1 : S.p ≥ 240
  · have hfin : S.bend fine extra plain = S.ask fine S.l 0 := by simp [St.bend, p1]
    rw [hfin]
    clear hfin
    go_enter Tryz.func58, Tryz.ntmps58
    go_wp2_with (go_at_call 39; refine (rask base b _ S _ _ _ hA (by omega)).mono ?_; rintro e w1 ⟨rfl, hA1, hK1⟩)
    go_end0
    exact ⟨rfl, hA1, hK1⟩
  · by_cases p2 : S.p ≥ 224
    · have hfin : S.bend fine extra plain = S.ask extra S.l 0 := by simp [St.bend, p1, p2]
      rw [hfin]
      clear hfin
      go_enter Tryz.func58, Tryz.ntmps58
      go_wp2_with (go_at_call 39; refine (rask base b _ S _ _ _ hA (by omega)).mono ?_; rintro e w1 ⟨rfl, hA1, hK1⟩)
      go_end0
      exact ⟨rfl, hA1, hK1⟩
    · have hfin : S.bend fine extra plain = S.ask plain S.p 0 := by simp [St.bend, p1, p2]
      rw [hfin]
      clear hfin
      go_enter Tryz.func58, Tryz.ntmps58
      go_wp2_with (go_at_call 39; refine (rask base b _ S _ _ _ hA (by omega)).mono ?_; rintro e w1 ⟨rfl, hA1, hK1⟩)
      go_end0
      exact ⟨rfl, hA1, hK1⟩

end Go.Proofs.YtappnglfmidjoaaGreat.D
