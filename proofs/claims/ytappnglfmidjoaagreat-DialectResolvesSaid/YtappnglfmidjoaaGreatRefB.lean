/- The reference: four. -/
import Derived.Test.YtappnglfmidjoaaGreatRefA
set_option linter.unusedVariables false
set_option linter.unusedSimpArgs false
namespace Go.Proofs.YtappnglfmidjoaaGreat.D
open Go Go.RowKit
open Go.Proofs.YtappnglfmidjoaaGreat.DB
set_option maxRecDepth 100000 in
set_option maxHeartbeats 400000 in
theorem r_four_48_v0 (base b : Nat) (w : World) (S : St)   (t0 : ((S).p != 0) = true) (hl : S.ops.length ≤ 800) (hA : RAt base w b S) :
    Calls Tryz.prog 43 #[.pointer (some ⟨b, 0, none⟩), .int .u8 48] w fun e w' => e = .returned (.tuple #[]) ∧ RAt base w' b ((S).ask (1) ((S).h) ((S).l)) ∧ Kp 50 base b w w' := by
  have cp := hA.cp
  have ch := hA.ch
  simp only [Nat.reduceAdd] at ch
  have cl := hA.cl
  simp only [Nat.reduceAdd] at cl
  have hK0 := Kp.refl 50 base b w
  go_enter Tryz.func43, Tryz.ntmps43
  go_wp2_with fail
  go_still_tail 9, (by kernel_rfl)
  change wpList _ _ _ _ _ w.drew
  have hA1 := hA.drew
  have hK1 := hK0.drew
  clear hA hK0
  generalize w.drew = w1 at hA1 hK1 ⊢
  have cp1 := hA1.cp
  have ch1 := hA1.ch
  simp only [Nat.reduceAdd] at ch1
  have cl1 := hA1.cl
  simp only [Nat.reduceAdd] at cl1
  go_wp2_with (go_at_call 39; refine (rask base b _ (S) _ _ _ hA1 (by first | omega | (simp only [St.ops_ask, St.ops_put, St.ops_whole, St.ops_halves, St.ops_low, St.ops_keep, List.length_append, List.length_cons, List.length_nil]; omega))).mono ?_; clear hA1; rintro e2 w2 ⟨rfl, hA2, hN2⟩; have hK2 := hK1.trans hN2; clear hN2 hK1; have cp2 := hA2.cp; have ch2 := hA2.ch; simp only [Nat.reduceAdd] at ch2; have cl2 := hA2.cl; simp only [Nat.reduceAdd] at cl2)
  go_end0
  exact ⟨rfl, hA2, hK2⟩
set_option maxRecDepth 100000 in
set_option maxHeartbeats 400000 in
theorem r_four_48_v1 (base b : Nat) (w : World) (S : St)   (t0 : ((S).p != 0) = false) (hl : S.ops.length ≤ 800) (hA : RAt base w b S) :
    Calls Tryz.prog 43 #[.pointer (some ⟨b, 0, none⟩), .int .u8 48] w fun e w' => e = .returned (.tuple #[]) ∧ RAt base w' b (S) ∧ Kp 50 base b w w' := by
  have cp := hA.cp
  have ch := hA.ch
  simp only [Nat.reduceAdd] at ch
  have cl := hA.cl
  simp only [Nat.reduceAdd] at cl
  have hK0 := Kp.refl 50 base b w
  go_enter Tryz.func43, Tryz.ntmps43
  go_wp2
  go_end0
  exact ⟨rfl, hA, hK0⟩
set_option maxRecDepth 100000 in
set_option maxHeartbeats 200000 in
theorem r_four_48 (base b : Nat) (w : World) (S : St)  (hl : S.ops.length ≤ 800) (hA : RAt base w b S) :
    Calls Tryz.prog 43 #[.pointer (some ⟨b, 0, none⟩), .int .u8 48] w fun e w' => e = .returned (.tuple #[]) ∧ RAt base w' b ((St.fUnless0 (St.fBoth 1)) S) ∧ Kp 50 base b w w' := by
  by_cases z0 : ((S).p ≠ 0)
  · refine (r_four_48_v0 base b w S  (by first | omega | (simp; omega) | (simp [*]; done) | simpa using ‹_›) hl hA).mono ?_
    rintro e w' ⟨he, hA', hK'⟩
    exact ⟨he, hA'.eq (by first | (simp [St.fBoth, St.fUnless0, z0]; done) | (simp [St.fBoth, St.fUnless0, z0, Int.min_def]; done) | (simp [St.fBoth, St.fUnless0, z0, Int.min_def]; omega) | (have hmin := Int.min_def; simp only [St.fBoth, St.fUnless0, Int.min_def]; split <;> first | rfl | omega)), hK'⟩
  · refine (r_four_48_v1 base b w S  (by first | omega | (simp; omega) | (simp [*]; done) | simpa using ‹_›) hl hA).mono ?_
    rintro e w' ⟨he, hA', hK'⟩
    exact ⟨he, hA'.eq (by first | (simp [St.fBoth, St.fUnless0, z0]; done) | (simp [St.fBoth, St.fUnless0, z0, Int.min_def]; done) | (simp [St.fBoth, St.fUnless0, z0, Int.min_def]; omega) | (have hmin := Int.min_def; simp only [St.fBoth, St.fUnless0, Int.min_def]; split <;> first | rfl | omega)), hK'⟩
set_option maxRecDepth 100000 in
set_option maxHeartbeats 400000 in
theorem r_four_49_v (base b : Nat) (w : World) (S : St)    (hl : S.ops.length ≤ 800) (hA : RAt base w b S) :
    Calls Tryz.prog 43 #[.pointer (some ⟨b, 0, none⟩), .int .u8 49] w fun e w' => e = .returned (.tuple #[]) ∧ RAt base w' b ((S).ask (2) ((S).p) (0)) ∧ Kp 50 base b w w' := by
  have cp := hA.cp
  have hK0 := Kp.refl 50 base b w
  go_enter Tryz.func43, Tryz.ntmps43
  go_wp2_with (go_at_call 39; refine (rask base b _ (S) _ _ _ hA (by first | omega | (simp only [St.ops_ask, St.ops_put, St.ops_whole, St.ops_halves, St.ops_low, St.ops_keep, List.length_append, List.length_cons, List.length_nil]; omega))).mono ?_; clear hA; rintro e1 w1 ⟨rfl, hA1, hN1⟩; have hK1 := hK0.trans hN1; clear hN1 hK0; have cp1 := hA1.cp)
  go_end0
  exact ⟨rfl, hA1, hK1⟩
set_option maxRecDepth 100000 in
set_option maxHeartbeats 200000 in
theorem r_four_49 (base b : Nat) (w : World) (S : St)  (hl : S.ops.length ≤ 800) (hA : RAt base w b S) :
    Calls Tryz.prog 43 #[.pointer (some ⟨b, 0, none⟩), .int .u8 49] w fun e w' => e = .returned (.tuple #[]) ∧ RAt base w' b ((St.fParam 2) S) ∧ Kp 50 base b w w' := by
  refine (r_four_49_v base b w S  hl hA).mono ?_
  rintro e w' ⟨he, hA', hK'⟩
  exact ⟨he, hA'.eq (by first | rfl | simp [St.fParam]), hK'⟩
set_option maxRecDepth 100000 in
set_option maxHeartbeats 400000 in
theorem r_four_50_v (base b : Nat) (w : World) (S : St)    (hl : S.ops.length ≤ 800) (hA : RAt base w b S) :
    Calls Tryz.prog 43 #[.pointer (some ⟨b, 0, none⟩), .int .u8 50] w fun e w' => e = .returned (.tuple #[]) ∧ RAt base w' b ((S).ask (3) ((S).p) (0)) ∧ Kp 50 base b w w' := by
  have cp := hA.cp
  have hK0 := Kp.refl 50 base b w
  go_enter Tryz.func43, Tryz.ntmps43
  go_wp2_with (go_at_call 39; refine (rask base b _ (S) _ _ _ hA (by first | omega | (simp only [St.ops_ask, St.ops_put, St.ops_whole, St.ops_halves, St.ops_low, St.ops_keep, List.length_append, List.length_cons, List.length_nil]; omega))).mono ?_; clear hA; rintro e1 w1 ⟨rfl, hA1, hN1⟩; have hK1 := hK0.trans hN1; clear hN1 hK0; have cp1 := hA1.cp)
  go_end0
  exact ⟨rfl, hA1, hK1⟩
set_option maxRecDepth 100000 in
set_option maxHeartbeats 200000 in
theorem r_four_50 (base b : Nat) (w : World) (S : St)  (hl : S.ops.length ≤ 800) (hA : RAt base w b S) :
    Calls Tryz.prog 43 #[.pointer (some ⟨b, 0, none⟩), .int .u8 50] w fun e w' => e = .returned (.tuple #[]) ∧ RAt base w' b ((St.fParam 3) S) ∧ Kp 50 base b w w' := by
  refine (r_four_50_v base b w S  hl hA).mono ?_
  rintro e w' ⟨he, hA', hK'⟩
  exact ⟨he, hA'.eq (by first | rfl | simp [St.fParam]), hK'⟩
set_option maxRecDepth 100000 in
set_option maxHeartbeats 400000 in
theorem r_four_51_v (base b : Nat) (w : World) (S : St)    (hl : S.ops.length ≤ 800) (hA : RAt base w b S) :
    Calls Tryz.prog 43 #[.pointer (some ⟨b, 0, none⟩), .int .u8 51] w fun e w' => e = .returned (.tuple #[]) ∧ RAt base w' b (((S).whole (1)).ask (8) (((S).whole (1)).p) (0)) ∧ Kp 50 base b w w' := by
  have cp := hA.cp
  have hK0 := Kp.refl 50 base b w
  go_enter Tryz.func43, Tryz.ntmps43
  go_wp2_with (first | (go_at_call 41; refine (rwhole base b _ (S) _ (by decide) (by decide) hA).mono ?_; clear hA; rintro e1 w1 ⟨rfl, hA1, hN1⟩; have hK1 := hK0.trans hN1; clear hN1 hK0; have cp1 := hA1.cp) | (go_at_call 39; refine (rask base b _ ((S).whole (1)) _ _ _ hA1 (by first | omega | (simp only [St.ops_ask, St.ops_put, St.ops_whole, St.ops_halves, St.ops_low, St.ops_keep, List.length_append, List.length_cons, List.length_nil]; omega))).mono ?_; clear hA1; rintro e2 w2 ⟨rfl, hA2, hN2⟩; have hK2 := hK1.trans hN2; clear hN2 hK1; have cp2 := hA2.cp))
  go_end0
  exact ⟨rfl, hA2, hK2⟩
set_option maxRecDepth 100000 in
set_option maxHeartbeats 200000 in
theorem r_four_51 (base b : Nat) (w : World) (S : St)  (hl : S.ops.length ≤ 800) (hA : RAt base w b S) :
    Calls Tryz.prog 43 #[.pointer (some ⟨b, 0, none⟩), .int .u8 51] w fun e w' => e = .returned (.tuple #[]) ∧ RAt base w' b ((St.fWholly 1 (St.fParam 8)) S) ∧ Kp 50 base b w w' := by
  refine (r_four_51_v base b w S  hl hA).mono ?_
  rintro e w' ⟨he, hA', hK'⟩
  exact ⟨he, hA'.eq (by first | rfl | simp [St.fParam, St.fWholly]), hK'⟩
set_option maxRecDepth 100000 in
set_option maxHeartbeats 400000 in
theorem r_four_52_v (base b : Nat) (w : World) (S : St)    (hl : S.ops.length ≤ 800) (hA : RAt base w b S) :
    Calls Tryz.prog 43 #[.pointer (some ⟨b, 0, none⟩), .int .u8 52] w fun e w' => e = .returned (.tuple #[]) ∧ RAt base w' b (((S).halves (2)).ask (9) (((S).halves (2)).h) (((S).halves (2)).l)) ∧ Kp 50 base b w w' := by
  have ch := hA.ch
  simp only [Nat.reduceAdd] at ch
  have cl := hA.cl
  simp only [Nat.reduceAdd] at cl
  have hK0 := Kp.refl 50 base b w
  go_enter Tryz.func43, Tryz.ntmps43
  go_wp2_with (go_at_call 42; refine (rhalves base b _ (S) _ (by decide) (by decide) hA).mono ?_; clear hA; rintro e1 w1 ⟨rfl, hA1, hN1⟩; have hK1 := hK0.trans hN1; clear hN1 hK0; have ch1 := hA1.ch; simp only [Nat.reduceAdd] at ch1; have cl1 := hA1.cl; simp only [Nat.reduceAdd] at cl1)
  go_still_tail 9, (by kernel_rfl)
  change wpList _ _ _ _ _ w1.drew
  have hA2 := hA1.drew
  have hK2 := hK1.drew
  clear hA1 hK1
  generalize w1.drew = w2 at hA2 hK2 ⊢
  have ch2 := hA2.ch
  simp only [Nat.reduceAdd] at ch2
  have cl2 := hA2.cl
  simp only [Nat.reduceAdd] at cl2
  go_wp2_with (go_at_call 39; refine (rask base b _ ((S).halves (2)) _ _ _ hA2 (by first | omega | (simp only [St.ops_ask, St.ops_put, St.ops_whole, St.ops_halves, St.ops_low, St.ops_keep, List.length_append, List.length_cons, List.length_nil]; omega))).mono ?_; clear hA2; rintro e3 w3 ⟨rfl, hA3, hN3⟩; have hK3 := hK2.trans hN3; clear hN3 hK2; have ch3 := hA3.ch; simp only [Nat.reduceAdd] at ch3; have cl3 := hA3.cl; simp only [Nat.reduceAdd] at cl3)
  go_end0
  exact ⟨rfl, hA3, hK3⟩
set_option maxRecDepth 100000 in
set_option maxHeartbeats 200000 in
theorem r_four_52 (base b : Nat) (w : World) (S : St)  (hl : S.ops.length ≤ 800) (hA : RAt base w b S) :
    Calls Tryz.prog 43 #[.pointer (some ⟨b, 0, none⟩), .int .u8 52] w fun e w' => e = .returned (.tuple #[]) ∧ RAt base w' b ((St.fHalved 2 (St.fBoth 9)) S) ∧ Kp 50 base b w w' := by
  refine (r_four_52_v base b w S  hl hA).mono ?_
  rintro e w' ⟨he, hA', hK'⟩
  exact ⟨he, hA'.eq (by first | rfl | simp [St.fBoth, St.fHalved]), hK'⟩
set_option maxRecDepth 100000 in
set_option maxHeartbeats 400000 in
theorem r_four_53_v (base b : Nat) (w : World) (S : St)    (hl : S.ops.length ≤ 800) (hA : RAt base w b S) :
    Calls Tryz.prog 43 #[.pointer (some ⟨b, 0, none⟩), .int .u8 53] w fun e w' => e = .returned (.tuple #[]) ∧ RAt base w' b (((S).ask (8) ((S).slot 1) (0)).ask (12) (((S).ask (8) ((S).slot 1) (0)).h) (((S).ask (8) ((S).slot 1) (0)).l)) ∧ Kp 50 base b w w' := by
  have ch := hA.ch
  simp only [Nat.reduceAdd] at ch
  have cl := hA.cl
  simp only [Nat.reduceAdd] at cl
  have cs1 := hA.slot 1 (by decide)
  simp only [List.getD_eq_getElem?_getD] at cs1
  have hK0 := Kp.refl 50 base b w
  go_enter Tryz.func43, Tryz.ntmps43
  go_wp2_with (go_at_call 39; refine (rask base b _ (S) _ _ _ hA (by first | omega | (simp only [St.ops_ask, St.ops_put, St.ops_whole, St.ops_halves, St.ops_low, St.ops_keep, List.length_append, List.length_cons, List.length_nil]; omega))).mono ?_; clear hA; rintro e1 w1 ⟨rfl, hA1, hN1⟩; have hK1 := hK0.trans hN1; clear hN1 hK0; have ch1 := hA1.ch; simp only [Nat.reduceAdd] at ch1; have cl1 := hA1.cl; simp only [Nat.reduceAdd] at cl1; have cs11 := hA1.slot 1 (by decide); simp only [List.getD_eq_getElem?_getD] at cs11)
  go_still_tail 9, (by kernel_rfl)
  change wpList _ _ _ _ _ w1.drew
  have hA2 := hA1.drew
  have hK2 := hK1.drew
  clear hA1 hK1
  generalize w1.drew = w2 at hA2 hK2 ⊢
  have ch2 := hA2.ch
  simp only [Nat.reduceAdd] at ch2
  have cl2 := hA2.cl
  simp only [Nat.reduceAdd] at cl2
  have cs12 := hA2.slot 1 (by decide)
  simp only [List.getD_eq_getElem?_getD] at cs12
  go_wp2_with (go_at_call 39; refine (rask base b _ ((S).ask (8) ((S).slot 1) (0)) _ _ _ hA2 (by first | omega | (simp only [St.ops_ask, St.ops_put, St.ops_whole, St.ops_halves, St.ops_low, St.ops_keep, List.length_append, List.length_cons, List.length_nil]; omega))).mono ?_; clear hA2; rintro e3 w3 ⟨rfl, hA3, hN3⟩; have hK3 := hK2.trans hN3; clear hN3 hK2; have ch3 := hA3.ch; simp only [Nat.reduceAdd] at ch3; have cl3 := hA3.cl; simp only [Nat.reduceAdd] at cl3; have cs13 := hA3.slot 1 (by decide); simp only [List.getD_eq_getElem?_getD] at cs13)
  go_end0
  exact ⟨rfl, hA3, hK3⟩
set_option maxRecDepth 100000 in
set_option maxHeartbeats 200000 in
theorem r_four_53 (base b : Nat) (w : World) (S : St)  (hl : S.ops.length ≤ 800) (hA : RAt base w b S) :
    Calls Tryz.prog 43 #[.pointer (some ⟨b, 0, none⟩), .int .u8 53] w fun e w' => e = .returned (.tuple #[]) ∧ RAt base w' b ((St.fFive) S) ∧ Kp 50 base b w w' := by
  refine (r_four_53_v base b w S  hl hA).mono ?_
  rintro e w' ⟨he, hA', hK'⟩
  exact ⟨he, hA'.eq (by first | rfl | simp [St.fFive]), hK'⟩
set_option maxRecDepth 100000 in
set_option maxHeartbeats 400000 in
theorem r_four_54_v (base b : Nat) (w : World) (S : St)    (hl : S.ops.length ≤ 800) (hA : RAt base w b S) :
    Calls Tryz.prog 43 #[.pointer (some ⟨b, 0, none⟩), .int .u8 54] w fun e w' => e = .returned (.tuple #[]) ∧ RAt base w' b (((S).ask (9) (wrap64 (((S).slot 2).tdiv 16)) (((S).slot 2).tmod 16)).ask (12) (((S).ask (9) (wrap64 (((S).slot 2).tdiv 16)) (((S).slot 2).tmod 16)).h) (((S).ask (9) (wrap64 (((S).slot 2).tdiv 16)) (((S).slot 2).tmod 16)).l)) ∧ Kp 50 base b w w' := by
  have ch := hA.ch
  simp only [Nat.reduceAdd] at ch
  have cl := hA.cl
  simp only [Nat.reduceAdd] at cl
  have cs2 := hA.slot 2 (by decide)
  simp only [List.getD_eq_getElem?_getD] at cs2
  have hK0 := Kp.refl 50 base b w
  go_enter Tryz.func43, Tryz.ntmps43
  go_wp2_with fail
  go_still_tail 15, (by kernel_rfl)
  change wpList _ _ _ _ _ w.drew
  have hA1 := hA.drew
  have hK1 := hK0.drew
  clear hA hK0
  generalize w.drew = w1 at hA1 hK1 ⊢
  have ch1 := hA1.ch
  simp only [Nat.reduceAdd] at ch1
  have cl1 := hA1.cl
  simp only [Nat.reduceAdd] at cl1
  have cs21 := hA1.slot 2 (by decide)
  simp only [List.getD_eq_getElem?_getD] at cs21
  go_wp2_with (go_at_call 39; refine (rask base b _ (S) _ _ _ hA1 (by first | omega | (simp only [St.ops_ask, St.ops_put, St.ops_whole, St.ops_halves, St.ops_low, St.ops_keep, List.length_append, List.length_cons, List.length_nil]; omega))).mono ?_; clear hA1; rintro e2 w2 ⟨rfl, hA2, hN2⟩; have hK2 := hK1.trans hN2; clear hN2 hK1; have ch2 := hA2.ch; simp only [Nat.reduceAdd] at ch2; have cl2 := hA2.cl; simp only [Nat.reduceAdd] at cl2; have cs22 := hA2.slot 2 (by decide); simp only [List.getD_eq_getElem?_getD] at cs22)
  go_still_tail 9, (by kernel_rfl)
  change wpList _ _ _ _ _ w2.drew
  have hA3 := hA2.drew
  have hK3 := hK2.drew
  clear hA2 hK2
  generalize w2.drew = w3 at hA3 hK3 ⊢
  have ch3 := hA3.ch
  simp only [Nat.reduceAdd] at ch3
  have cl3 := hA3.cl
  simp only [Nat.reduceAdd] at cl3
  have cs23 := hA3.slot 2 (by decide)
  simp only [List.getD_eq_getElem?_getD] at cs23
  go_wp2_with (go_at_call 39; refine (rask base b _ ((S).ask (9) (wrap64 (((S).slot 2).tdiv 16)) (((S).slot 2).tmod 16)) _ _ _ hA3 (by first | omega | (simp only [St.ops_ask, St.ops_put, St.ops_whole, St.ops_halves, St.ops_low, St.ops_keep, List.length_append, List.length_cons, List.length_nil]; omega))).mono ?_; clear hA3; rintro e4 w4 ⟨rfl, hA4, hN4⟩; have hK4 := hK3.trans hN4; clear hN4 hK3; have ch4 := hA4.ch; simp only [Nat.reduceAdd] at ch4; have cl4 := hA4.cl; simp only [Nat.reduceAdd] at cl4; have cs24 := hA4.slot 2 (by decide); simp only [List.getD_eq_getElem?_getD] at cs24)
  go_end0
  exact ⟨rfl, hA4, hK4⟩
set_option maxRecDepth 100000 in
set_option maxHeartbeats 200000 in
theorem r_four_54 (base b : Nat) (w : World) (S : St)  (hl : S.ops.length ≤ 800) (hA : RAt base w b S) :
    Calls Tryz.prog 43 #[.pointer (some ⟨b, 0, none⟩), .int .u8 54] w fun e w' => e = .returned (.tuple #[]) ∧ RAt base w' b ((St.fSix) S) ∧ Kp 50 base b w w' := by
  refine (r_four_54_v base b w S  hl hA).mono ?_
  rintro e w' ⟨he, hA', hK'⟩
  exact ⟨he, hA'.eq (by first | rfl | simp [St.fSix]), hK'⟩
set_option maxRecDepth 100000 in
set_option maxHeartbeats 400000 in
theorem r_four_55_v (base b : Nat) (w : World) (S : St)    (hl : S.ops.length ≤ 800) (hA : RAt base w b S) :
    Calls Tryz.prog 43 #[.pointer (some ⟨b, 0, none⟩), .int .u8 55] w fun e w' => e = .returned (.tuple #[]) ∧ RAt base w' b (((S).halves (3)).ask (11) (((S).halves (3)).h) (((S).halves (3)).l)) ∧ Kp 50 base b w w' := by
  have ch := hA.ch
  simp only [Nat.reduceAdd] at ch
  have cl := hA.cl
  simp only [Nat.reduceAdd] at cl
  have hK0 := Kp.refl 50 base b w
  go_enter Tryz.func43, Tryz.ntmps43
  go_wp2_with (go_at_call 42; refine (rhalves base b _ (S) _ (by decide) (by decide) hA).mono ?_; clear hA; rintro e1 w1 ⟨rfl, hA1, hN1⟩; have hK1 := hK0.trans hN1; clear hN1 hK0; have ch1 := hA1.ch; simp only [Nat.reduceAdd] at ch1; have cl1 := hA1.cl; simp only [Nat.reduceAdd] at cl1)
  go_still_tail 9, (by kernel_rfl)
  change wpList _ _ _ _ _ w1.drew
  have hA2 := hA1.drew
  have hK2 := hK1.drew
  clear hA1 hK1
  generalize w1.drew = w2 at hA2 hK2 ⊢
  have ch2 := hA2.ch
  simp only [Nat.reduceAdd] at ch2
  have cl2 := hA2.cl
  simp only [Nat.reduceAdd] at cl2
  go_wp2_with (go_at_call 39; refine (rask base b _ ((S).halves (3)) _ _ _ hA2 (by first | omega | (simp only [St.ops_ask, St.ops_put, St.ops_whole, St.ops_halves, St.ops_low, St.ops_keep, List.length_append, List.length_cons, List.length_nil]; omega))).mono ?_; clear hA2; rintro e3 w3 ⟨rfl, hA3, hN3⟩; have hK3 := hK2.trans hN3; clear hN3 hK2; have ch3 := hA3.ch; simp only [Nat.reduceAdd] at ch3; have cl3 := hA3.cl; simp only [Nat.reduceAdd] at cl3)
  go_end0
  exact ⟨rfl, hA3, hK3⟩
set_option maxRecDepth 100000 in
set_option maxHeartbeats 200000 in
theorem r_four_55 (base b : Nat) (w : World) (S : St)  (hl : S.ops.length ≤ 800) (hA : RAt base w b S) :
    Calls Tryz.prog 43 #[.pointer (some ⟨b, 0, none⟩), .int .u8 55] w fun e w' => e = .returned (.tuple #[]) ∧ RAt base w' b ((St.fHalved 3 (St.fBoth 11)) S) ∧ Kp 50 base b w w' := by
  refine (r_four_55_v base b w S  hl hA).mono ?_
  rintro e w' ⟨he, hA', hK'⟩
  exact ⟨he, hA'.eq (by first | rfl | simp [St.fBoth, St.fHalved]), hK'⟩
set_option maxRecDepth 100000 in
set_option maxHeartbeats 400000 in
theorem r_four_56_v (base b : Nat) (w : World) (S : St)    (hl : S.ops.length ≤ 800) (hA : RAt base w b S) :
    Calls Tryz.prog 43 #[.pointer (some ⟨b, 0, none⟩), .int .u8 56] w fun e w' => e = .returned (.tuple #[]) ∧ RAt base w' b ((S).ask (16) (wrap64 ((S).p + wrap64 ((S).p.tdiv 128))) (0)) ∧ Kp 50 base b w w' := by
  have cp := hA.cp
  have hK0 := Kp.refl 50 base b w
  go_enter Tryz.func43, Tryz.ntmps43
  go_wp2_with (first | (go_at_call 54; refine (rpan _ _).mono ?_; rintro _ wq ⟨rfl, rfl⟩) | (go_at_call 39; refine (rask base b _ (S) _ _ _ hA (by first | omega | (simp only [St.ops_ask, St.ops_put, St.ops_whole, St.ops_halves, St.ops_low, St.ops_keep, List.length_append, List.length_cons, List.length_nil]; omega))).mono ?_; clear hA; rintro e1 w1 ⟨rfl, hA1, hN1⟩; have hK1 := hK0.trans hN1; clear hN1 hK0; have cp1 := hA1.cp))
  go_end0
  exact ⟨rfl, hA1, hK1⟩
set_option maxRecDepth 100000 in
set_option maxHeartbeats 200000 in
theorem r_four_56 (base b : Nat) (w : World) (S : St)  (hl : S.ops.length ≤ 800) (hA : RAt base w b S) :
    Calls Tryz.prog 43 #[.pointer (some ⟨b, 0, none⟩), .int .u8 56] w fun e w' => e = .returned (.tuple #[]) ∧ RAt base w' b ((St.fPan) S) ∧ Kp 50 base b w w' := by
  refine (r_four_56_v base b w S  hl hA).mono ?_
  rintro e w' ⟨he, hA', hK'⟩
  exact ⟨he, hA'.eq (by first | rfl | simp [St.fPan]), hK'⟩
set_option maxRecDepth 100000 in
set_option maxHeartbeats 400000 in
theorem r_four_57_v (base b : Nat) (w : World) (S : St)    (hl : S.ops.length ≤ 800) (hA : RAt base w b S) :
    Calls Tryz.prog 43 #[.pointer (some ⟨b, 0, none⟩), .int .u8 57] w fun e w' => e = .returned (.tuple #[]) ∧ RAt base w' b (((S).whole (4)).ask (18) (wrap64 (256 * ((S).whole (4)).p)) (0)) ∧ Kp 50 base b w w' := by
  have cp := hA.cp
  have hK0 := Kp.refl 50 base b w
  go_enter Tryz.func43, Tryz.ntmps43
  go_wp2_with (first | (go_at_call 41; refine (rwhole base b _ (S) _ (by decide) (by decide) hA).mono ?_; clear hA; rintro e1 w1 ⟨rfl, hA1, hN1⟩; have hK1 := hK0.trans hN1; clear hN1 hK0; have cp1 := hA1.cp) | (go_at_call 39; refine (rask base b _ ((S).whole (4)) _ _ _ hA1 (by first | omega | (simp only [St.ops_ask, St.ops_put, St.ops_whole, St.ops_halves, St.ops_low, St.ops_keep, List.length_append, List.length_cons, List.length_nil]; omega))).mono ?_; clear hA1; rintro e2 w2 ⟨rfl, hA2, hN2⟩; have hK2 := hK1.trans hN2; clear hN2 hK1; have cp2 := hA2.cp))
  go_end0
  exact ⟨rfl, hA2, hK2⟩
set_option maxRecDepth 100000 in
set_option maxHeartbeats 200000 in
theorem r_four_57 (base b : Nat) (w : World) (S : St)  (hl : S.ops.length ≤ 800) (hA : RAt base w b S) :
    Calls Tryz.prog 43 #[.pointer (some ⟨b, 0, none⟩), .int .u8 57] w fun e w' => e = .returned (.tuple #[]) ∧ RAt base w' b ((St.fWholly 4 (St.fOffset)) S) ∧ Kp 50 base b w w' := by
  refine (r_four_57_v base b w S  hl hA).mono ?_
  rintro e w' ⟨he, hA', hK'⟩
  exact ⟨he, hA'.eq (by first | rfl | simp [St.fWholly, St.fOffset]), hK'⟩
set_option maxRecDepth 100000 in
set_option maxHeartbeats 400000 in
theorem r_four_65_v (base b : Nat) (w : World) (S : St)    (hl : S.ops.length ≤ 800) (hA : RAt base w b S) :
    Calls Tryz.prog 43 #[.pointer (some ⟨b, 0, none⟩), .int .u8 65] w fun e w' => e = .returned (.tuple #[]) ∧ RAt base w' b ((S).ask (12) ((S).h) ((S).l)) ∧ Kp 50 base b w w' := by
  have ch := hA.ch
  simp only [Nat.reduceAdd] at ch
  have cl := hA.cl
  simp only [Nat.reduceAdd] at cl
  have hK0 := Kp.refl 50 base b w
  go_enter Tryz.func43, Tryz.ntmps43
  go_wp2_with fail
  go_still_tail 9, (by kernel_rfl)
  change wpList _ _ _ _ _ w.drew
  have hA1 := hA.drew
  have hK1 := hK0.drew
  clear hA hK0
  generalize w.drew = w1 at hA1 hK1 ⊢
  have ch1 := hA1.ch
  simp only [Nat.reduceAdd] at ch1
  have cl1 := hA1.cl
  simp only [Nat.reduceAdd] at cl1
  go_wp2_with (go_at_call 39; refine (rask base b _ (S) _ _ _ hA1 (by first | omega | (simp only [St.ops_ask, St.ops_put, St.ops_whole, St.ops_halves, St.ops_low, St.ops_keep, List.length_append, List.length_cons, List.length_nil]; omega))).mono ?_; clear hA1; rintro e2 w2 ⟨rfl, hA2, hN2⟩; have hK2 := hK1.trans hN2; clear hN2 hK1; have ch2 := hA2.ch; simp only [Nat.reduceAdd] at ch2; have cl2 := hA2.cl; simp only [Nat.reduceAdd] at cl2)
  go_end0
  exact ⟨rfl, hA2, hK2⟩
set_option maxRecDepth 100000 in
set_option maxHeartbeats 200000 in
theorem r_four_65 (base b : Nat) (w : World) (S : St)  (hl : S.ops.length ≤ 800) (hA : RAt base w b S) :
    Calls Tryz.prog 43 #[.pointer (some ⟨b, 0, none⟩), .int .u8 65] w fun e w' => e = .returned (.tuple #[]) ∧ RAt base w' b ((St.fBoth 12) S) ∧ Kp 50 base b w w' := by
  refine (r_four_65_v base b w S  hl hA).mono ?_
  rintro e w' ⟨he, hA', hK'⟩
  exact ⟨he, hA'.eq (by first | rfl | simp [St.fBoth]), hK'⟩
set_option maxRecDepth 100000 in
set_option maxHeartbeats 400000 in
theorem r_four_66_v (base b : Nat) (w : World) (S : St)    (hl : S.ops.length ≤ 800) (hA : RAt base w b S) :
    Calls Tryz.prog 43 #[.pointer (some ⟨b, 0, none⟩), .int .u8 66] w fun e w' => e = .returned (.tuple #[]) ∧ RAt base w' b ((S).ask (32) ((S).p) (0)) ∧ Kp 50 base b w w' := by
  have cp := hA.cp
  have hK0 := Kp.refl 50 base b w
  go_enter Tryz.func43, Tryz.ntmps43
  go_wp2_with (go_at_call 39; refine (rask base b _ (S) _ _ _ hA (by first | omega | (simp only [St.ops_ask, St.ops_put, St.ops_whole, St.ops_halves, St.ops_low, St.ops_keep, List.length_append, List.length_cons, List.length_nil]; omega))).mono ?_; clear hA; rintro e1 w1 ⟨rfl, hA1, hN1⟩; have hK1 := hK0.trans hN1; clear hN1 hK0; have cp1 := hA1.cp)
  go_end0
  exact ⟨rfl, hA1, hK1⟩
set_option maxRecDepth 100000 in
set_option maxHeartbeats 200000 in
theorem r_four_66 (base b : Nat) (w : World) (S : St)  (hl : S.ops.length ≤ 800) (hA : RAt base w b S) :
    Calls Tryz.prog 43 #[.pointer (some ⟨b, 0, none⟩), .int .u8 66] w fun e w' => e = .returned (.tuple #[]) ∧ RAt base w' b ((St.fParam 32) S) ∧ Kp 50 base b w w' := by
  refine (r_four_66_v base b w S  hl hA).mono ?_
  rintro e w' ⟨he, hA', hK'⟩
  exact ⟨he, hA'.eq (by first | rfl | simp [St.fParam]), hK'⟩
set_option maxRecDepth 100000 in
set_option maxHeartbeats 400000 in
theorem r_four_67_v0 (base b : Nat) (w : World) (S : St)   (t0 : (S).p ≤ 64) (hl : S.ops.length ≤ 800) (hA : RAt base w b S) :
    Calls Tryz.prog 43 #[.pointer (some ⟨b, 0, none⟩), .int .u8 67] w fun e w' => e = .returned (.tuple #[]) ∧ RAt base w' b ((S).ask (15) ((S).p) (0)) ∧ Kp 50 base b w w' := by
  have cp := hA.cp
  have hK0 := Kp.refl 50 base b w
  go_enter Tryz.func43, Tryz.ntmps43
  go_wp2_with (go_at_call 39; refine (rask base b _ (S) _ _ _ hA (by first | omega | (simp only [St.ops_ask, St.ops_put, St.ops_whole, St.ops_halves, St.ops_low, St.ops_keep, List.length_append, List.length_cons, List.length_nil]; omega))).mono ?_; clear hA; rintro e1 w1 ⟨rfl, hA1, hN1⟩; have hK1 := hK0.trans hN1; clear hN1 hK0; have cp1 := hA1.cp)
  go_end0
  exact ⟨rfl, hA1, hK1⟩
set_option maxRecDepth 100000 in
set_option maxHeartbeats 400000 in
theorem r_four_67_v1 (base b : Nat) (w : World) (S : St)   (t0 : 64 < (S).p) (hl : S.ops.length ≤ 800) (hA : RAt base w b S) :
    Calls Tryz.prog 43 #[.pointer (some ⟨b, 0, none⟩), .int .u8 67] w fun e w' => e = .returned (.tuple #[]) ∧ RAt base w' b ((S).ask (15) (64) (0)) ∧ Kp 50 base b w w' := by
  have cp := hA.cp
  have hK0 := Kp.refl 50 base b w
  go_enter Tryz.func43, Tryz.ntmps43
  go_wp2_with (go_at_call 39; refine (rask base b _ (S) _ _ _ hA (by first | omega | (simp only [St.ops_ask, St.ops_put, St.ops_whole, St.ops_halves, St.ops_low, St.ops_keep, List.length_append, List.length_cons, List.length_nil]; omega))).mono ?_; clear hA; rintro e1 w1 ⟨rfl, hA1, hN1⟩; have hK1 := hK0.trans hN1; clear hN1 hK0; have cp1 := hA1.cp)
  go_end0
  exact ⟨rfl, hA1, hK1⟩
set_option maxRecDepth 100000 in
set_option maxHeartbeats 200000 in
theorem r_four_67 (base b : Nat) (w : World) (S : St)  (hl : S.ops.length ≤ 800) (hA : RAt base w b S) :
    Calls Tryz.prog 43 #[.pointer (some ⟨b, 0, none⟩), .int .u8 67] w fun e w' => e = .returned (.tuple #[]) ∧ RAt base w' b ((St.fVolume) S) ∧ Kp 50 base b w w' := by
  by_cases z0 : (S).p ≤ 64
  · refine (r_four_67_v0 base b w S  (by first | omega | (simp; omega) | (simp [*]; done) | simpa using ‹_›) hl hA).mono ?_
    rintro e w' ⟨he, hA', hK'⟩
    exact ⟨he, hA'.eq (by first | (simp [St.fVolume, z0]; done) | (simp [St.fVolume, z0, Int.min_def]; done) | (simp [St.fVolume, z0, Int.min_def]; omega) | (have hmin := Int.min_def; simp only [St.fVolume, Int.min_def]; split <;> first | rfl | omega)), hK'⟩
  · refine (r_four_67_v1 base b w S  (by first | omega | (simp; omega) | (simp [*]; done) | simpa using ‹_›) hl hA).mono ?_
    rintro e w' ⟨he, hA', hK'⟩
    exact ⟨he, hA'.eq (by first | (simp [St.fVolume, z0]; done) | (simp [St.fVolume, z0, Int.min_def]; done) | (simp [St.fVolume, z0, Int.min_def]; omega) | (have hmin := Int.min_def; simp only [St.fVolume, Int.min_def]; split <;> first | rfl | omega)), hK'⟩
set_option maxRecDepth 100000 in
set_option maxHeartbeats 400000 in
theorem r_four_68_v (base b : Nat) (w : World) (S : St)    (hl : S.ops.length ≤ 800) (hA : RAt base w b S) :
    Calls Tryz.prog 43 #[.pointer (some ⟨b, 0, none⟩), .int .u8 68] w fun e w' => e = .returned (.tuple #[]) ∧ RAt base w' b ((S).ask (33) (wrap64 (wrap64 (10 * (S).h) + (S).l)) (0)) ∧ Kp 50 base b w w' := by
  have ch := hA.ch
  simp only [Nat.reduceAdd] at ch
  have cl := hA.cl
  simp only [Nat.reduceAdd] at cl
  have hK0 := Kp.refl 50 base b w
  go_enter Tryz.func43, Tryz.ntmps43
  go_wp2_with fail
  go_still_tail 11, (by kernel_rfl)
  change wpList _ _ _ _ _ w.drew
  have hA1 := hA.drew
  have hK1 := hK0.drew
  clear hA hK0
  generalize w.drew = w1 at hA1 hK1 ⊢
  have ch1 := hA1.ch
  simp only [Nat.reduceAdd] at ch1
  have cl1 := hA1.cl
  simp only [Nat.reduceAdd] at cl1
  go_wp2_with (go_at_call 39; refine (rask base b _ (S) _ _ _ hA1 (by first | omega | (simp only [St.ops_ask, St.ops_put, St.ops_whole, St.ops_halves, St.ops_low, St.ops_keep, List.length_append, List.length_cons, List.length_nil]; omega))).mono ?_; clear hA1; rintro e2 w2 ⟨rfl, hA2, hN2⟩; have hK2 := hK1.trans hN2; clear hN2 hK1; have ch2 := hA2.ch; simp only [Nat.reduceAdd] at ch2; have cl2 := hA2.cl; simp only [Nat.reduceAdd] at cl2)
  go_end0
  exact ⟨rfl, hA2, hK2⟩
set_option maxRecDepth 100000 in
set_option maxHeartbeats 200000 in
theorem r_four_68 (base b : Nat) (w : World) (S : St)  (hl : S.ops.length ≤ 800) (hA : RAt base w b S) :
    Calls Tryz.prog 43 #[.pointer (some ⟨b, 0, none⟩), .int .u8 68] w fun e w' => e = .returned (.tuple #[]) ∧ RAt base w' b ((St.fDecimal) S) ∧ Kp 50 base b w w' := by
  refine (r_four_68_v base b w S  hl hA).mono ?_
  rintro e w' ⟨he, hA', hK'⟩
  exact ⟨he, hA'.eq (by first | rfl | simp [St.fDecimal]), hK'⟩
set_option maxRecDepth 100000 in
set_option maxHeartbeats 400000 in
theorem r_four_69_v (base b : Nat) (w : World) (S : St)    (hl : S.ops.length ≤ 800) (hA : RAt base w b S) :
    Calls Tryz.prog 43 #[.pointer (some ⟨b, 0, none⟩), .int .u8 69] w fun e w' => e = .returned (.tuple #[]) ∧ RAt base w' b (St.fByHigh tExtended (S)) ∧ Kp 50 base b w w' := by
  have hK0 := Kp.refl 50 base b w
  go_enter Tryz.func43, Tryz.ntmps43
  go_wp2_with (go_at_call 55; refine (r_extended base b _ (S) (by first | omega | (simp only [St.ops_ask, St.ops_put, St.ops_whole, St.ops_halves, St.ops_low, St.ops_keep, List.length_append, List.length_cons, List.length_nil]; omega)) hA).mono ?_; clear hA; rintro e1 w1 ⟨rfl, hA1, hN1⟩; have hK1 := hK0.trans hN1; clear hN1 hK0)
  go_end0
  exact ⟨rfl, hA1, hK1⟩
set_option maxRecDepth 100000 in
set_option maxHeartbeats 200000 in
theorem r_four_69 (base b : Nat) (w : World) (S : St)  (hl : S.ops.length ≤ 800) (hA : RAt base w b S) :
    Calls Tryz.prog 43 #[.pointer (some ⟨b, 0, none⟩), .int .u8 69] w fun e w' => e = .returned (.tuple #[]) ∧ RAt base w' b ((St.fByHigh tExtended) S) ∧ Kp 50 base b w w' := by
  refine (r_four_69_v base b w S  hl hA).mono ?_
  rintro e w' ⟨he, hA', hK'⟩
  exact ⟨he, hA'.eq (by rfl), hK'⟩
set_option maxRecDepth 100000 in
set_option maxHeartbeats 400000 in
theorem r_four_70_v0 (base b : Nat) (w : World) (S : St)   (t0 : (S).p < 32) (hl : S.ops.length ≤ 800) (hA : RAt base w b S) :
    Calls Tryz.prog 43 #[.pointer (some ⟨b, 0, none⟩), .int .u8 70] w fun e w' => e = .returned (.tuple #[]) ∧ RAt base w' b ((S).ask (36) ((S).p) (0)) ∧ Kp 50 base b w w' := by
  have cp := hA.cp
  have hK0 := Kp.refl 50 base b w
  go_enter Tryz.func43, Tryz.ntmps43
  go_wp2_with (go_at_call 39; refine (rask base b _ (S) _ _ _ hA (by first | omega | (simp only [St.ops_ask, St.ops_put, St.ops_whole, St.ops_halves, St.ops_low, St.ops_keep, List.length_append, List.length_cons, List.length_nil]; omega))).mono ?_; clear hA; rintro e1 w1 ⟨rfl, hA1, hN1⟩; have hK1 := hK0.trans hN1; clear hN1 hK0; have cp1 := hA1.cp)
  go_end0
  exact ⟨rfl, hA1, hK1⟩
set_option maxRecDepth 100000 in
set_option maxHeartbeats 400000 in
theorem r_four_70_v1 (base b : Nat) (w : World) (S : St)   (t0 : 32 ≤ (S).p) (hl : S.ops.length ≤ 800) (hA : RAt base w b S) :
    Calls Tryz.prog 43 #[.pointer (some ⟨b, 0, none⟩), .int .u8 70] w fun e w' => e = .returned (.tuple #[]) ∧ RAt base w' b ((S).ask (37) ((S).p) (0)) ∧ Kp 50 base b w w' := by
  have cp := hA.cp
  have hK0 := Kp.refl 50 base b w
  go_enter Tryz.func43, Tryz.ntmps43
  go_wp2_with (go_at_call 39; refine (rask base b _ (S) _ _ _ hA (by first | omega | (simp only [St.ops_ask, St.ops_put, St.ops_whole, St.ops_halves, St.ops_low, St.ops_keep, List.length_append, List.length_cons, List.length_nil]; omega))).mono ?_; clear hA; rintro e1 w1 ⟨rfl, hA1, hN1⟩; have hK1 := hK0.trans hN1; clear hN1 hK0; have cp1 := hA1.cp)
  go_end0
  exact ⟨rfl, hA1, hK1⟩
set_option maxRecDepth 100000 in
set_option maxHeartbeats 200000 in
theorem r_four_70 (base b : Nat) (w : World) (S : St)  (hl : S.ops.length ≤ 800) (hA : RAt base w b S) :
    Calls Tryz.prog 43 #[.pointer (some ⟨b, 0, none⟩), .int .u8 70] w fun e w' => e = .returned (.tuple #[]) ∧ RAt base w' b ((St.fSpeedOrTempo) S) ∧ Kp 50 base b w w' := by
  by_cases z0 : (S).p < 32
  · refine (r_four_70_v0 base b w S  (by first | omega | (simp; omega) | (simp [*]; done) | simpa using ‹_›) hl hA).mono ?_
    rintro e w' ⟨he, hA', hK'⟩
    exact ⟨he, hA'.eq (by first | (simp [St.fSpeedOrTempo, z0]; done) | (simp [St.fSpeedOrTempo, z0, Int.min_def]; done) | (simp [St.fSpeedOrTempo, z0, Int.min_def]; omega) | (have hmin := Int.min_def; simp only [St.fSpeedOrTempo, Int.min_def]; split <;> first | rfl | omega)), hK'⟩
  · refine (r_four_70_v1 base b w S  (by first | omega | (simp; omega) | (simp [*]; done) | simpa using ‹_›) hl hA).mono ?_
    rintro e w' ⟨he, hA', hK'⟩
    exact ⟨he, hA'.eq (by first | (simp [St.fSpeedOrTempo, z0]; done) | (simp [St.fSpeedOrTempo, z0, Int.min_def]; done) | (simp [St.fSpeedOrTempo, z0, Int.min_def]; omega) | (have hmin := Int.min_def; simp only [St.fSpeedOrTempo, Int.min_def]; split <;> first | rfl | omega)), hK'⟩
theorem mset_self {β : Type} (M : Int → Option β) (k : Int) (y : β) : mset M k y k = some y := if_pos rfl
theorem mset_ne {β : Type} {M : Int → Option β} {k c : Int} {y : β} (h : ¬ c = k) : mset M k y c = M c := if_neg h
theorem tFour_spec {c : Int} {F : St → St} (h : tFour c = some F) : (c = 48 ∧ F = St.fUnless0 (St.fBoth 1)) ∨ (c = 49 ∧ F = St.fParam 2) ∨ (c = 50 ∧ F = St.fParam 3) ∨ (c = 51 ∧ F = St.fWholly 1 (St.fParam 8)) ∨ (c = 52 ∧ F = St.fHalved 2 (St.fBoth 9)) ∨ (c = 53 ∧ F = St.fFive) ∨ (c = 54 ∧ F = St.fSix) ∨ (c = 55 ∧ F = St.fHalved 3 (St.fBoth 11)) ∨ (c = 56 ∧ F = St.fPan) ∨ (c = 57 ∧ F = St.fWholly 4 (St.fOffset)) ∨ (c = 65 ∧ F = St.fBoth 12) ∨ (c = 66 ∧ F = St.fParam 32) ∨ (c = 67 ∧ F = St.fVolume) ∨ (c = 68 ∧ F = St.fDecimal) ∨ (c = 69 ∧ F = St.fByHigh tExtended) ∨ (c = 70 ∧ F = St.fSpeedOrTempo) := by
  unfold tFour at h
  by_cases e70 : c = 70
  · subst e70
    rw [mset_self] at h
    cases h
    exact .inr (.inr (.inr (.inr (.inr (.inr (.inr (.inr (.inr (.inr (.inr (.inr (.inr (.inr (.inr (⟨rfl, rfl⟩)))))))))))))))
  rw [mset_ne e70] at h
  by_cases e69 : c = 69
  · subst e69
    rw [mset_self] at h
    cases h
    exact .inr (.inr (.inr (.inr (.inr (.inr (.inr (.inr (.inr (.inr (.inr (.inr (.inr (.inr (.inl ⟨rfl, rfl⟩))))))))))))))
  rw [mset_ne e69] at h
  by_cases e68 : c = 68
  · subst e68
    rw [mset_self] at h
    cases h
    exact .inr (.inr (.inr (.inr (.inr (.inr (.inr (.inr (.inr (.inr (.inr (.inr (.inr (.inl ⟨rfl, rfl⟩)))))))))))))
  rw [mset_ne e68] at h
  by_cases e67 : c = 67
  · subst e67
    rw [mset_self] at h
    cases h
    exact .inr (.inr (.inr (.inr (.inr (.inr (.inr (.inr (.inr (.inr (.inr (.inr (.inl ⟨rfl, rfl⟩))))))))))))
  rw [mset_ne e67] at h
  by_cases e66 : c = 66
  · subst e66
    rw [mset_self] at h
    cases h
    exact .inr (.inr (.inr (.inr (.inr (.inr (.inr (.inr (.inr (.inr (.inr (.inl ⟨rfl, rfl⟩)))))))))))
  rw [mset_ne e66] at h
  by_cases e65 : c = 65
  · subst e65
    rw [mset_self] at h
    cases h
    exact .inr (.inr (.inr (.inr (.inr (.inr (.inr (.inr (.inr (.inr (.inl ⟨rfl, rfl⟩))))))))))
  rw [mset_ne e65] at h
  by_cases e57 : c = 57
  · subst e57
    rw [mset_self] at h
    cases h
    exact .inr (.inr (.inr (.inr (.inr (.inr (.inr (.inr (.inr (.inl ⟨rfl, rfl⟩)))))))))
  rw [mset_ne e57] at h
  by_cases e56 : c = 56
  · subst e56
    rw [mset_self] at h
    cases h
    exact .inr (.inr (.inr (.inr (.inr (.inr (.inr (.inr (.inl ⟨rfl, rfl⟩))))))))
  rw [mset_ne e56] at h
  by_cases e55 : c = 55
  · subst e55
    rw [mset_self] at h
    cases h
    exact .inr (.inr (.inr (.inr (.inr (.inr (.inr (.inl ⟨rfl, rfl⟩)))))))
  rw [mset_ne e55] at h
  by_cases e54 : c = 54
  · subst e54
    rw [mset_self] at h
    cases h
    exact .inr (.inr (.inr (.inr (.inr (.inr (.inl ⟨rfl, rfl⟩))))))
  rw [mset_ne e54] at h
  by_cases e53 : c = 53
  · subst e53
    rw [mset_self] at h
    cases h
    exact .inr (.inr (.inr (.inr (.inr (.inl ⟨rfl, rfl⟩)))))
  rw [mset_ne e53] at h
  by_cases e52 : c = 52
  · subst e52
    rw [mset_self] at h
    cases h
    exact .inr (.inr (.inr (.inr (.inl ⟨rfl, rfl⟩))))
  rw [mset_ne e52] at h
  by_cases e51 : c = 51
  · subst e51
    rw [mset_self] at h
    cases h
    exact .inr (.inr (.inr (.inl ⟨rfl, rfl⟩)))
  rw [mset_ne e51] at h
  by_cases e50 : c = 50
  · subst e50
    rw [mset_self] at h
    cases h
    exact .inr (.inr (.inl ⟨rfl, rfl⟩))
  rw [mset_ne e50] at h
  by_cases e49 : c = 49
  · subst e49
    rw [mset_self] at h
    cases h
    exact .inr (.inl ⟨rfl, rfl⟩)
  rw [mset_ne e49] at h
  by_cases e48 : c = 48
  · subst e48
    rw [mset_self] at h
    cases h
    exact .inl ⟨rfl, rfl⟩
  rw [mset_ne e48] at h
  cases h
set_option maxRecDepth 100000 in
set_option maxHeartbeats 200000 in
theorem r_four (base b : Nat) (w : World) (S : St) (c : Int) (F : St → St) (h : tFour c = some F) (hl : S.ops.length ≤ 800) (hA : RAt base w b S) :
    Calls Tryz.prog 43 #[.pointer (some ⟨b, 0, none⟩), .int .u8 c] w fun e w' => e = .returned (.tuple #[]) ∧ RAt base w' b (F S) ∧ Kp 50 base b w w' := by
  rcases tFour_spec h with ⟨rfl, rfl⟩ | ⟨rfl, rfl⟩ | ⟨rfl, rfl⟩ | ⟨rfl, rfl⟩ | ⟨rfl, rfl⟩ | ⟨rfl, rfl⟩ | ⟨rfl, rfl⟩ | ⟨rfl, rfl⟩ | ⟨rfl, rfl⟩ | ⟨rfl, rfl⟩ | ⟨rfl, rfl⟩ | ⟨rfl, rfl⟩ | ⟨rfl, rfl⟩ | ⟨rfl, rfl⟩ | ⟨rfl, rfl⟩ | ⟨rfl, rfl⟩
  · exact r_four_48 base b w S hl hA
  · exact r_four_49 base b w S hl hA
  · exact r_four_50 base b w S hl hA
  · exact r_four_51 base b w S hl hA
  · exact r_four_52 base b w S hl hA
  · exact r_four_53 base b w S hl hA
  · exact r_four_54 base b w S hl hA
  · exact r_four_55 base b w S hl hA
  · exact r_four_56 base b w S hl hA
  · exact r_four_57 base b w S hl hA
  · exact r_four_65 base b w S hl hA
  · exact r_four_66 base b w S hl hA
  · exact r_four_67 base b w S hl hA
  · exact r_four_68 base b w S hl hA
  · exact r_four_69 base b w S hl hA
  · exact r_four_70 base b w S hl hA

end Go.Proofs.YtappnglfmidjoaaGreat.D
