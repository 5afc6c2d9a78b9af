/- The reference: speed, rows, extended. -/
import Derived.Test.YtappnglfmidjoaaGreatChip
set_option linter.unusedVariables false
set_option linter.unusedSimpArgs false
namespace Go.Proofs.YtappnglfmidjoaaGreat.D
open Go Go.RowKit
open Go.Proofs.YtappnglfmidjoaaGreat.DB
set_option maxRecDepth 100000 in
set_option maxHeartbeats 400000 in
theorem r_speed_v0 (base b : Nat) (w : World) (S : St)   (t0 : ((S).p != 0) = true) (hl : S.ops.length ≤ 800) (hA : RAt base w b S) :
    Calls Tryz.prog 56 #[.pointer (some ⟨b, 0, none⟩)] w fun e w' => e = .returned (.tuple #[]) ∧ RAt base w' b ((S).ask (36) ((S).p) (0)) ∧ Kp 50 base b w w' := by
  have cp := hA.cp
  have cp := hA.cp
  have hK0 := Kp.refl 50 base b w
  go_enter Tryz.func56, Tryz.ntmps56
  go_wp2_with (go_at_call 39; refine (rask base b _ (S) _ _ _ hA (by first | omega | (simp only [St.ops_ask, St.ops_put, St.ops_whole, St.ops_halves, St.ops_low, St.ops_keep, List.length_append, List.length_cons, List.length_nil]; omega))).mono ?_; clear hA; rintro e1 w1 ⟨rfl, hA1, hN1⟩; have hK1 := hK0.trans hN1; clear hN1 hK0; have cp1 := hA1.cp; have cp1 := hA1.cp)
  go_end0
  exact ⟨rfl, hA1, hK1⟩
set_option maxRecDepth 100000 in
set_option maxHeartbeats 400000 in
theorem r_speed_v1 (base b : Nat) (w : World) (S : St)   (t0 : ((S).p != 0) = false) (hl : S.ops.length ≤ 800) (hA : RAt base w b S) :
    Calls Tryz.prog 56 #[.pointer (some ⟨b, 0, none⟩)] w fun e w' => e = .returned (.tuple #[]) ∧ RAt base w' b (S) ∧ Kp 50 base b w w' := by
  have cp := hA.cp
  have cp := hA.cp
  have hK0 := Kp.refl 50 base b w
  go_enter Tryz.func56, Tryz.ntmps56
  go_wp2
  go_end0
  exact ⟨rfl, hA, hK0⟩
set_option maxRecDepth 100000 in
set_option maxHeartbeats 200000 in
theorem r_speed (base b : Nat) (w : World) (S : St)  (hl : S.ops.length ≤ 800) (hA : RAt base w b S) :
    Calls Tryz.prog 56 #[.pointer (some ⟨b, 0, none⟩)] w fun e w' => e = .returned (.tuple #[]) ∧ RAt base w' b ((St.fUnless0 (St.fParam 36)) S) ∧ Kp 50 base b w w' := by
  by_cases z0 : ((S).p ≠ 0)
  · refine (r_speed_v0 base b w S  (by first | omega | (simp; omega) | (simp [*]; done) | simpa using ‹_›) hl hA).mono ?_
    rintro e w' ⟨he, hA', hK'⟩
    exact ⟨he, hA'.eq (by first | (simp [St.fParam, St.fUnless0, z0]; done) | (simp [St.fParam, St.fUnless0, z0, Int.min_def]; done) | (simp [St.fParam, St.fUnless0, z0, Int.min_def]; omega) | (have hmin := Int.min_def; simp only [St.fParam, St.fUnless0, Int.min_def]; split <;> first | rfl | omega)), hK'⟩
  · refine (r_speed_v1 base b w S  (by first | omega | (simp; omega) | (simp [*]; done) | simpa using ‹_›) hl hA).mono ?_
    rintro e w' ⟨he, hA', hK'⟩
    exact ⟨he, hA'.eq (by first | (simp [St.fParam, St.fUnless0, z0]; done) | (simp [St.fParam, St.fUnless0, z0, Int.min_def]; done) | (simp [St.fParam, St.fUnless0, z0, Int.min_def]; omega) | (have hmin := Int.min_def; simp only [St.fParam, St.fUnless0, Int.min_def]; split <;> first | rfl | omega)), hK'⟩
set_option maxRecDepth 100000 in
set_option maxHeartbeats 400000 in
theorem r_rows_11_v0 (base b : Nat) (w : World) (S : St) (hk : S.h = 11)   (hl : S.ops.length ≤ 900) (hA : RAt base w b S) :
    Calls Tryz.prog 59 #[.pointer (some ⟨b, 0, none⟩)] w fun e w' => e = .returned (.tuple #[]) ∧ RAt base w' b ((S).ask (34) ((S).l) (0)) ∧ Kp 50 base b w w' := by
  have ch := hA.ch
  simp only [Nat.reduceAdd] at ch
  have cl := hA.cl
  simp only [Nat.reduceAdd] at cl
  rw [hk] at ch
  have hK0 := Kp.refl 50 base b w
  go_enter Tryz.func59, Tryz.ntmps59
  go_wp2_with (go_at_call 39; refine (rask base b _ (S) _ _ _ hA (by first | omega | (simp only [St.ops_ask, St.ops_put, St.ops_whole, St.ops_halves, St.ops_low, St.ops_keep, List.length_append, List.length_cons, List.length_nil]; omega))).mono ?_; clear hA; rintro e1 w1 ⟨rfl, hA1, hN1⟩; have hK1 := hK0.trans hN1; clear hN1 hK0; have ch1 := hA1.ch; simp only [Nat.reduceAdd] at ch1; have cl1 := hA1.cl; simp only [Nat.reduceAdd] at cl1)
  go_end0
  exact ⟨rfl, hA1, hK1⟩
set_option maxRecDepth 100000 in
set_option maxHeartbeats 400000 in
theorem r_rows_12_v0 (base b : Nat) (w : World) (S : St) (hk : S.h = 12)   (hl : S.ops.length ≤ 900) (hA : RAt base w b S) :
    Calls Tryz.prog 59 #[.pointer (some ⟨b, 0, none⟩)] w fun e w' => e = .returned (.tuple #[]) ∧ RAt base w' b ((S).ask (21) ((S).l) (0)) ∧ Kp 50 base b w w' := by
  have ch := hA.ch
  simp only [Nat.reduceAdd] at ch
  have cl := hA.cl
  simp only [Nat.reduceAdd] at cl
  rw [hk] at ch
  have hK0 := Kp.refl 50 base b w
  go_enter Tryz.func59, Tryz.ntmps59
  go_wp2_with (go_at_call 39; refine (rask base b _ (S) _ _ _ hA (by first | omega | (simp only [St.ops_ask, St.ops_put, St.ops_whole, St.ops_halves, St.ops_low, St.ops_keep, List.length_append, List.length_cons, List.length_nil]; omega))).mono ?_; clear hA; rintro e1 w1 ⟨rfl, hA1, hN1⟩; have hK1 := hK0.trans hN1; clear hN1 hK0; have ch1 := hA1.ch; simp only [Nat.reduceAdd] at ch1; have cl1 := hA1.cl; simp only [Nat.reduceAdd] at cl1)
  go_end0
  exact ⟨rfl, hA1, hK1⟩
set_option maxRecDepth 100000 in
set_option maxHeartbeats 400000 in
theorem r_rows_13_v0 (base b : Nat) (w : World) (S : St) (hk : S.h = 13)   (hl : S.ops.length ≤ 900) (hA : RAt base w b S) :
    Calls Tryz.prog 59 #[.pointer (some ⟨b, 0, none⟩)] w fun e w' => e = .returned (.tuple #[]) ∧ RAt base w' b ((S).ask (22) ((S).l) (0)) ∧ Kp 50 base b w w' := by
  have ch := hA.ch
  simp only [Nat.reduceAdd] at ch
  have cl := hA.cl
  simp only [Nat.reduceAdd] at cl
  rw [hk] at ch
  have hK0 := Kp.refl 50 base b w
  go_enter Tryz.func59, Tryz.ntmps59
  go_wp2_with (go_at_call 39; refine (rask base b _ (S) _ _ _ hA (by first | omega | (simp only [St.ops_ask, St.ops_put, St.ops_whole, St.ops_halves, St.ops_low, St.ops_keep, List.length_append, List.length_cons, List.length_nil]; omega))).mono ?_; clear hA; rintro e1 w1 ⟨rfl, hA1, hN1⟩; have hK1 := hK0.trans hN1; clear hN1 hK0; have ch1 := hA1.ch; simp only [Nat.reduceAdd] at ch1; have cl1 := hA1.cl; simp only [Nat.reduceAdd] at cl1)
  go_end0
  exact ⟨rfl, hA1, hK1⟩
set_option maxRecDepth 100000 in
set_option maxHeartbeats 400000 in
theorem r_rows_14_v0 (base b : Nat) (w : World) (S : St) (hk : S.h = 14)   (hl : S.ops.length ≤ 900) (hA : RAt base w b S) :
    Calls Tryz.prog 59 #[.pointer (some ⟨b, 0, none⟩)] w fun e w' => e = .returned (.tuple #[]) ∧ RAt base w' b ((S).ask (35) ((S).l) (0)) ∧ Kp 50 base b w w' := by
  have ch := hA.ch
  simp only [Nat.reduceAdd] at ch
  have cl := hA.cl
  simp only [Nat.reduceAdd] at cl
  rw [hk] at ch
  have hK0 := Kp.refl 50 base b w
  go_enter Tryz.func59, Tryz.ntmps59
  go_wp2_with (go_at_call 39; refine (rask base b _ (S) _ _ _ hA (by first | omega | (simp only [St.ops_ask, St.ops_put, St.ops_whole, St.ops_halves, St.ops_low, St.ops_keep, List.length_append, List.length_cons, List.length_nil]; omega))).mono ?_; clear hA; rintro e1 w1 ⟨rfl, hA1, hN1⟩; have hK1 := hK0.trans hN1; clear hN1 hK0; have ch1 := hA1.ch; simp only [Nat.reduceAdd] at ch1; have cl1 := hA1.cl; simp only [Nat.reduceAdd] at cl1)
  go_end0
  exact ⟨rfl, hA1, hK1⟩
set_option maxRecDepth 100000 in
set_option maxHeartbeats 400000 in
theorem r_rows_none (base b : Nat) (w : World) (S : St) (n11 : (S.h == 11) = false) (n12 : (S.h == 12) = false) (n13 : (S.h == 13) = false) (n14 : (S.h == 14) = false)   (hl : S.ops.length ≤ 900) (hA : RAt base w b S) :
    Calls Tryz.prog 59 #[.pointer (some ⟨b, 0, none⟩)] w fun e w' => e = .returned (.tuple #[]) ∧ RAt base w' b (S) ∧ Kp 50 base b w w' := by
  have ch := hA.ch
  simp only [Nat.reduceAdd] at ch
  have hK0 := Kp.refl 50 base b w
  go_enter Tryz.func59, Tryz.ntmps59
  go_wp2
  go_end0
  exact ⟨rfl, hA, hK0⟩
set_option maxRecDepth 100000 in
set_option maxHeartbeats 400000 in
theorem r_rows (base b : Nat) (w : World) (S : St) (hl : S.ops.length ≤ 900) (hA : RAt base w b S) :
    Calls Tryz.prog 59 #[.pointer (some ⟨b, 0, none⟩)] w fun e w' => e = .returned (.tuple #[]) ∧ RAt base w' b (St.fByHigh (tTimed 11) S) ∧ Kp 50 base b w w' := by
  by_cases e11 : S.h = 11
  · have hf : St.fByHigh (tTimed 11) S = (St.fLowHalf 34) S := by unfold St.fByHigh; rw [e11]; rfl
    rw [hf]
    refine (r_rows_11_v0 base b w S e11 hl hA).mono ?_
    rintro e w' ⟨he, hA', hK'⟩
    exact ⟨he, hA'.eq (by first | rfl | simp [St.fLowHalf]), hK'⟩
  by_cases e12 : S.h = 12
  · have hf : St.fByHigh (tTimed 11) S = (St.fLowHalf 21) S := by unfold St.fByHigh; rw [e12]; rfl
    rw [hf]
    refine (r_rows_12_v0 base b w S e12 hl hA).mono ?_
    rintro e w' ⟨he, hA', hK'⟩
    exact ⟨he, hA'.eq (by first | rfl | simp [St.fLowHalf]), hK'⟩
  by_cases e13 : S.h = 13
  · have hf : St.fByHigh (tTimed 11) S = (St.fLowHalf 22) S := by unfold St.fByHigh; rw [e13]; rfl
    rw [hf]
    refine (r_rows_13_v0 base b w S e13 hl hA).mono ?_
    rintro e w' ⟨he, hA', hK'⟩
    exact ⟨he, hA'.eq (by first | rfl | simp [St.fLowHalf]), hK'⟩
  by_cases e14 : S.h = 14
  · have hf : St.fByHigh (tTimed 11) S = (St.fLowHalf 35) S := by unfold St.fByHigh; rw [e14]; rfl
    rw [hf]
    refine (r_rows_14_v0 base b w S e14 hl hA).mono ?_
    rintro e w' ⟨he, hA', hK'⟩
    exact ⟨he, hA'.eq (by first | rfl | simp [St.fLowHalf]), hK'⟩
  refine (r_rows_none base b w S (by simp [e11]) (by simp [e12]) (by simp [e13]) (by simp [e14]) hl hA).mono ?_
  rintro e w' ⟨he, hA', hK'⟩
  exact ⟨he, hA'.eq (by unfold St.fByHigh tTimed; simp [mset, tTimed, e11, e12, e13, e14]), hK'⟩
set_option maxRecDepth 100000 in
set_option maxHeartbeats 400000 in
theorem r_extended_1_v0 (base b : Nat) (w : World) (S : St) (hk : S.h = 1)   (hl : S.ops.length ≤ 800) (hA : RAt base w b S) :
    Calls Tryz.prog 55 #[.pointer (some ⟨b, 0, none⟩)] w fun e w' => e = .returned (.tuple #[]) ∧ RAt base w' b ((S).ask (4) ((S).l) (0)) ∧ Kp 50 base b w w' := by
  have ch := hA.ch
  simp only [Nat.reduceAdd] at ch
  have cl := hA.cl
  simp only [Nat.reduceAdd] at cl
  rw [hk] at ch
  have hK0 := Kp.refl 50 base b w
  go_enter Tryz.func55, Tryz.ntmps55
  go_wp2_with (go_at_call 39; refine (rask base b _ (S) _ _ _ hA (by first | omega | (simp only [St.ops_ask, St.ops_put, St.ops_whole, St.ops_halves, St.ops_low, St.ops_keep, List.length_append, List.length_cons, List.length_nil]; omega))).mono ?_; clear hA; rintro e1 w1 ⟨rfl, hA1, hN1⟩; have hK1 := hK0.trans hN1; clear hN1 hK0; have ch1 := hA1.ch; simp only [Nat.reduceAdd] at ch1; have cl1 := hA1.cl; simp only [Nat.reduceAdd] at cl1)
  go_end0
  exact ⟨rfl, hA1, hK1⟩
set_option maxRecDepth 100000 in
set_option maxHeartbeats 400000 in
theorem r_extended_2_v0 (base b : Nat) (w : World) (S : St) (hk : S.h = 2)   (hl : S.ops.length ≤ 800) (hA : RAt base w b S) :
    Calls Tryz.prog 55 #[.pointer (some ⟨b, 0, none⟩)] w fun e w' => e = .returned (.tuple #[]) ∧ RAt base w' b ((S).ask (5) ((S).l) (0)) ∧ Kp 50 base b w w' := by
  have ch := hA.ch
  simp only [Nat.reduceAdd] at ch
  have cl := hA.cl
  simp only [Nat.reduceAdd] at cl
  rw [hk] at ch
  have hK0 := Kp.refl 50 base b w
  go_enter Tryz.func55, Tryz.ntmps55
  go_wp2_with (go_at_call 39; refine (rask base b _ (S) _ _ _ hA (by first | omega | (simp only [St.ops_ask, St.ops_put, St.ops_whole, St.ops_halves, St.ops_low, St.ops_keep, List.length_append, List.length_cons, List.length_nil]; omega))).mono ?_; clear hA; rintro e1 w1 ⟨rfl, hA1, hN1⟩; have hK1 := hK0.trans hN1; clear hN1 hK0; have ch1 := hA1.ch; simp only [Nat.reduceAdd] at ch1; have cl1 := hA1.cl; simp only [Nat.reduceAdd] at cl1)
  go_end0
  exact ⟨rfl, hA1, hK1⟩
set_option maxRecDepth 100000 in
set_option maxHeartbeats 400000 in
theorem r_extended_3_v0 (base b : Nat) (w : World) (S : St) (hk : S.h = 3)  (t0 : (S).l ≤ 1) (hl : S.ops.length ≤ 800) (hA : RAt base w b S) :
    Calls Tryz.prog 55 #[.pointer (some ⟨b, 0, none⟩)] w fun e w' => e = .returned (.tuple #[]) ∧ RAt base w' b ((S).ask (24) ((S).l) (0)) ∧ Kp 50 base b w w' := by
  have ch := hA.ch
  simp only [Nat.reduceAdd] at ch
  have cl := hA.cl
  simp only [Nat.reduceAdd] at cl
  rw [hk] at ch
  have hK0 := Kp.refl 50 base b w
  go_enter Tryz.func55, Tryz.ntmps55
  go_wp2_with (go_at_call 39; refine (rask base b _ (S) _ _ _ hA (by first | omega | (simp only [St.ops_ask, St.ops_put, St.ops_whole, St.ops_halves, St.ops_low, St.ops_keep, List.length_append, List.length_cons, List.length_nil]; omega))).mono ?_; clear hA; rintro e1 w1 ⟨rfl, hA1, hN1⟩; have hK1 := hK0.trans hN1; clear hN1 hK0; have ch1 := hA1.ch; simp only [Nat.reduceAdd] at ch1; have cl1 := hA1.cl; simp only [Nat.reduceAdd] at cl1)
  go_end0
  exact ⟨rfl, hA1, hK1⟩
set_option maxRecDepth 100000 in
set_option maxHeartbeats 400000 in
theorem r_extended_3_v1 (base b : Nat) (w : World) (S : St) (hk : S.h = 3)  (t0 : 1 < (S).l) (hl : S.ops.length ≤ 800) (hA : RAt base w b S) :
    Calls Tryz.prog 55 #[.pointer (some ⟨b, 0, none⟩)] w fun e w' => e = .returned (.tuple #[]) ∧ RAt base w' b ((S).ask (24) (1) (0)) ∧ Kp 50 base b w w' := by
  have ch := hA.ch
  simp only [Nat.reduceAdd] at ch
  have cl := hA.cl
  simp only [Nat.reduceAdd] at cl
  rw [hk] at ch
  have hK0 := Kp.refl 50 base b w
  go_enter Tryz.func55, Tryz.ntmps55
  go_wp2_with (go_at_call 39; refine (rask base b _ (S) _ _ _ hA (by first | omega | (simp only [St.ops_ask, St.ops_put, St.ops_whole, St.ops_halves, St.ops_low, St.ops_keep, List.length_append, List.length_cons, List.length_nil]; omega))).mono ?_; clear hA; rintro e1 w1 ⟨rfl, hA1, hN1⟩; have hK1 := hK0.trans hN1; clear hN1 hK0; have ch1 := hA1.ch; simp only [Nat.reduceAdd] at ch1; have cl1 := hA1.cl; simp only [Nat.reduceAdd] at cl1)
  go_end0
  exact ⟨rfl, hA1, hK1⟩
set_option maxRecDepth 100000 in
set_option maxHeartbeats 400000 in
theorem r_extended_4_v0 (base b : Nat) (w : World) (S : St) (hk : S.h = 4)   (hl : S.ops.length ≤ 800) (hA : RAt base w b S) :
    Calls Tryz.prog 55 #[.pointer (some ⟨b, 0, none⟩)] w fun e w' => e = .returned (.tuple #[]) ∧ RAt base w' b ((S).ask (25) ((S).l.tmod 4) (0)) ∧ Kp 50 base b w w' := by
  have ch := hA.ch
  simp only [Nat.reduceAdd] at ch
  have cl := hA.cl
  simp only [Nat.reduceAdd] at cl
  rw [hk] at ch
  have hK0 := Kp.refl 50 base b w
  go_enter Tryz.func55, Tryz.ntmps55
  go_wp2_with (go_at_call 39; refine (rask base b _ (S) _ _ _ hA (by first | omega | (simp only [St.ops_ask, St.ops_put, St.ops_whole, St.ops_halves, St.ops_low, St.ops_keep, List.length_append, List.length_cons, List.length_nil]; omega))).mono ?_; clear hA; rintro e1 w1 ⟨rfl, hA1, hN1⟩; have hK1 := hK0.trans hN1; clear hN1 hK0; have ch1 := hA1.ch; simp only [Nat.reduceAdd] at ch1; have cl1 := hA1.cl; simp only [Nat.reduceAdd] at cl1)
  go_end0
  exact ⟨rfl, hA1, hK1⟩
set_option maxRecDepth 100000 in
set_option maxHeartbeats 400000 in
theorem r_extended_5_v0 (base b : Nat) (w : World) (S : St) (hk : S.h = 5)  (t0 : (S).l < 8) (hl : S.ops.length ≤ 800) (hA : RAt base w b S) :
    Calls Tryz.prog 55 #[.pointer (some ⟨b, 0, none⟩)] w fun e w' => e = .returned (.tuple #[]) ∧ RAt base w' b ((S).ask (27) (wrap64 (8 * (S).l)) (0)) ∧ Kp 50 base b w w' := by
  have ch := hA.ch
  simp only [Nat.reduceAdd] at ch
  have cl := hA.cl
  simp only [Nat.reduceAdd] at cl
  rw [hk] at ch
  have hK0 := Kp.refl 50 base b w
  go_enter Tryz.func55, Tryz.ntmps55
  go_wp2_with (go_at_call 39; refine (rask base b _ (S) _ _ _ hA (by first | omega | (simp only [St.ops_ask, St.ops_put, St.ops_whole, St.ops_halves, St.ops_low, St.ops_keep, List.length_append, List.length_cons, List.length_nil]; omega))).mono ?_; clear hA; rintro e1 w1 ⟨rfl, hA1, hN1⟩; have hK1 := hK0.trans hN1; clear hN1 hK0; have ch1 := hA1.ch; simp only [Nat.reduceAdd] at ch1; have cl1 := hA1.cl; simp only [Nat.reduceAdd] at cl1)
  go_end0
  exact ⟨rfl, hA1, hK1⟩
set_option maxRecDepth 100000 in
set_option maxHeartbeats 400000 in
theorem r_extended_5_v1 (base b : Nat) (w : World) (S : St) (hk : S.h = 5)  (t0 : 8 ≤ (S).l) (hl : S.ops.length ≤ 800) (hA : RAt base w b S) :
    Calls Tryz.prog 55 #[.pointer (some ⟨b, 0, none⟩)] w fun e w' => e = .returned (.tuple #[]) ∧ RAt base w' b ((S).ask (27) (wrap64 (8 * wrap64 ((S).l - 16))) (0)) ∧ Kp 50 base b w w' := by
  have ch := hA.ch
  simp only [Nat.reduceAdd] at ch
  have cl := hA.cl
  simp only [Nat.reduceAdd] at cl
  rw [hk] at ch
  have hK0 := Kp.refl 50 base b w
  go_enter Tryz.func55, Tryz.ntmps55
  go_wp2_with (go_at_call 39; refine (rask base b _ (S) _ _ _ hA (by first | omega | (simp only [St.ops_ask, St.ops_put, St.ops_whole, St.ops_halves, St.ops_low, St.ops_keep, List.length_append, List.length_cons, List.length_nil]; omega))).mono ?_; clear hA; rintro e1 w1 ⟨rfl, hA1, hN1⟩; have hK1 := hK0.trans hN1; clear hN1 hK0; have ch1 := hA1.ch; simp only [Nat.reduceAdd] at ch1; have cl1 := hA1.cl; simp only [Nat.reduceAdd] at cl1)
  go_end0
  exact ⟨rfl, hA1, hK1⟩
set_option maxRecDepth 100000 in
set_option maxHeartbeats 400000 in
theorem r_extended_6_v0 (base b : Nat) (w : World) (S : St) (hk : S.h = 6)   (hl : S.ops.length ≤ 800) (hA : RAt base w b S) :
    Calls Tryz.prog 55 #[.pointer (some ⟨b, 0, none⟩)] w fun e w' => e = .returned (.tuple #[]) ∧ RAt base w' b ((S).ask (34) ((S).l) (0)) ∧ Kp 50 base b w w' := by
  have ch := hA.ch
  simp only [Nat.reduceAdd] at ch
  have cl := hA.cl
  simp only [Nat.reduceAdd] at cl
  rw [hk] at ch
  have hK0 := Kp.refl 50 base b w
  go_enter Tryz.func55, Tryz.ntmps55
  go_wp2_with (go_at_call 39; refine (rask base b _ (S) _ _ _ hA (by first | omega | (simp only [St.ops_ask, St.ops_put, St.ops_whole, St.ops_halves, St.ops_low, St.ops_keep, List.length_append, List.length_cons, List.length_nil]; omega))).mono ?_; clear hA; rintro e1 w1 ⟨rfl, hA1, hN1⟩; have hK1 := hK0.trans hN1; clear hN1 hK0; have ch1 := hA1.ch; simp only [Nat.reduceAdd] at ch1; have cl1 := hA1.cl; simp only [Nat.reduceAdd] at cl1)
  go_end0
  exact ⟨rfl, hA1, hK1⟩
set_option maxRecDepth 100000 in
set_option maxHeartbeats 400000 in
theorem r_extended_7_v0 (base b : Nat) (w : World) (S : St) (hk : S.h = 7)   (hl : S.ops.length ≤ 800) (hA : RAt base w b S) :
    Calls Tryz.prog 55 #[.pointer (some ⟨b, 0, none⟩)] w fun e w' => e = .returned (.tuple #[]) ∧ RAt base w' b ((S).ask (26) ((S).l.tmod 4) (0)) ∧ Kp 50 base b w w' := by
  have ch := hA.ch
  simp only [Nat.reduceAdd] at ch
  have cl := hA.cl
  simp only [Nat.reduceAdd] at cl
  rw [hk] at ch
  have hK0 := Kp.refl 50 base b w
  go_enter Tryz.func55, Tryz.ntmps55
  go_wp2_with (go_at_call 39; refine (rask base b _ (S) _ _ _ hA (by first | omega | (simp only [St.ops_ask, St.ops_put, St.ops_whole, St.ops_halves, St.ops_low, St.ops_keep, List.length_append, List.length_cons, List.length_nil]; omega))).mono ?_; clear hA; rintro e1 w1 ⟨rfl, hA1, hN1⟩; have hK1 := hK0.trans hN1; clear hN1 hK0; have ch1 := hA1.ch; simp only [Nat.reduceAdd] at ch1; have cl1 := hA1.cl; simp only [Nat.reduceAdd] at cl1)
  go_end0
  exact ⟨rfl, hA1, hK1⟩
set_option maxRecDepth 100000 in
set_option maxHeartbeats 400000 in
theorem r_extended_8_v0 (base b : Nat) (w : World) (S : St) (hk : S.h = 8)   (hl : S.ops.length ≤ 800) (hA : RAt base w b S) :
    Calls Tryz.prog 55 #[.pointer (some ⟨b, 0, none⟩)] w fun e w' => e = .returned (.tuple #[]) ∧ RAt base w' b ((S).ask (16) (wrap64 (wrap64 (17 * (S).l) + wrap64 ((wrap64 (17 * (S).l)).tdiv 128))) (0)) ∧ Kp 50 base b w w' := by
  have ch := hA.ch
  simp only [Nat.reduceAdd] at ch
  have cl := hA.cl
  simp only [Nat.reduceAdd] at cl
  rw [hk] at ch
  have hK0 := Kp.refl 50 base b w
  go_enter Tryz.func55, Tryz.ntmps55
  go_wp2_with (first | (go_at_call 54; refine (rpan _ _).mono ?_; rintro _ wq ⟨rfl, rfl⟩) | (go_at_call 39; refine (rask base b _ (S) _ _ _ hA (by first | omega | (simp only [St.ops_ask, St.ops_put, St.ops_whole, St.ops_halves, St.ops_low, St.ops_keep, List.length_append, List.length_cons, List.length_nil]; omega))).mono ?_; clear hA; rintro e1 w1 ⟨rfl, hA1, hN1⟩; have hK1 := hK0.trans hN1; clear hN1 hK0; have ch1 := hA1.ch; simp only [Nat.reduceAdd] at ch1; have cl1 := hA1.cl; simp only [Nat.reduceAdd] at cl1))
  go_end0
  exact ⟨rfl, hA1, hK1⟩
set_option maxRecDepth 100000 in
set_option maxHeartbeats 400000 in
theorem r_extended_9_v0 (base b : Nat) (w : World) (S : St) (hk : S.h = 9)   (hl : S.ops.length ≤ 800) (hA : RAt base w b S) :
    Calls Tryz.prog 55 #[.pointer (some ⟨b, 0, none⟩)] w fun e w' => e = .returned (.tuple #[]) ∧ RAt base w' b ((S).ask (19) ((S).l) (0)) ∧ Kp 50 base b w w' := by
  have ch := hA.ch
  simp only [Nat.reduceAdd] at ch
  have cl := hA.cl
  simp only [Nat.reduceAdd] at cl
  rw [hk] at ch
  have hK0 := Kp.refl 50 base b w
  go_enter Tryz.func55, Tryz.ntmps55
  go_wp2_with (go_at_call 39; refine (rask base b _ (S) _ _ _ hA (by first | omega | (simp only [St.ops_ask, St.ops_put, St.ops_whole, St.ops_halves, St.ops_low, St.ops_keep, List.length_append, List.length_cons, List.length_nil]; omega))).mono ?_; clear hA; rintro e1 w1 ⟨rfl, hA1, hN1⟩; have hK1 := hK0.trans hN1; clear hN1 hK0; have ch1 := hA1.ch; simp only [Nat.reduceAdd] at ch1; have cl1 := hA1.cl; simp only [Nat.reduceAdd] at cl1)
  go_end0
  exact ⟨rfl, hA1, hK1⟩
set_option maxRecDepth 100000 in
set_option maxHeartbeats 400000 in
theorem r_extended_10_v0 (base b : Nat) (w : World) (S : St) (hk : S.h = 10)   (hl : S.ops.length ≤ 800) (hA : RAt base w b S) :
    Calls Tryz.prog 55 #[.pointer (some ⟨b, 0, none⟩)] w fun e w' => e = .returned (.tuple #[]) ∧ RAt base w' b ((S).ask (13) ((S).l) (0)) ∧ Kp 50 base b w w' := by
  have ch := hA.ch
  simp only [Nat.reduceAdd] at ch
  have cl := hA.cl
  simp only [Nat.reduceAdd] at cl
  rw [hk] at ch
  have hK0 := Kp.refl 50 base b w
  go_enter Tryz.func55, Tryz.ntmps55
  go_wp2_with (go_at_call 39; refine (rask base b _ (S) _ _ _ hA (by first | omega | (simp only [St.ops_ask, St.ops_put, St.ops_whole, St.ops_halves, St.ops_low, St.ops_keep, List.length_append, List.length_cons, List.length_nil]; omega))).mono ?_; clear hA; rintro e1 w1 ⟨rfl, hA1, hN1⟩; have hK1 := hK0.trans hN1; clear hN1 hK0; have ch1 := hA1.ch; simp only [Nat.reduceAdd] at ch1; have cl1 := hA1.cl; simp only [Nat.reduceAdd] at cl1)
  go_end0
  exact ⟨rfl, hA1, hK1⟩
set_option maxRecDepth 100000 in
set_option maxHeartbeats 400000 in
theorem r_extended_11_v0 (base b : Nat) (w : World) (S : St) (hk : S.h = 11)   (hl : S.ops.length ≤ 800) (hA : RAt base w b S) :
    Calls Tryz.prog 55 #[.pointer (some ⟨b, 0, none⟩)] w fun e w' => e = .returned (.tuple #[]) ∧ RAt base w' b ((S).ask (14) ((S).l) (0)) ∧ Kp 50 base b w w' := by
  have ch := hA.ch
  simp only [Nat.reduceAdd] at ch
  have cl := hA.cl
  simp only [Nat.reduceAdd] at cl
  rw [hk] at ch
  have hK0 := Kp.refl 50 base b w
  go_enter Tryz.func55, Tryz.ntmps55
  go_wp2_with (go_at_call 39; refine (rask base b _ (S) _ _ _ hA (by first | omega | (simp only [St.ops_ask, St.ops_put, St.ops_whole, St.ops_halves, St.ops_low, St.ops_keep, List.length_append, List.length_cons, List.length_nil]; omega))).mono ?_; clear hA; rintro e1 w1 ⟨rfl, hA1, hN1⟩; have hK1 := hK0.trans hN1; clear hN1 hK0; have ch1 := hA1.ch; simp only [Nat.reduceAdd] at ch1; have cl1 := hA1.cl; simp only [Nat.reduceAdd] at cl1)
  go_end0
  exact ⟨rfl, hA1, hK1⟩
set_option maxRecDepth 100000 in
set_option maxHeartbeats 400000 in
theorem r_extended_12_v0 (base b : Nat) (w : World) (S : St) (hk : S.h = 12)   (hl : S.ops.length ≤ 800) (hA : RAt base w b S) :
    Calls Tryz.prog 55 #[.pointer (some ⟨b, 0, none⟩)] w fun e w' => e = .returned (.tuple #[]) ∧ RAt base w' b ((S).ask (21) ((S).l) (0)) ∧ Kp 50 base b w w' := by
  have ch := hA.ch
  simp only [Nat.reduceAdd] at ch
  have cl := hA.cl
  simp only [Nat.reduceAdd] at cl
  rw [hk] at ch
  have hK0 := Kp.refl 50 base b w
  go_enter Tryz.func55, Tryz.ntmps55
  go_wp2_with (go_at_call 39; refine (rask base b _ (S) _ _ _ hA (by first | omega | (simp only [St.ops_ask, St.ops_put, St.ops_whole, St.ops_halves, St.ops_low, St.ops_keep, List.length_append, List.length_cons, List.length_nil]; omega))).mono ?_; clear hA; rintro e1 w1 ⟨rfl, hA1, hN1⟩; have hK1 := hK0.trans hN1; clear hN1 hK0; have ch1 := hA1.ch; simp only [Nat.reduceAdd] at ch1; have cl1 := hA1.cl; simp only [Nat.reduceAdd] at cl1)
  go_end0
  exact ⟨rfl, hA1, hK1⟩
set_option maxRecDepth 100000 in
set_option maxHeartbeats 400000 in
theorem r_extended_13_v0 (base b : Nat) (w : World) (S : St) (hk : S.h = 13)   (hl : S.ops.length ≤ 800) (hA : RAt base w b S) :
    Calls Tryz.prog 55 #[.pointer (some ⟨b, 0, none⟩)] w fun e w' => e = .returned (.tuple #[]) ∧ RAt base w' b ((S).ask (22) ((S).l) (0)) ∧ Kp 50 base b w w' := by
  have ch := hA.ch
  simp only [Nat.reduceAdd] at ch
  have cl := hA.cl
  simp only [Nat.reduceAdd] at cl
  rw [hk] at ch
  have hK0 := Kp.refl 50 base b w
  go_enter Tryz.func55, Tryz.ntmps55
  go_wp2_with (go_at_call 39; refine (rask base b _ (S) _ _ _ hA (by first | omega | (simp only [St.ops_ask, St.ops_put, St.ops_whole, St.ops_halves, St.ops_low, St.ops_keep, List.length_append, List.length_cons, List.length_nil]; omega))).mono ?_; clear hA; rintro e1 w1 ⟨rfl, hA1, hN1⟩; have hK1 := hK0.trans hN1; clear hN1 hK0; have ch1 := hA1.ch; simp only [Nat.reduceAdd] at ch1; have cl1 := hA1.cl; simp only [Nat.reduceAdd] at cl1)
  go_end0
  exact ⟨rfl, hA1, hK1⟩
set_option maxRecDepth 100000 in
set_option maxHeartbeats 400000 in
theorem r_extended_14_v0 (base b : Nat) (w : World) (S : St) (hk : S.h = 14)   (hl : S.ops.length ≤ 800) (hA : RAt base w b S) :
    Calls Tryz.prog 55 #[.pointer (some ⟨b, 0, none⟩)] w fun e w' => e = .returned (.tuple #[]) ∧ RAt base w' b ((S).ask (35) ((S).l) (0)) ∧ Kp 50 base b w w' := by
  have ch := hA.ch
  simp only [Nat.reduceAdd] at ch
  have cl := hA.cl
  simp only [Nat.reduceAdd] at cl
  rw [hk] at ch
  have hK0 := Kp.refl 50 base b w
  go_enter Tryz.func55, Tryz.ntmps55
  go_wp2_with (go_at_call 39; refine (rask base b _ (S) _ _ _ hA (by first | omega | (simp only [St.ops_ask, St.ops_put, St.ops_whole, St.ops_halves, St.ops_low, St.ops_keep, List.length_append, List.length_cons, List.length_nil]; omega))).mono ?_; clear hA; rintro e1 w1 ⟨rfl, hA1, hN1⟩; have hK1 := hK0.trans hN1; clear hN1 hK0; have ch1 := hA1.ch; simp only [Nat.reduceAdd] at ch1; have cl1 := hA1.cl; simp only [Nat.reduceAdd] at cl1)
  go_end0
  exact ⟨rfl, hA1, hK1⟩
set_option maxRecDepth 100000 in
set_option maxHeartbeats 400000 in
theorem r_extended_none (base b : Nat) (w : World) (S : St) (n1 : (S.h == 1) = false) (n2 : (S.h == 2) = false) (n3 : (S.h == 3) = false) (n4 : (S.h == 4) = false) (n5 : (S.h == 5) = false) (n6 : (S.h == 6) = false) (n7 : (S.h == 7) = false) (n8 : (S.h == 8) = false) (n9 : (S.h == 9) = false) (n10 : (S.h == 10) = false) (n11 : (S.h == 11) = false) (n12 : (S.h == 12) = false) (n13 : (S.h == 13) = false) (n14 : (S.h == 14) = false)   (hl : S.ops.length ≤ 800) (hA : RAt base w b S) :
    Calls Tryz.prog 55 #[.pointer (some ⟨b, 0, none⟩)] w fun e w' => e = .returned (.tuple #[]) ∧ RAt base w' b (S) ∧ Kp 50 base b w w' := by
  have ch := hA.ch
  simp only [Nat.reduceAdd] at ch
  have hK0 := Kp.refl 50 base b w
  go_enter Tryz.func55, Tryz.ntmps55
  go_wp2
  go_end0
  exact ⟨rfl, hA, hK0⟩
set_option maxRecDepth 100000 in
set_option maxHeartbeats 400000 in
theorem r_extended (base b : Nat) (w : World) (S : St) (hl : S.ops.length ≤ 800) (hA : RAt base w b S) :
    Calls Tryz.prog 55 #[.pointer (some ⟨b, 0, none⟩)] w fun e w' => e = .returned (.tuple #[]) ∧ RAt base w' b (St.fByHigh tExtended S) ∧ Kp 50 base b w w' := by
  by_cases e1 : S.h = 1
  · have hf : St.fByHigh tExtended S = (St.fLowHalf 4) S := by unfold St.fByHigh; rw [e1]; rfl
    rw [hf]
    refine (r_extended_1_v0 base b w S e1 hl hA).mono ?_
    rintro e w' ⟨he, hA', hK'⟩
    exact ⟨he, hA'.eq (by first | rfl | simp [St.fLowHalf]), hK'⟩
  by_cases e2 : S.h = 2
  · have hf : St.fByHigh tExtended S = (St.fLowHalf 5) S := by unfold St.fByHigh; rw [e2]; rfl
    rw [hf]
    refine (r_extended_2_v0 base b w S e2 hl hA).mono ?_
    rintro e w' ⟨he, hA', hK'⟩
    exact ⟨he, hA'.eq (by first | rfl | simp [St.fLowHalf]), hK'⟩
  by_cases e3 : S.h = 3
  · have hf : St.fByHigh tExtended S = (St.fGliss) S := by unfold St.fByHigh; rw [e3]; rfl
    rw [hf]
    by_cases z0 : (S).l ≤ 1
    · refine (r_extended_3_v0 base b w S e3 (by first | omega | (simp; omega) | (simp [*]; done) | simpa using ‹_›) hl hA).mono ?_
      rintro e w' ⟨he, hA', hK'⟩
      exact ⟨he, hA'.eq (by first | (simp [St.fGliss, z0]; done) | (simp [St.fGliss, z0, Int.min_def]; done) | (simp [St.fGliss, z0, Int.min_def]; omega) | (have hmin := Int.min_def; simp only [St.fGliss, Int.min_def]; split <;> first | rfl | omega)), hK'⟩
    · refine (r_extended_3_v1 base b w S e3 (by first | omega | (simp; omega) | (simp [*]; done) | simpa using ‹_›) hl hA).mono ?_
      rintro e w' ⟨he, hA', hK'⟩
      exact ⟨he, hA'.eq (by first | (simp [St.fGliss, z0]; done) | (simp [St.fGliss, z0, Int.min_def]; done) | (simp [St.fGliss, z0, Int.min_def]; omega) | (have hmin := Int.min_def; simp only [St.fGliss, Int.min_def]; split <;> first | rfl | omega)), hK'⟩
  by_cases e4 : S.h = 4
  · have hf : St.fByHigh tExtended S = (St.fWave 25) S := by unfold St.fByHigh; rw [e4]; rfl
    rw [hf]
    refine (r_extended_4_v0 base b w S e4 hl hA).mono ?_
    rintro e w' ⟨he, hA', hK'⟩
    exact ⟨he, hA'.eq (by first | rfl | simp [St.fWave]), hK'⟩
  by_cases e5 : S.h = 5
  · have hf : St.fByHigh tExtended S = (St.fFine) S := by unfold St.fByHigh; rw [e5]; rfl
    rw [hf]
    by_cases z0 : (S).l < 8
    · refine (r_extended_5_v0 base b w S e5 (by first | omega | (simp; omega) | (simp [*]; done) | simpa using ‹_›) hl hA).mono ?_
      rintro e w' ⟨he, hA', hK'⟩
      exact ⟨he, hA'.eq (by first | (simp [St.fFine, z0]; done) | (simp [St.fFine, z0, Int.min_def]; done) | (simp [St.fFine, z0, Int.min_def]; omega) | (have hmin := Int.min_def; simp only [St.fFine, Int.min_def]; split <;> first | rfl | omega)), hK'⟩
    · refine (r_extended_5_v1 base b w S e5 (by first | omega | (simp; omega) | (simp [*]; done) | simpa using ‹_›) hl hA).mono ?_
      rintro e w' ⟨he, hA', hK'⟩
      exact ⟨he, hA'.eq (by first | (simp [St.fFine, z0]; done) | (simp [St.fFine, z0, Int.min_def]; done) | (simp [St.fFine, z0, Int.min_def]; omega) | (have hmin := Int.min_def; simp only [St.fFine, Int.min_def]; split <;> first | rfl | omega)), hK'⟩
  by_cases e6 : S.h = 6
  · have hf : St.fByHigh tExtended S = (St.fLowHalf 34) S := by unfold St.fByHigh; rw [e6]; rfl
    rw [hf]
    refine (r_extended_6_v0 base b w S e6 hl hA).mono ?_
    rintro e w' ⟨he, hA', hK'⟩
    exact ⟨he, hA'.eq (by first | rfl | simp [St.fLowHalf]), hK'⟩
  by_cases e7 : S.h = 7
  · have hf : St.fByHigh tExtended S = (St.fWave 26) S := by unfold St.fByHigh; rw [e7]; rfl
    rw [hf]
    refine (r_extended_7_v0 base b w S e7 hl hA).mono ?_
    rintro e w' ⟨he, hA', hK'⟩
    exact ⟨he, hA'.eq (by first | rfl | simp [St.fWave]), hK'⟩
  by_cases e8 : S.h = 8
  · have hf : St.fByHigh tExtended S = (St.fPanLow) S := by unfold St.fByHigh; rw [e8]; rfl
    rw [hf]
    refine (r_extended_8_v0 base b w S e8 hl hA).mono ?_
    rintro e w' ⟨he, hA', hK'⟩
    exact ⟨he, hA'.eq (by first | rfl | simp [St.fPan, St.fPanLow]), hK'⟩
  by_cases e9 : S.h = 9
  · have hf : St.fByHigh tExtended S = (St.fLowHalf 19) S := by unfold St.fByHigh; rw [e9]; rfl
    rw [hf]
    refine (r_extended_9_v0 base b w S e9 hl hA).mono ?_
    rintro e w' ⟨he, hA', hK'⟩
    exact ⟨he, hA'.eq (by first | rfl | simp [St.fLowHalf]), hK'⟩
  by_cases e10 : S.h = 10
  · have hf : St.fByHigh tExtended S = (St.fLowHalf 13) S := by unfold St.fByHigh; rw [e10]; rfl
    rw [hf]
    refine (r_extended_10_v0 base b w S e10 hl hA).mono ?_
    rintro e w' ⟨he, hA', hK'⟩
    exact ⟨he, hA'.eq (by first | rfl | simp [St.fLowHalf]), hK'⟩
  by_cases e11 : S.h = 11
  · have hf : St.fByHigh tExtended S = (St.fLowHalf 14) S := by unfold St.fByHigh; rw [e11]; rfl
    rw [hf]
    refine (r_extended_11_v0 base b w S e11 hl hA).mono ?_
    rintro e w' ⟨he, hA', hK'⟩
    exact ⟨he, hA'.eq (by first | rfl | simp [St.fLowHalf]), hK'⟩
  by_cases e12 : S.h = 12
  · have hf : St.fByHigh tExtended S = (St.fLowHalf 21) S := by unfold St.fByHigh; rw [e12]; rfl
    rw [hf]
    refine (r_extended_12_v0 base b w S e12 hl hA).mono ?_
    rintro e w' ⟨he, hA', hK'⟩
    exact ⟨he, hA'.eq (by first | rfl | simp [St.fLowHalf]), hK'⟩
  by_cases e13 : S.h = 13
  · have hf : St.fByHigh tExtended S = (St.fLowHalf 22) S := by unfold St.fByHigh; rw [e13]; rfl
    rw [hf]
    refine (r_extended_13_v0 base b w S e13 hl hA).mono ?_
    rintro e w' ⟨he, hA', hK'⟩
    exact ⟨he, hA'.eq (by first | rfl | simp [St.fLowHalf]), hK'⟩
  by_cases e14 : S.h = 14
  · have hf : St.fByHigh tExtended S = (St.fLowHalf 35) S := by unfold St.fByHigh; rw [e14]; rfl
    rw [hf]
    refine (r_extended_14_v0 base b w S e14 hl hA).mono ?_
    rintro e w' ⟨he, hA', hK'⟩
    exact ⟨he, hA'.eq (by first | rfl | simp [St.fLowHalf]), hK'⟩
  refine (r_extended_none base b w S (by simp [e1]) (by simp [e2]) (by simp [e3]) (by simp [e4]) (by simp [e5]) (by simp [e6]) (by simp [e7]) (by simp [e8]) (by simp [e9]) (by simp [e10]) (by simp [e11]) (by simp [e12]) (by simp [e13]) (by simp [e14]) hl hA).mono ?_
  rintro e w' ⟨he, hA', hK'⟩
  exact ⟨he, hA'.eq (by unfold St.fByHigh tExtended; simp [mset, tTimed, e1, e2, e3, e4, e5, e6, e7, e8, e9, e10, e11, e12, e13, e14]), hK'⟩

end Go.Proofs.YtappnglfmidjoaaGreat.D
