/- The reference: the volume column. -/
import Derived.Deep.DeepCutAuto
import Derived.Test.YtappnglfmidjoaaGreatRefC
import Derived.Test.YtappnglfmidjoaaGreatCol
set_option linter.unusedVariables false
set_option linter.unusedSimpArgs false
namespace Go.Proofs.YtappnglfmidjoaaGreat.D
open Go Go.RowKit
open Go.Proofs.YtappnglfmidjoaaGreat.DB
set_option maxRecDepth 100000 in
set_option maxHeartbeats 400000 in
theorem rcol_2_1a (base b : Nat) (w : World) (S : St) (arg : Int) (g0 : 0 ≤ arg) (g1 : arg ≤ 99)  (t0 : arg ≤ 64) (hl : S.ops.length ≤ 800) (hA : RAt base w b S) :
    Calls Tryz.prog 31 #[.pointer (some ⟨b, 0, none⟩), .int .i64 2, .int .i64 1, .int .i64 arg] w fun e w' => e = .returned (.tuple #[]) ∧ RAt base w' b ((S).ask (15) (arg) (0)) ∧ Kp 50 base b w w' := by
  have hK0 := Kp.refl 50 base b w
  go_enter Tryz.func31, Tryz.ntmps31
  go_wp2_with (go_at_call 39; refine (rask base b _ (S) _ _ _ hA (by first | omega | (simp only [St.ops_ask, St.ops_put, St.ops_whole, St.ops_halves, St.ops_low, St.ops_keep, List.length_append, List.length_cons, List.length_nil]; omega))).mono ?_; clear hA; rintro e1 w1 ⟨rfl, hA1, hN1⟩; have hK1 := hK0.trans hN1; clear hN1 hK0)
  go_end0
  exact ⟨rfl, hA1, hK1⟩
set_option maxRecDepth 100000 in
set_option maxHeartbeats 400000 in
theorem rcol_2_1b (base b : Nat) (w : World) (S : St) (arg : Int) (g0 : 0 ≤ arg) (g1 : arg ≤ 99)  (t0 : 64 < arg) (hl : S.ops.length ≤ 800) (hA : RAt base w b S) :
    Calls Tryz.prog 31 #[.pointer (some ⟨b, 0, none⟩), .int .i64 2, .int .i64 1, .int .i64 arg] w fun e w' => e = .returned (.tuple #[]) ∧ RAt base w' b ((S).ask (15) (64) (0)) ∧ Kp 50 base b w w' := by
  have hK0 := Kp.refl 50 base b w
  go_enter Tryz.func31, Tryz.ntmps31
  go_wp2_with (go_at_call 39; refine (rask base b _ (S) _ _ _ hA (by first | omega | (simp only [St.ops_ask, St.ops_put, St.ops_whole, St.ops_halves, St.ops_low, St.ops_keep, List.length_append, List.length_cons, List.length_nil]; omega))).mono ?_; clear hA; rintro e1 w1 ⟨rfl, hA1, hN1⟩; have hK1 := hK0.trans hN1; clear hN1 hK0)
  go_end0
  exact ⟨rfl, hA1, hK1⟩
set_option maxRecDepth 100000 in
set_option maxHeartbeats 400000 in
theorem rcol_2_1 (base b : Nat) (w : World) (S : St) (arg : Int) (g0 : 0 ≤ arg) (g1 : arg ≤ 99) (hl : S.ops.length ≤ 700) (hA : RAt base w b S) :
    Calls Tryz.prog 31 #[.pointer (some ⟨b, 0, none⟩), .int .i64 2, .int .i64 1, .int .i64 arg] w fun e w' => e = .returned (.tuple #[]) ∧ RAt base w' b (St.fColumn false 1 arg S) ∧ Kp 50 base b w w' := by
  by_cases q : arg ≤ 64
  · refine (rcol_2_1a base b w S arg g0 g1 q (by omega) hA).mono ?_
    rintro e w' ⟨he, hA', hK'⟩
    exact ⟨he, hA'.eq (by simp [St.fColumn, Int.min_eq_left q]), hK'⟩
  · refine (rcol_2_1b base b w S arg g0 g1 (by omega) (by omega) hA).mono ?_
    rintro e w' ⟨he, hA', hK'⟩
    exact ⟨he, hA'.eq (by simp [St.fColumn, Int.min_eq_right (Int.le_of_lt (Int.not_le.1 q))]), hK'⟩
set_option maxRecDepth 100000 in
set_option maxHeartbeats 400000 in
theorem rcol_3_1a (base b : Nat) (w : World) (S : St) (arg : Int) (g0 : 0 ≤ arg) (g1 : arg ≤ 99)  (t0 : arg ≤ 64) (hl : S.ops.length ≤ 800) (hA : RAt base w b S) :
    Calls Tryz.prog 31 #[.pointer (some ⟨b, 0, none⟩), .int .i64 3, .int .i64 1, .int .i64 arg] w fun e w' => e = .returned (.tuple #[]) ∧ RAt base w' b ((S).ask (15) (arg) (0)) ∧ Kp 50 base b w w' := by
  have hK0 := Kp.refl 50 base b w
  go_enter Tryz.func31, Tryz.ntmps31
  go_wp2_with (go_at_call 39; refine (rask base b _ (S) _ _ _ hA (by first | omega | (simp only [St.ops_ask, St.ops_put, St.ops_whole, St.ops_halves, St.ops_low, St.ops_keep, List.length_append, List.length_cons, List.length_nil]; omega))).mono ?_; clear hA; rintro e1 w1 ⟨rfl, hA1, hN1⟩; have hK1 := hK0.trans hN1; clear hN1 hK0)
  go_end0
  exact ⟨rfl, hA1, hK1⟩
set_option maxRecDepth 100000 in
set_option maxHeartbeats 400000 in
theorem rcol_3_1b (base b : Nat) (w : World) (S : St) (arg : Int) (g0 : 0 ≤ arg) (g1 : arg ≤ 99)  (t0 : 64 < arg) (hl : S.ops.length ≤ 800) (hA : RAt base w b S) :
    Calls Tryz.prog 31 #[.pointer (some ⟨b, 0, none⟩), .int .i64 3, .int .i64 1, .int .i64 arg] w fun e w' => e = .returned (.tuple #[]) ∧ RAt base w' b ((S).ask (15) (64) (0)) ∧ Kp 50 base b w w' := by
  have hK0 := Kp.refl 50 base b w
  go_enter Tryz.func31, Tryz.ntmps31
  go_wp2_with (go_at_call 39; refine (rask base b _ (S) _ _ _ hA (by first | omega | (simp only [St.ops_ask, St.ops_put, St.ops_whole, St.ops_halves, St.ops_low, St.ops_keep, List.length_append, List.length_cons, List.length_nil]; omega))).mono ?_; clear hA; rintro e1 w1 ⟨rfl, hA1, hN1⟩; have hK1 := hK0.trans hN1; clear hN1 hK0)
  go_end0
  exact ⟨rfl, hA1, hK1⟩
set_option maxRecDepth 100000 in
set_option maxHeartbeats 400000 in
theorem rcol_3_1 (base b : Nat) (w : World) (S : St) (arg : Int) (g0 : 0 ≤ arg) (g1 : arg ≤ 99) (hl : S.ops.length ≤ 700) (hA : RAt base w b S) :
    Calls Tryz.prog 31 #[.pointer (some ⟨b, 0, none⟩), .int .i64 3, .int .i64 1, .int .i64 arg] w fun e w' => e = .returned (.tuple #[]) ∧ RAt base w' b (St.fColumn true 1 arg S) ∧ Kp 50 base b w w' := by
  by_cases q : arg ≤ 64
  · refine (rcol_3_1a base b w S arg g0 g1 q (by omega) hA).mono ?_
    rintro e w' ⟨he, hA', hK'⟩
    exact ⟨he, hA'.eq (by simp [St.fColumn, Int.min_eq_left q]), hK'⟩
  · refine (rcol_3_1b base b w S arg g0 g1 (by omega) (by omega) hA).mono ?_
    rintro e w' ⟨he, hA', hK'⟩
    exact ⟨he, hA'.eq (by simp [St.fColumn, Int.min_eq_right (Int.le_of_lt (Int.not_le.1 q))]), hK'⟩
set_option maxRecDepth 100000 in
set_option maxHeartbeats 400000 in
theorem rcol_3_2a (base b : Nat) (w : World) (S : St) (arg : Int) (g0 : 0 ≤ arg) (g1 : arg ≤ 99)   (hl : S.ops.length ≤ 800) (hA : RAt base w b S) :
    Calls Tryz.prog 31 #[.pointer (some ⟨b, 0, none⟩), .int .i64 3, .int .i64 2, .int .i64 arg] w fun e w' => e = .returned (.tuple #[]) ∧ RAt base w' b ((S).ask (12) (arg) (0)) ∧ Kp 50 base b w w' := by
  have hK0 := Kp.refl 50 base b w
  go_enter Tryz.func31, Tryz.ntmps31
  go_wp2_with (go_at_call 39; refine (rask base b _ (S) _ _ _ hA (by first | omega | (simp only [St.ops_ask, St.ops_put, St.ops_whole, St.ops_halves, St.ops_low, St.ops_keep, List.length_append, List.length_cons, List.length_nil]; omega))).mono ?_; clear hA; rintro e1 w1 ⟨rfl, hA1, hN1⟩; have hK1 := hK0.trans hN1; clear hN1 hK0)
  go_end0
  exact ⟨rfl, hA1, hK1⟩
set_option maxRecDepth 100000 in
set_option maxHeartbeats 400000 in
theorem rcol_3_2 (base b : Nat) (w : World) (S : St) (arg : Int) (g0 : 0 ≤ arg) (g1 : arg ≤ 99) (hl : S.ops.length ≤ 700) (hA : RAt base w b S) :
    Calls Tryz.prog 31 #[.pointer (some ⟨b, 0, none⟩), .int .i64 3, .int .i64 2, .int .i64 arg] w fun e w' => e = .returned (.tuple #[]) ∧ RAt base w' b (St.fColumn true 2 arg S) ∧ Kp 50 base b w w' := by
  refine (rcol_3_2a base b w S arg g0 g1 (by omega) hA).mono ?_
  rintro e w' ⟨he, hA', hK'⟩
  exact ⟨he, hA'.eq (by simp [St.fColumn]), hK'⟩
set_option maxRecDepth 100000 in
set_option maxHeartbeats 400000 in
theorem rcol_3_3a (base b : Nat) (w : World) (S : St) (arg : Int) (g0 : 0 ≤ arg) (g1 : arg ≤ 99)   (hl : S.ops.length ≤ 800) (hA : RAt base w b S) :
    Calls Tryz.prog 31 #[.pointer (some ⟨b, 0, none⟩), .int .i64 3, .int .i64 3, .int .i64 arg] w fun e w' => e = .returned (.tuple #[]) ∧ RAt base w' b ((S).ask (12) (0) (arg)) ∧ Kp 50 base b w w' := by
  have hK0 := Kp.refl 50 base b w
  go_enter Tryz.func31, Tryz.ntmps31
  go_wp2_with (go_at_call 39; refine (rask base b _ (S) _ _ _ hA (by first | omega | (simp only [St.ops_ask, St.ops_put, St.ops_whole, St.ops_halves, St.ops_low, St.ops_keep, List.length_append, List.length_cons, List.length_nil]; omega))).mono ?_; clear hA; rintro e1 w1 ⟨rfl, hA1, hN1⟩; have hK1 := hK0.trans hN1; clear hN1 hK0)
  go_end0
  exact ⟨rfl, hA1, hK1⟩
set_option maxRecDepth 100000 in
set_option maxHeartbeats 400000 in
theorem rcol_3_3 (base b : Nat) (w : World) (S : St) (arg : Int) (g0 : 0 ≤ arg) (g1 : arg ≤ 99) (hl : S.ops.length ≤ 700) (hA : RAt base w b S) :
    Calls Tryz.prog 31 #[.pointer (some ⟨b, 0, none⟩), .int .i64 3, .int .i64 3, .int .i64 arg] w fun e w' => e = .returned (.tuple #[]) ∧ RAt base w' b (St.fColumn true 3 arg S) ∧ Kp 50 base b w w' := by
  refine (rcol_3_3a base b w S arg g0 g1 (by omega) hA).mono ?_
  rintro e w' ⟨he, hA', hK'⟩
  exact ⟨he, hA'.eq (by simp [St.fColumn]), hK'⟩
set_option maxRecDepth 100000 in
set_option maxHeartbeats 400000 in
theorem rcol_3_4a (base b : Nat) (w : World) (S : St) (arg : Int) (g0 : 0 ≤ arg) (g1 : arg ≤ 99)   (hl : S.ops.length ≤ 800) (hA : RAt base w b S) :
    Calls Tryz.prog 31 #[.pointer (some ⟨b, 0, none⟩), .int .i64 3, .int .i64 4, .int .i64 arg] w fun e w' => e = .returned (.tuple #[]) ∧ RAt base w' b ((S).ask (13) (arg) (0)) ∧ Kp 50 base b w w' := by
  have hK0 := Kp.refl 50 base b w
  go_enter Tryz.func31, Tryz.ntmps31
  go_wp2_with (go_at_call 39; refine (rask base b _ (S) _ _ _ hA (by first | omega | (simp only [St.ops_ask, St.ops_put, St.ops_whole, St.ops_halves, St.ops_low, St.ops_keep, List.length_append, List.length_cons, List.length_nil]; omega))).mono ?_; clear hA; rintro e1 w1 ⟨rfl, hA1, hN1⟩; have hK1 := hK0.trans hN1; clear hN1 hK0)
  go_end0
  exact ⟨rfl, hA1, hK1⟩
set_option maxRecDepth 100000 in
set_option maxHeartbeats 400000 in
theorem rcol_3_4 (base b : Nat) (w : World) (S : St) (arg : Int) (g0 : 0 ≤ arg) (g1 : arg ≤ 99) (hl : S.ops.length ≤ 700) (hA : RAt base w b S) :
    Calls Tryz.prog 31 #[.pointer (some ⟨b, 0, none⟩), .int .i64 3, .int .i64 4, .int .i64 arg] w fun e w' => e = .returned (.tuple #[]) ∧ RAt base w' b (St.fColumn true 4 arg S) ∧ Kp 50 base b w w' := by
  refine (rcol_3_4a base b w S arg g0 g1 (by omega) hA).mono ?_
  rintro e w' ⟨he, hA', hK'⟩
  exact ⟨he, hA'.eq (by simp [St.fColumn]), hK'⟩
set_option maxRecDepth 100000 in
set_option maxHeartbeats 400000 in
theorem rcol_3_5a (base b : Nat) (w : World) (S : St) (arg : Int) (g0 : 0 ≤ arg) (g1 : arg ≤ 99)   (hl : S.ops.length ≤ 800) (hA : RAt base w b S) :
    Calls Tryz.prog 31 #[.pointer (some ⟨b, 0, none⟩), .int .i64 3, .int .i64 5, .int .i64 arg] w fun e w' => e = .returned (.tuple #[]) ∧ RAt base w' b ((S).ask (14) (arg) (0)) ∧ Kp 50 base b w w' := by
  have hK0 := Kp.refl 50 base b w
  go_enter Tryz.func31, Tryz.ntmps31
  go_wp2_with (go_at_call 39; refine (rask base b _ (S) _ _ _ hA (by first | omega | (simp only [St.ops_ask, St.ops_put, St.ops_whole, St.ops_halves, St.ops_low, St.ops_keep, List.length_append, List.length_cons, List.length_nil]; omega))).mono ?_; clear hA; rintro e1 w1 ⟨rfl, hA1, hN1⟩; have hK1 := hK0.trans hN1; clear hN1 hK0)
  go_end0
  exact ⟨rfl, hA1, hK1⟩
set_option maxRecDepth 100000 in
set_option maxHeartbeats 400000 in
theorem rcol_3_5 (base b : Nat) (w : World) (S : St) (arg : Int) (g0 : 0 ≤ arg) (g1 : arg ≤ 99) (hl : S.ops.length ≤ 700) (hA : RAt base w b S) :
    Calls Tryz.prog 31 #[.pointer (some ⟨b, 0, none⟩), .int .i64 3, .int .i64 5, .int .i64 arg] w fun e w' => e = .returned (.tuple #[]) ∧ RAt base w' b (St.fColumn true 5 arg S) ∧ Kp 50 base b w w' := by
  refine (rcol_3_5a base b w S arg g0 g1 (by omega) hA).mono ?_
  rintro e w' ⟨he, hA', hK'⟩
  exact ⟨he, hA'.eq (by simp [St.fColumn]), hK'⟩
set_option maxRecDepth 100000 in
set_option maxHeartbeats 400000 in
theorem rcol_3_6a (base b : Nat) (w : World) (S : St) (arg : Int) (g0 : 0 ≤ arg) (g1 : arg ≤ 99)  (t0 : arg ≤ 64) (hl : S.ops.length ≤ 800) (hA : RAt base w b S) :
    Calls Tryz.prog 31 #[.pointer (some ⟨b, 0, none⟩), .int .i64 3, .int .i64 6, .int .i64 arg] w fun e w' => e = .returned (.tuple #[]) ∧ RAt base w' b ((S).ask (16) (4 * arg) (0)) ∧ Kp 50 base b w w' := by
  have hK0 := Kp.refl 50 base b w
  go_enter Tryz.func31, Tryz.ntmps31
  go_wp2_with (go_at_call 39; refine (rask base b _ (S) _ _ _ hA (by first | omega | (simp only [St.ops_ask, St.ops_put, St.ops_whole, St.ops_halves, St.ops_low, St.ops_keep, List.length_append, List.length_cons, List.length_nil]; omega))).mono ?_; clear hA; rintro e1 w1 ⟨rfl, hA1, hN1⟩; have hK1 := hK0.trans hN1; clear hN1 hK0)
  go_end0
  exact ⟨rfl, hA1, hK1⟩
set_option maxRecDepth 100000 in
set_option maxHeartbeats 400000 in
theorem rcol_3_6b (base b : Nat) (w : World) (S : St) (arg : Int) (g0 : 0 ≤ arg) (g1 : arg ≤ 99)  (t0 : 64 < arg) (hl : S.ops.length ≤ 800) (hA : RAt base w b S) :
    Calls Tryz.prog 31 #[.pointer (some ⟨b, 0, none⟩), .int .i64 3, .int .i64 6, .int .i64 arg] w fun e w' => e = .returned (.tuple #[]) ∧ RAt base w' b ((S).ask (16) (256) (0)) ∧ Kp 50 base b w w' := by
  have hK0 := Kp.refl 50 base b w
  go_enter Tryz.func31, Tryz.ntmps31
  go_wp2_with (go_at_call 39; refine (rask base b _ (S) _ _ _ hA (by first | omega | (simp only [St.ops_ask, St.ops_put, St.ops_whole, St.ops_halves, St.ops_low, St.ops_keep, List.length_append, List.length_cons, List.length_nil]; omega))).mono ?_; clear hA; rintro e1 w1 ⟨rfl, hA1, hN1⟩; have hK1 := hK0.trans hN1; clear hN1 hK0)
  go_end0
  exact ⟨rfl, hA1, hK1⟩
set_option maxRecDepth 100000 in
set_option maxHeartbeats 400000 in
theorem rcol_3_6 (base b : Nat) (w : World) (S : St) (arg : Int) (g0 : 0 ≤ arg) (g1 : arg ≤ 99) (hl : S.ops.length ≤ 700) (hA : RAt base w b S) :
    Calls Tryz.prog 31 #[.pointer (some ⟨b, 0, none⟩), .int .i64 3, .int .i64 6, .int .i64 arg] w fun e w' => e = .returned (.tuple #[]) ∧ RAt base w' b (St.fColumn true 6 arg S) ∧ Kp 50 base b w w' := by
  by_cases q : arg ≤ 64
  · refine (rcol_3_6a base b w S arg g0 g1 q (by omega) hA).mono ?_
    rintro e w' ⟨he, hA', hK'⟩
    exact ⟨he, hA'.eq (by simp [St.fColumn, Int.min_eq_left q]), hK'⟩
  · refine (rcol_3_6b base b w S arg g0 g1 (by omega) (by omega) hA).mono ?_
    rintro e w' ⟨he, hA', hK'⟩
    exact ⟨he, hA'.eq (by simp [St.fColumn, Int.min_eq_right (Int.le_of_lt (Int.not_le.1 q))]), hK'⟩
set_option maxRecDepth 100000 in
set_option maxHeartbeats 400000 in
theorem rcol_3_8a (base b : Nat) (w : World) (S : St) (arg : Int) (g0 : 0 ≤ arg) (g1 : arg ≤ 99)  (t0 : arg ≤ 15) (hl : S.ops.length ≤ 800) (hA : RAt base w b S) :
    Calls Tryz.prog 31 #[.pointer (some ⟨b, 0, none⟩), .int .i64 3, .int .i64 8, .int .i64 arg] w fun e w' => e = .returned (.tuple #[]) ∧ RAt base w' b ((((S).put (arg)).halves (2)).ask (9) ((((S).put (arg)).halves (2)).h) ((((S).put (arg)).halves (2)).l)) ∧ Kp 50 base b w w' := by
  have ch := hA.ch
  simp only [Nat.reduceAdd] at ch
  have cl := hA.cl
  simp only [Nat.reduceAdd] at cl
  have hK0 := Kp.refl 50 base b w
  go_enter Tryz.func31, Tryz.ntmps31
  go_wp2_with (first | (go_at_call 40; refine (rput base b _ (S) _ hA).mono ?_; clear hA; rintro e1 w1 ⟨rfl, hA1, hN1⟩; have hK1 := hK0.trans hN1; clear hN1 hK0; have ch1 := hA1.ch; simp only [Nat.reduceAdd] at ch1; have cl1 := hA1.cl; simp only [Nat.reduceAdd] at cl1) | (go_at_call 42; refine (rhalves base b _ ((S).put (arg)) _ (by decide) (by decide) hA1).mono ?_; clear hA1; rintro e2 w2 ⟨rfl, hA2, hN2⟩; have hK2 := hK1.trans hN2; clear hN2 hK1; have ch2 := hA2.ch; simp only [Nat.reduceAdd] at ch2; have cl2 := hA2.cl; simp only [Nat.reduceAdd] at cl2))
  go_still_tail 9, (by kernel_rfl)
  change wpList _ _ _ _ _ w2.drew
  have hA3 := hA2.drew
  have hK3 := hK2.drew
  clear hA2 hK2
  generalize w2.drew = w3 at hA3 hK3 ⊢
  have ch3 := hA3.ch
  simp only [Nat.reduceAdd] at ch3
  have cl3 := hA3.cl
  simp only [Nat.reduceAdd] at cl3
  go_wp2_with (go_at_call 39; refine (rask base b _ (((S).put (arg)).halves (2)) _ _ _ hA3 (by first | omega | (simp only [St.ops_ask, St.ops_put, St.ops_whole, St.ops_halves, St.ops_low, St.ops_keep, List.length_append, List.length_cons, List.length_nil]; omega))).mono ?_; clear hA3; rintro e4 w4 ⟨rfl, hA4, hN4⟩; have hK4 := hK3.trans hN4; clear hN4 hK3; have ch4 := hA4.ch; simp only [Nat.reduceAdd] at ch4; have cl4 := hA4.cl; simp only [Nat.reduceAdd] at cl4)
  go_end0
  exact ⟨rfl, hA4, hK4⟩
set_option maxRecDepth 100000 in
set_option maxHeartbeats 400000 in
theorem rcol_3_8b (base b : Nat) (w : World) (S : St) (arg : Int) (g0 : 0 ≤ arg) (g1 : arg ≤ 99)  (t0 : 15 < arg) (hl : S.ops.length ≤ 800) (hA : RAt base w b S) :
    Calls Tryz.prog 31 #[.pointer (some ⟨b, 0, none⟩), .int .i64 3, .int .i64 8, .int .i64 arg] w fun e w' => e = .returned (.tuple #[]) ∧ RAt base w' b ((((S).put (15)).halves (2)).ask (9) ((((S).put (15)).halves (2)).h) ((((S).put (15)).halves (2)).l)) ∧ Kp 50 base b w w' := by
  have ch := hA.ch
  simp only [Nat.reduceAdd] at ch
  have cl := hA.cl
  simp only [Nat.reduceAdd] at cl
  have hK0 := Kp.refl 50 base b w
  go_enter Tryz.func31, Tryz.ntmps31
  go_wp2_with (first | (go_at_call 40; refine (rput base b _ (S) _ hA).mono ?_; clear hA; rintro e1 w1 ⟨rfl, hA1, hN1⟩; have hK1 := hK0.trans hN1; clear hN1 hK0; have ch1 := hA1.ch; simp only [Nat.reduceAdd] at ch1; have cl1 := hA1.cl; simp only [Nat.reduceAdd] at cl1) | (go_at_call 42; refine (rhalves base b _ ((S).put (15)) _ (by decide) (by decide) hA1).mono ?_; clear hA1; rintro e2 w2 ⟨rfl, hA2, hN2⟩; have hK2 := hK1.trans hN2; clear hN2 hK1; have ch2 := hA2.ch; simp only [Nat.reduceAdd] at ch2; have cl2 := hA2.cl; simp only [Nat.reduceAdd] at cl2))
  go_still_tail 9, (by kernel_rfl)
  change wpList _ _ _ _ _ w2.drew
  have hA3 := hA2.drew
  have hK3 := hK2.drew
  clear hA2 hK2
  generalize w2.drew = w3 at hA3 hK3 ⊢
  have ch3 := hA3.ch
  simp only [Nat.reduceAdd] at ch3
  have cl3 := hA3.cl
  simp only [Nat.reduceAdd] at cl3
  go_wp2_with (go_at_call 39; refine (rask base b _ (((S).put (15)).halves (2)) _ _ _ hA3 (by first | omega | (simp only [St.ops_ask, St.ops_put, St.ops_whole, St.ops_halves, St.ops_low, St.ops_keep, List.length_append, List.length_cons, List.length_nil]; omega))).mono ?_; clear hA3; rintro e4 w4 ⟨rfl, hA4, hN4⟩; have hK4 := hK3.trans hN4; clear hN4 hK3; have ch4 := hA4.ch; simp only [Nat.reduceAdd] at ch4; have cl4 := hA4.cl; simp only [Nat.reduceAdd] at cl4)
  go_end0
  exact ⟨rfl, hA4, hK4⟩
set_option maxRecDepth 100000 in
set_option maxHeartbeats 400000 in
theorem rcol_3_8 (base b : Nat) (w : World) (S : St) (arg : Int) (g0 : 0 ≤ arg) (g1 : arg ≤ 99) (hl : S.ops.length ≤ 700) (hA : RAt base w b S) :
    Calls Tryz.prog 31 #[.pointer (some ⟨b, 0, none⟩), .int .i64 3, .int .i64 8, .int .i64 arg] w fun e w' => e = .returned (.tuple #[]) ∧ RAt base w' b (St.fColumn true 8 arg S) ∧ Kp 50 base b w w' := by
  by_cases q : arg ≤ 15
  · refine (rcol_3_8a base b w S arg g0 g1 q (by omega) hA).mono ?_
    rintro e w' ⟨he, hA', hK'⟩
    exact ⟨he, hA'.eq (by simp [St.fColumn, Int.min_eq_left q]), hK'⟩
  · refine (rcol_3_8b base b w S arg g0 g1 (by omega) (by omega) hA).mono ?_
    rintro e w' ⟨he, hA', hK'⟩
    exact ⟨he, hA'.eq (by simp [St.fColumn, Int.min_eq_right (Int.le_of_lt (Int.not_le.1 q))]), hK'⟩
set_option maxRecDepth 100000 in
set_option maxHeartbeats 400000 in
theorem rcol_4_1a (base b : Nat) (w : World) (S : St) (arg : Int) (g0 : 0 ≤ arg) (g1 : arg ≤ 99)  (t0 : arg ≤ 64) (hl : S.ops.length ≤ 800) (hA : RAt base w b S) :
    Calls Tryz.prog 31 #[.pointer (some ⟨b, 0, none⟩), .int .i64 4, .int .i64 1, .int .i64 arg] w fun e w' => e = .returned (.tuple #[]) ∧ RAt base w' b ((S).ask (15) (arg) (0)) ∧ Kp 50 base b w w' := by
  have hK0 := Kp.refl 50 base b w
  go_enter Tryz.func31, Tryz.ntmps31
  go_wp2_with (go_at_call 39; refine (rask base b _ (S) _ _ _ hA (by first | omega | (simp only [St.ops_ask, St.ops_put, St.ops_whole, St.ops_halves, St.ops_low, St.ops_keep, List.length_append, List.length_cons, List.length_nil]; omega))).mono ?_; clear hA; rintro e1 w1 ⟨rfl, hA1, hN1⟩; have hK1 := hK0.trans hN1; clear hN1 hK0)
  go_end0
  exact ⟨rfl, hA1, hK1⟩
set_option maxRecDepth 100000 in
set_option maxHeartbeats 400000 in
theorem rcol_4_1b (base b : Nat) (w : World) (S : St) (arg : Int) (g0 : 0 ≤ arg) (g1 : arg ≤ 99)  (t0 : 64 < arg) (hl : S.ops.length ≤ 800) (hA : RAt base w b S) :
    Calls Tryz.prog 31 #[.pointer (some ⟨b, 0, none⟩), .int .i64 4, .int .i64 1, .int .i64 arg] w fun e w' => e = .returned (.tuple #[]) ∧ RAt base w' b ((S).ask (15) (64) (0)) ∧ Kp 50 base b w w' := by
  have hK0 := Kp.refl 50 base b w
  go_enter Tryz.func31, Tryz.ntmps31
  go_wp2_with (go_at_call 39; refine (rask base b _ (S) _ _ _ hA (by first | omega | (simp only [St.ops_ask, St.ops_put, St.ops_whole, St.ops_halves, St.ops_low, St.ops_keep, List.length_append, List.length_cons, List.length_nil]; omega))).mono ?_; clear hA; rintro e1 w1 ⟨rfl, hA1, hN1⟩; have hK1 := hK0.trans hN1; clear hN1 hK0)
  go_end0
  exact ⟨rfl, hA1, hK1⟩
set_option maxRecDepth 100000 in
set_option maxHeartbeats 400000 in
theorem rcol_4_1 (base b : Nat) (w : World) (S : St) (arg : Int) (g0 : 0 ≤ arg) (g1 : arg ≤ 99) (hl : S.ops.length ≤ 700) (hA : RAt base w b S) :
    Calls Tryz.prog 31 #[.pointer (some ⟨b, 0, none⟩), .int .i64 4, .int .i64 1, .int .i64 arg] w fun e w' => e = .returned (.tuple #[]) ∧ RAt base w' b (St.fColumn false 1 arg S) ∧ Kp 50 base b w w' := by
  by_cases q : arg ≤ 64
  · refine (rcol_4_1a base b w S arg g0 g1 q (by omega) hA).mono ?_
    rintro e w' ⟨he, hA', hK'⟩
    exact ⟨he, hA'.eq (by simp [St.fColumn, Int.min_eq_left q]), hK'⟩
  · refine (rcol_4_1b base b w S arg g0 g1 (by omega) (by omega) hA).mono ?_
    rintro e w' ⟨he, hA', hK'⟩
    exact ⟨he, hA'.eq (by simp [St.fColumn, Int.min_eq_right (Int.le_of_lt (Int.not_le.1 q))]), hK'⟩
set_option maxRecDepth 100000 in
set_option maxHeartbeats 400000 in
theorem rcol_4_2a (base b : Nat) (w : World) (S : St) (arg : Int) (g0 : 0 ≤ arg) (g1 : arg ≤ 99)   (hl : S.ops.length ≤ 800) (hA : RAt base w b S) :
    Calls Tryz.prog 31 #[.pointer (some ⟨b, 0, none⟩), .int .i64 4, .int .i64 2, .int .i64 arg] w fun e w' => e = .returned (.tuple #[]) ∧ RAt base w' b ((S).ask (12) (arg) (0)) ∧ Kp 50 base b w w' := by
  have hK0 := Kp.refl 50 base b w
  go_enter Tryz.func31, Tryz.ntmps31
  go_wp2_with (go_at_call 39; refine (rask base b _ (S) _ _ _ hA (by first | omega | (simp only [St.ops_ask, St.ops_put, St.ops_whole, St.ops_halves, St.ops_low, St.ops_keep, List.length_append, List.length_cons, List.length_nil]; omega))).mono ?_; clear hA; rintro e1 w1 ⟨rfl, hA1, hN1⟩; have hK1 := hK0.trans hN1; clear hN1 hK0)
  go_end0
  exact ⟨rfl, hA1, hK1⟩
set_option maxRecDepth 100000 in
set_option maxHeartbeats 400000 in
theorem rcol_4_2 (base b : Nat) (w : World) (S : St) (arg : Int) (g0 : 0 ≤ arg) (g1 : arg ≤ 99) (hl : S.ops.length ≤ 700) (hA : RAt base w b S) :
    Calls Tryz.prog 31 #[.pointer (some ⟨b, 0, none⟩), .int .i64 4, .int .i64 2, .int .i64 arg] w fun e w' => e = .returned (.tuple #[]) ∧ RAt base w' b (St.fColumn false 2 arg S) ∧ Kp 50 base b w w' := by
  refine (rcol_4_2a base b w S arg g0 g1 (by omega) hA).mono ?_
  rintro e w' ⟨he, hA', hK'⟩
  exact ⟨he, hA'.eq (by simp [St.fColumn]), hK'⟩
set_option maxRecDepth 100000 in
set_option maxHeartbeats 400000 in
theorem rcol_4_3a (base b : Nat) (w : World) (S : St) (arg : Int) (g0 : 0 ≤ arg) (g1 : arg ≤ 99)   (hl : S.ops.length ≤ 800) (hA : RAt base w b S) :
    Calls Tryz.prog 31 #[.pointer (some ⟨b, 0, none⟩), .int .i64 4, .int .i64 3, .int .i64 arg] w fun e w' => e = .returned (.tuple #[]) ∧ RAt base w' b ((S).ask (12) (0) (arg)) ∧ Kp 50 base b w w' := by
  have hK0 := Kp.refl 50 base b w
  go_enter Tryz.func31, Tryz.ntmps31
  go_wp2_with (go_at_call 39; refine (rask base b _ (S) _ _ _ hA (by first | omega | (simp only [St.ops_ask, St.ops_put, St.ops_whole, St.ops_halves, St.ops_low, St.ops_keep, List.length_append, List.length_cons, List.length_nil]; omega))).mono ?_; clear hA; rintro e1 w1 ⟨rfl, hA1, hN1⟩; have hK1 := hK0.trans hN1; clear hN1 hK0)
  go_end0
  exact ⟨rfl, hA1, hK1⟩
set_option maxRecDepth 100000 in
set_option maxHeartbeats 400000 in
theorem rcol_4_3 (base b : Nat) (w : World) (S : St) (arg : Int) (g0 : 0 ≤ arg) (g1 : arg ≤ 99) (hl : S.ops.length ≤ 700) (hA : RAt base w b S) :
    Calls Tryz.prog 31 #[.pointer (some ⟨b, 0, none⟩), .int .i64 4, .int .i64 3, .int .i64 arg] w fun e w' => e = .returned (.tuple #[]) ∧ RAt base w' b (St.fColumn false 3 arg S) ∧ Kp 50 base b w w' := by
  refine (rcol_4_3a base b w S arg g0 g1 (by omega) hA).mono ?_
  rintro e w' ⟨he, hA', hK'⟩
  exact ⟨he, hA'.eq (by simp [St.fColumn]), hK'⟩
set_option maxRecDepth 100000 in
set_option maxHeartbeats 400000 in
theorem rcol_4_4a (base b : Nat) (w : World) (S : St) (arg : Int) (g0 : 0 ≤ arg) (g1 : arg ≤ 99)   (hl : S.ops.length ≤ 800) (hA : RAt base w b S) :
    Calls Tryz.prog 31 #[.pointer (some ⟨b, 0, none⟩), .int .i64 4, .int .i64 4, .int .i64 arg] w fun e w' => e = .returned (.tuple #[]) ∧ RAt base w' b ((S).ask (13) (arg) (0)) ∧ Kp 50 base b w w' := by
  have hK0 := Kp.refl 50 base b w
  go_enter Tryz.func31, Tryz.ntmps31
  go_wp2_with (go_at_call 39; refine (rask base b _ (S) _ _ _ hA (by first | omega | (simp only [St.ops_ask, St.ops_put, St.ops_whole, St.ops_halves, St.ops_low, St.ops_keep, List.length_append, List.length_cons, List.length_nil]; omega))).mono ?_; clear hA; rintro e1 w1 ⟨rfl, hA1, hN1⟩; have hK1 := hK0.trans hN1; clear hN1 hK0)
  go_end0
  exact ⟨rfl, hA1, hK1⟩
set_option maxRecDepth 100000 in
set_option maxHeartbeats 400000 in
theorem rcol_4_4 (base b : Nat) (w : World) (S : St) (arg : Int) (g0 : 0 ≤ arg) (g1 : arg ≤ 99) (hl : S.ops.length ≤ 700) (hA : RAt base w b S) :
    Calls Tryz.prog 31 #[.pointer (some ⟨b, 0, none⟩), .int .i64 4, .int .i64 4, .int .i64 arg] w fun e w' => e = .returned (.tuple #[]) ∧ RAt base w' b (St.fColumn false 4 arg S) ∧ Kp 50 base b w w' := by
  refine (rcol_4_4a base b w S arg g0 g1 (by omega) hA).mono ?_
  rintro e w' ⟨he, hA', hK'⟩
  exact ⟨he, hA'.eq (by simp [St.fColumn]), hK'⟩
set_option maxRecDepth 100000 in
set_option maxHeartbeats 400000 in
theorem rcol_4_5a (base b : Nat) (w : World) (S : St) (arg : Int) (g0 : 0 ≤ arg) (g1 : arg ≤ 99)   (hl : S.ops.length ≤ 800) (hA : RAt base w b S) :
    Calls Tryz.prog 31 #[.pointer (some ⟨b, 0, none⟩), .int .i64 4, .int .i64 5, .int .i64 arg] w fun e w' => e = .returned (.tuple #[]) ∧ RAt base w' b ((S).ask (14) (arg) (0)) ∧ Kp 50 base b w w' := by
  have hK0 := Kp.refl 50 base b w
  go_enter Tryz.func31, Tryz.ntmps31
  go_wp2_with (go_at_call 39; refine (rask base b _ (S) _ _ _ hA (by first | omega | (simp only [St.ops_ask, St.ops_put, St.ops_whole, St.ops_halves, St.ops_low, St.ops_keep, List.length_append, List.length_cons, List.length_nil]; omega))).mono ?_; clear hA; rintro e1 w1 ⟨rfl, hA1, hN1⟩; have hK1 := hK0.trans hN1; clear hN1 hK0)
  go_end0
  exact ⟨rfl, hA1, hK1⟩
set_option maxRecDepth 100000 in
set_option maxHeartbeats 400000 in
theorem rcol_4_5 (base b : Nat) (w : World) (S : St) (arg : Int) (g0 : 0 ≤ arg) (g1 : arg ≤ 99) (hl : S.ops.length ≤ 700) (hA : RAt base w b S) :
    Calls Tryz.prog 31 #[.pointer (some ⟨b, 0, none⟩), .int .i64 4, .int .i64 5, .int .i64 arg] w fun e w' => e = .returned (.tuple #[]) ∧ RAt base w' b (St.fColumn false 5 arg S) ∧ Kp 50 base b w w' := by
  refine (rcol_4_5a base b w S arg g0 g1 (by omega) hA).mono ?_
  rintro e w' ⟨he, hA', hK'⟩
  exact ⟨he, hA'.eq (by simp [St.fColumn]), hK'⟩
set_option maxRecDepth 100000 in
set_option maxHeartbeats 400000 in
theorem rcol_4_9a (base b : Nat) (w : World) (S : St) (arg : Int) (g0 : 0 ≤ arg) (g1 : arg ≤ 99)   (hl : S.ops.length ≤ 800) (hA : RAt base w b S) :
    Calls Tryz.prog 31 #[.pointer (some ⟨b, 0, none⟩), .int .i64 4, .int .i64 9, .int .i64 arg] w fun e w' => e = .returned (.tuple #[]) ∧ RAt base w' b ((S).ask (3) (4 * arg) (0)) ∧ Kp 50 base b w w' := by
  have hK0 := Kp.refl 50 base b w
  go_enter Tryz.func31, Tryz.ntmps31
  go_wp2_with (go_at_call 39; refine (rask base b _ (S) _ _ _ hA (by first | omega | (simp only [St.ops_ask, St.ops_put, St.ops_whole, St.ops_halves, St.ops_low, St.ops_keep, List.length_append, List.length_cons, List.length_nil]; omega))).mono ?_; clear hA; rintro e1 w1 ⟨rfl, hA1, hN1⟩; have hK1 := hK0.trans hN1; clear hN1 hK0)
  go_end0
  exact ⟨rfl, hA1, hK1⟩
set_option maxRecDepth 100000 in
set_option maxHeartbeats 400000 in
theorem rcol_4_9 (base b : Nat) (w : World) (S : St) (arg : Int) (g0 : 0 ≤ arg) (g1 : arg ≤ 99) (hl : S.ops.length ≤ 700) (hA : RAt base w b S) :
    Calls Tryz.prog 31 #[.pointer (some ⟨b, 0, none⟩), .int .i64 4, .int .i64 9, .int .i64 arg] w fun e w' => e = .returned (.tuple #[]) ∧ RAt base w' b (St.fColumn false 9 arg S) ∧ Kp 50 base b w w' := by
  refine (rcol_4_9a base b w S arg g0 g1 (by omega) hA).mono ?_
  rintro e w' ⟨he, hA', hK'⟩
  exact ⟨he, hA'.eq (by simp [St.fColumn]), hK'⟩
set_option maxRecDepth 100000 in
set_option maxHeartbeats 400000 in
theorem rcol_4_10a (base b : Nat) (w : World) (S : St) (arg : Int) (g0 : 0 ≤ arg) (g1 : arg ≤ 99)   (hl : S.ops.length ≤ 800) (hA : RAt base w b S) :
    Calls Tryz.prog 31 #[.pointer (some ⟨b, 0, none⟩), .int .i64 4, .int .i64 10, .int .i64 arg] w fun e w' => e = .returned (.tuple #[]) ∧ RAt base w' b ((S).ask (2) (4 * arg) (0)) ∧ Kp 50 base b w w' := by
  have hK0 := Kp.refl 50 base b w
  go_enter Tryz.func31, Tryz.ntmps31
  go_wp2_with (go_at_call 39; refine (rask base b _ (S) _ _ _ hA (by first | omega | (simp only [St.ops_ask, St.ops_put, St.ops_whole, St.ops_halves, St.ops_low, St.ops_keep, List.length_append, List.length_cons, List.length_nil]; omega))).mono ?_; clear hA; rintro e1 w1 ⟨rfl, hA1, hN1⟩; have hK1 := hK0.trans hN1; clear hN1 hK0)
  go_end0
  exact ⟨rfl, hA1, hK1⟩
set_option maxRecDepth 100000 in
set_option maxHeartbeats 400000 in
theorem rcol_4_10 (base b : Nat) (w : World) (S : St) (arg : Int) (g0 : 0 ≤ arg) (g1 : arg ≤ 99) (hl : S.ops.length ≤ 700) (hA : RAt base w b S) :
    Calls Tryz.prog 31 #[.pointer (some ⟨b, 0, none⟩), .int .i64 4, .int .i64 10, .int .i64 arg] w fun e w' => e = .returned (.tuple #[]) ∧ RAt base w' b (St.fColumn false 10 arg S) ∧ Kp 50 base b w w' := by
  refine (rcol_4_10a base b w S arg g0 g1 (by omega) hA).mono ?_
  rintro e w' ⟨he, hA', hK'⟩
  exact ⟨he, hA'.eq (by simp [St.fColumn]), hK'⟩
set_option maxRecDepth 100000 in
set_option maxHeartbeats 400000 in
theorem rcol_4_6a (base b : Nat) (w : World) (S : St) (arg : Int) (g0 : 0 ≤ arg) (g1 : arg ≤ 99)  (t0 : arg ≤ 64) (hl : S.ops.length ≤ 800) (hA : RAt base w b S) :
    Calls Tryz.prog 31 #[.pointer (some ⟨b, 0, none⟩), .int .i64 4, .int .i64 6, .int .i64 arg] w fun e w' => e = .returned (.tuple #[]) ∧ RAt base w' b ((S).ask (16) (4 * arg) (0)) ∧ Kp 50 base b w w' := by
  have hK0 := Kp.refl 50 base b w
  go_enter Tryz.func31, Tryz.ntmps31
  go_wp2_with (go_at_call 39; refine (rask base b _ (S) _ _ _ hA (by first | omega | (simp only [St.ops_ask, St.ops_put, St.ops_whole, St.ops_halves, St.ops_low, St.ops_keep, List.length_append, List.length_cons, List.length_nil]; omega))).mono ?_; clear hA; rintro e1 w1 ⟨rfl, hA1, hN1⟩; have hK1 := hK0.trans hN1; clear hN1 hK0)
  go_end0
  exact ⟨rfl, hA1, hK1⟩
set_option maxRecDepth 100000 in
set_option maxHeartbeats 400000 in
theorem rcol_4_6b (base b : Nat) (w : World) (S : St) (arg : Int) (g0 : 0 ≤ arg) (g1 : arg ≤ 99)  (t0 : 64 < arg) (hl : S.ops.length ≤ 800) (hA : RAt base w b S) :
    Calls Tryz.prog 31 #[.pointer (some ⟨b, 0, none⟩), .int .i64 4, .int .i64 6, .int .i64 arg] w fun e w' => e = .returned (.tuple #[]) ∧ RAt base w' b ((S).ask (16) (256) (0)) ∧ Kp 50 base b w w' := by
  have hK0 := Kp.refl 50 base b w
  go_enter Tryz.func31, Tryz.ntmps31
  go_wp2_with (go_at_call 39; refine (rask base b _ (S) _ _ _ hA (by first | omega | (simp only [St.ops_ask, St.ops_put, St.ops_whole, St.ops_halves, St.ops_low, St.ops_keep, List.length_append, List.length_cons, List.length_nil]; omega))).mono ?_; clear hA; rintro e1 w1 ⟨rfl, hA1, hN1⟩; have hK1 := hK0.trans hN1; clear hN1 hK0)
  go_end0
  exact ⟨rfl, hA1, hK1⟩
set_option maxRecDepth 100000 in
set_option maxHeartbeats 400000 in
theorem rcol_4_6 (base b : Nat) (w : World) (S : St) (arg : Int) (g0 : 0 ≤ arg) (g1 : arg ≤ 99) (hl : S.ops.length ≤ 700) (hA : RAt base w b S) :
    Calls Tryz.prog 31 #[.pointer (some ⟨b, 0, none⟩), .int .i64 4, .int .i64 6, .int .i64 arg] w fun e w' => e = .returned (.tuple #[]) ∧ RAt base w' b (St.fColumn false 6 arg S) ∧ Kp 50 base b w w' := by
  by_cases q : arg ≤ 64
  · refine (rcol_4_6a base b w S arg g0 g1 q (by omega) hA).mono ?_
    rintro e w' ⟨he, hA', hK'⟩
    exact ⟨he, hA'.eq (by simp [St.fColumn, Int.min_eq_left q]), hK'⟩
  · refine (rcol_4_6b base b w S arg g0 g1 (by omega) (by omega) hA).mono ?_
    rintro e w' ⟨he, hA', hK'⟩
    exact ⟨he, hA'.eq (by simp [St.fColumn, Int.min_eq_right (Int.le_of_lt (Int.not_le.1 q))]), hK'⟩
set_option maxRecDepth 100000 in
set_option maxHeartbeats 400000 in
theorem rcol_4_8a (base b : Nat) (w : World) (S : St) (arg : Int) (g0 : 0 ≤ arg) (g1 : arg ≤ 99)  (t0 : arg ≤ 15) (hl : S.ops.length ≤ 800) (hA : RAt base w b S) :
    Calls Tryz.prog 31 #[.pointer (some ⟨b, 0, none⟩), .int .i64 4, .int .i64 8, .int .i64 arg] w fun e w' => e = .returned (.tuple #[]) ∧ RAt base w' b ((((S).put (arg)).halves (3)).ask (9) ((((S).put (arg)).halves (3)).h) ((((S).put (arg)).halves (3)).l)) ∧ Kp 50 base b w w' := by
  have ch := hA.ch
  simp only [Nat.reduceAdd] at ch
  have cl := hA.cl
  simp only [Nat.reduceAdd] at cl
  have hK0 := Kp.refl 50 base b w
  go_enter Tryz.func31, Tryz.ntmps31
  go_wp2_with (first | (go_at_call 40; refine (rput base b _ (S) _ hA).mono ?_; clear hA; rintro e1 w1 ⟨rfl, hA1, hN1⟩; have hK1 := hK0.trans hN1; clear hN1 hK0; have ch1 := hA1.ch; simp only [Nat.reduceAdd] at ch1; have cl1 := hA1.cl; simp only [Nat.reduceAdd] at cl1) | (go_at_call 42; refine (rhalves base b _ ((S).put (arg)) _ (by decide) (by decide) hA1).mono ?_; clear hA1; rintro e2 w2 ⟨rfl, hA2, hN2⟩; have hK2 := hK1.trans hN2; clear hN2 hK1; have ch2 := hA2.ch; simp only [Nat.reduceAdd] at ch2; have cl2 := hA2.cl; simp only [Nat.reduceAdd] at cl2))
  go_still_tail 9, (by kernel_rfl)
  change wpList _ _ _ _ _ w2.drew
  have hA3 := hA2.drew
  have hK3 := hK2.drew
  clear hA2 hK2
  generalize w2.drew = w3 at hA3 hK3 ⊢
  have ch3 := hA3.ch
  simp only [Nat.reduceAdd] at ch3
  have cl3 := hA3.cl
  simp only [Nat.reduceAdd] at cl3
  go_wp2_with (go_at_call 39; refine (rask base b _ (((S).put (arg)).halves (3)) _ _ _ hA3 (by first | omega | (simp only [St.ops_ask, St.ops_put, St.ops_whole, St.ops_halves, St.ops_low, St.ops_keep, List.length_append, List.length_cons, List.length_nil]; omega))).mono ?_; clear hA3; rintro e4 w4 ⟨rfl, hA4, hN4⟩; have hK4 := hK3.trans hN4; clear hN4 hK3; have ch4 := hA4.ch; simp only [Nat.reduceAdd] at ch4; have cl4 := hA4.cl; simp only [Nat.reduceAdd] at cl4)
  go_end0
  exact ⟨rfl, hA4, hK4⟩
set_option maxRecDepth 100000 in
set_option maxHeartbeats 400000 in
theorem rcol_4_8b (base b : Nat) (w : World) (S : St) (arg : Int) (g0 : 0 ≤ arg) (g1 : arg ≤ 99)  (t0 : 15 < arg) (hl : S.ops.length ≤ 800) (hA : RAt base w b S) :
    Calls Tryz.prog 31 #[.pointer (some ⟨b, 0, none⟩), .int .i64 4, .int .i64 8, .int .i64 arg] w fun e w' => e = .returned (.tuple #[]) ∧ RAt base w' b ((((S).put (15)).halves (3)).ask (9) ((((S).put (15)).halves (3)).h) ((((S).put (15)).halves (3)).l)) ∧ Kp 50 base b w w' := by
  have ch := hA.ch
  simp only [Nat.reduceAdd] at ch
  have cl := hA.cl
  simp only [Nat.reduceAdd] at cl
  have hK0 := Kp.refl 50 base b w
  go_enter Tryz.func31, Tryz.ntmps31
  go_wp2_with (first | (go_at_call 40; refine (rput base b _ (S) _ hA).mono ?_; clear hA; rintro e1 w1 ⟨rfl, hA1, hN1⟩; have hK1 := hK0.trans hN1; clear hN1 hK0; have ch1 := hA1.ch; simp only [Nat.reduceAdd] at ch1; have cl1 := hA1.cl; simp only [Nat.reduceAdd] at cl1) | (go_at_call 42; refine (rhalves base b _ ((S).put (15)) _ (by decide) (by decide) hA1).mono ?_; clear hA1; rintro e2 w2 ⟨rfl, hA2, hN2⟩; have hK2 := hK1.trans hN2; clear hN2 hK1; have ch2 := hA2.ch; simp only [Nat.reduceAdd] at ch2; have cl2 := hA2.cl; simp only [Nat.reduceAdd] at cl2))
  go_still_tail 9, (by kernel_rfl)
  change wpList _ _ _ _ _ w2.drew
  have hA3 := hA2.drew
  have hK3 := hK2.drew
  clear hA2 hK2
  generalize w2.drew = w3 at hA3 hK3 ⊢
  have ch3 := hA3.ch
  simp only [Nat.reduceAdd] at ch3
  have cl3 := hA3.cl
  simp only [Nat.reduceAdd] at cl3
  go_wp2_with (go_at_call 39; refine (rask base b _ (((S).put (15)).halves (3)) _ _ _ hA3 (by first | omega | (simp only [St.ops_ask, St.ops_put, St.ops_whole, St.ops_halves, St.ops_low, St.ops_keep, List.length_append, List.length_cons, List.length_nil]; omega))).mono ?_; clear hA3; rintro e4 w4 ⟨rfl, hA4, hN4⟩; have hK4 := hK3.trans hN4; clear hN4 hK3; have ch4 := hA4.ch; simp only [Nat.reduceAdd] at ch4; have cl4 := hA4.cl; simp only [Nat.reduceAdd] at cl4)
  go_end0
  exact ⟨rfl, hA4, hK4⟩
set_option maxRecDepth 100000 in
set_option maxHeartbeats 400000 in
theorem rcol_4_8 (base b : Nat) (w : World) (S : St) (arg : Int) (g0 : 0 ≤ arg) (g1 : arg ≤ 99) (hl : S.ops.length ≤ 700) (hA : RAt base w b S) :
    Calls Tryz.prog 31 #[.pointer (some ⟨b, 0, none⟩), .int .i64 4, .int .i64 8, .int .i64 arg] w fun e w' => e = .returned (.tuple #[]) ∧ RAt base w' b (St.fColumn false 8 arg S) ∧ Kp 50 base b w w' := by
  by_cases q : arg ≤ 15
  · refine (rcol_4_8a base b w S arg g0 g1 q (by omega) hA).mono ?_
    rintro e w' ⟨he, hA', hK'⟩
    exact ⟨he, hA'.eq (by simp [St.fColumn, Int.min_eq_left q]), hK'⟩
  · refine (rcol_4_8b base b w S arg g0 g1 (by omega) (by omega) hA).mono ?_
    rintro e w' ⟨he, hA', hK'⟩
    exact ⟨he, hA'.eq (by simp [St.fColumn, Int.min_eq_right (Int.le_of_lt (Int.not_le.1 q))]), hK'⟩
set_option maxRecDepth 100000 in
set_option maxHeartbeats 400000 in
theorem rcol_3_7a (base b : Nat) (w : World) (S : St) (arg : Int) (g0 : 0 ≤ arg) (g1 : arg ≤ 99)  (t0 : arg ≤ 15) (hl : S.ops.length ≤ 800) (hA : RAt base w b S) :
    Calls Tryz.prog 31 #[.pointer (some ⟨b, 0, none⟩), .int .i64 3, .int .i64 7, .int .i64 arg] w fun e w' => e = .returned (.tuple #[]) ∧ RAt base w' b ((((S).put (16 * arg)).whole (1)).ask (8) ((((S).put (16 * arg)).whole (1)).p) (0)) ∧ Kp 50 base b w w' := by
  have cp := hA.cp
  have hK0 := Kp.refl 50 base b w
  go_enter Tryz.func31, Tryz.ntmps31
  go_wp2_with (first | (go_at_call 40; refine (rput base b _ (S) _ hA).mono ?_; clear hA; rintro e1 w1 ⟨rfl, hA1, hN1⟩; have hK1 := hK0.trans hN1; clear hN1 hK0; have cp1 := hA1.cp) | (go_at_call 41; refine (rwhole base b _ ((S).put (16 * arg)) _ (by decide) (by decide) hA1).mono ?_; clear hA1; rintro e2 w2 ⟨rfl, hA2, hN2⟩; have hK2 := hK1.trans hN2; clear hN2 hK1; have cp2 := hA2.cp) | (go_at_call 39; refine (rask base b _ (((S).put (16 * arg)).whole (1)) _ _ _ hA2 (by first | omega | (simp only [St.ops_ask, St.ops_put, St.ops_whole, St.ops_halves, St.ops_low, St.ops_keep, List.length_append, List.length_cons, List.length_nil]; omega))).mono ?_; clear hA2; rintro e3 w3 ⟨rfl, hA3, hN3⟩; have hK3 := hK2.trans hN3; clear hN3 hK2; have cp3 := hA3.cp))
  go_end0
  exact ⟨rfl, hA3, hK3⟩
set_option maxRecDepth 100000 in
set_option maxHeartbeats 400000 in
theorem rcol_3_7b (base b : Nat) (w : World) (S : St) (arg : Int) (g0 : 0 ≤ arg) (g1 : arg ≤ 99)  (t0 : 15 < arg) (hl : S.ops.length ≤ 800) (hA : RAt base w b S) :
    Calls Tryz.prog 31 #[.pointer (some ⟨b, 0, none⟩), .int .i64 3, .int .i64 7, .int .i64 arg] w fun e w' => e = .returned (.tuple #[]) ∧ RAt base w' b ((((S).put (240)).whole (1)).ask (8) ((((S).put (240)).whole (1)).p) (0)) ∧ Kp 50 base b w w' := by
  have cp := hA.cp
  have hK0 := Kp.refl 50 base b w
  go_enter Tryz.func31, Tryz.ntmps31
  go_wp2_with (first | (go_at_call 40; refine (rput base b _ (S) _ hA).mono ?_; clear hA; rintro e1 w1 ⟨rfl, hA1, hN1⟩; have hK1 := hK0.trans hN1; clear hN1 hK0; have cp1 := hA1.cp) | (go_at_call 41; refine (rwhole base b _ ((S).put (240)) _ (by decide) (by decide) hA1).mono ?_; clear hA1; rintro e2 w2 ⟨rfl, hA2, hN2⟩; have hK2 := hK1.trans hN2; clear hN2 hK1; have cp2 := hA2.cp) | (go_at_call 39; refine (rask base b _ (((S).put (240)).whole (1)) _ _ _ hA2 (by first | omega | (simp only [St.ops_ask, St.ops_put, St.ops_whole, St.ops_halves, St.ops_low, St.ops_keep, List.length_append, List.length_cons, List.length_nil]; omega))).mono ?_; clear hA2; rintro e3 w3 ⟨rfl, hA3, hN3⟩; have hK3 := hK2.trans hN3; clear hN3 hK2; have cp3 := hA3.cp))
  go_end0
  exact ⟨rfl, hA3, hK3⟩
set_option maxRecDepth 100000 in
set_option maxHeartbeats 400000 in
theorem rcol_3_7 (base b : Nat) (w : World) (S : St) (arg : Int) (g0 : 0 ≤ arg) (g1 : arg ≤ 99) (hl : S.ops.length ≤ 700) (hA : RAt base w b S) :
    Calls Tryz.prog 31 #[.pointer (some ⟨b, 0, none⟩), .int .i64 3, .int .i64 7, .int .i64 arg] w fun e w' => e = .returned (.tuple #[]) ∧ RAt base w' b (St.fColumn true 7 arg S) ∧ Kp 50 base b w w' := by
  by_cases q : arg ≤ 15
  · refine (rcol_3_7a base b w S arg g0 g1 q (by omega) hA).mono ?_
    rintro e w' ⟨he, hA', hK'⟩
    exact ⟨he, hA'.eq (by simp [St.fColumn, Int.min_eq_left q]), hK'⟩
  · refine (rcol_3_7b base b w S arg g0 g1 (by omega) (by omega) hA).mono ?_
    rintro e w' ⟨he, hA', hK'⟩
    exact ⟨he, hA'.eq (by simp [St.fColumn, Int.min_eq_right (Int.le_of_lt (Int.not_le.1 q))]), hK'⟩
set_option maxRecDepth 100000 in
set_option maxHeartbeats 400000 in
theorem rcol_4_7_0 (base b : Nat) (w : World) (S : St) (hl : S.ops.length ≤ 700) (hA : RAt base w b S) :
    Calls Tryz.prog 31 #[.pointer (some ⟨b, 0, none⟩), .int .i64 4, .int .i64 7, .int .i64 0] w fun e w' => e = .returned (.tuple #[]) ∧ RAt base w' b (((S.put 0).whole 2).ask 8 ((S.put 0).whole 2).p 0) ∧ Kp 50 base b w w' := by
  go_enter Tryz.func31, Tryz.ntmps31
  go_upto_region 20 with fail
  have hA1 := hA.alloc (.cells #[.int .i64 0, .int .i64 1, .int .i64 4, .int .i64 8, .int .i64 16, .int .i64 32, .int .i64 64, .int .i64 96, .int .i64 128, .int .i64 255] 3)
  have hK1 := (Kp.refl 50 base b w).alloc (.cells #[.int .i64 0, .int .i64 1, .int .i64 4, .int .i64 8, .int .i64 16, .int .i64 32, .int .i64 64, .int .i64 96, .int .i64 128, .int .i64 255] 3)
  generalize w.alloc _ = w1 at hA1 hK1 ⊢
  go_wp2_with (first
    | (go_at_call 40; refine (rput base b _ S _ hA1).mono ?_; rintro e2 w2 ⟨rfl, hA2, hK2⟩)
    | (go_at_call 41; refine (rwhole base b _ (S.put 0) _ (by decide) (by decide) hA2).mono ?_; rintro e3 w3 ⟨rfl, hA3, hK3⟩; have cp3 := hA3.cp)
    | (go_at_call 39; refine (rask base b _ ((S.put 0).whole 2) _ _ _ hA3 (by simp only [St.ops_put, St.ops_whole]; omega)).mono ?_; rintro e4 w4 ⟨rfl, hA4, hK4⟩))
  all_goals (go_end0; exact ⟨rfl, hA4, ((hK1.trans hK2).trans hK3).trans hK4⟩)
set_option maxRecDepth 100000 in
set_option maxHeartbeats 400000 in
theorem rcol_4_7_1 (base b : Nat) (w : World) (S : St) (hl : S.ops.length ≤ 700) (hA : RAt base w b S) :
    Calls Tryz.prog 31 #[.pointer (some ⟨b, 0, none⟩), .int .i64 4, .int .i64 7, .int .i64 1] w fun e w' => e = .returned (.tuple #[]) ∧ RAt base w' b (((S.put 1).whole 2).ask 8 ((S.put 1).whole 2).p 0) ∧ Kp 50 base b w w' := by
  go_enter Tryz.func31, Tryz.ntmps31
  go_upto_region 20 with fail
  have hA1 := hA.alloc (.cells #[.int .i64 0, .int .i64 1, .int .i64 4, .int .i64 8, .int .i64 16, .int .i64 32, .int .i64 64, .int .i64 96, .int .i64 128, .int .i64 255] 3)
  have hK1 := (Kp.refl 50 base b w).alloc (.cells #[.int .i64 0, .int .i64 1, .int .i64 4, .int .i64 8, .int .i64 16, .int .i64 32, .int .i64 64, .int .i64 96, .int .i64 128, .int .i64 255] 3)
  generalize w.alloc _ = w1 at hA1 hK1 ⊢
  go_wp2_with (first
    | (go_at_call 40; refine (rput base b _ S _ hA1).mono ?_; rintro e2 w2 ⟨rfl, hA2, hK2⟩)
    | (go_at_call 41; refine (rwhole base b _ (S.put 1) _ (by decide) (by decide) hA2).mono ?_; rintro e3 w3 ⟨rfl, hA3, hK3⟩; have cp3 := hA3.cp)
    | (go_at_call 39; refine (rask base b _ ((S.put 1).whole 2) _ _ _ hA3 (by simp only [St.ops_put, St.ops_whole]; omega)).mono ?_; rintro e4 w4 ⟨rfl, hA4, hK4⟩))
  all_goals (go_end0; exact ⟨rfl, hA4, ((hK1.trans hK2).trans hK3).trans hK4⟩)
set_option maxRecDepth 100000 in
set_option maxHeartbeats 400000 in
theorem rcol_4_7_2 (base b : Nat) (w : World) (S : St) (hl : S.ops.length ≤ 700) (hA : RAt base w b S) :
    Calls Tryz.prog 31 #[.pointer (some ⟨b, 0, none⟩), .int .i64 4, .int .i64 7, .int .i64 2] w fun e w' => e = .returned (.tuple #[]) ∧ RAt base w' b (((S.put 4).whole 2).ask 8 ((S.put 4).whole 2).p 0) ∧ Kp 50 base b w w' := by
  go_enter Tryz.func31, Tryz.ntmps31
  go_upto_region 20 with fail
  have hA1 := hA.alloc (.cells #[.int .i64 0, .int .i64 1, .int .i64 4, .int .i64 8, .int .i64 16, .int .i64 32, .int .i64 64, .int .i64 96, .int .i64 128, .int .i64 255] 3)
  have hK1 := (Kp.refl 50 base b w).alloc (.cells #[.int .i64 0, .int .i64 1, .int .i64 4, .int .i64 8, .int .i64 16, .int .i64 32, .int .i64 64, .int .i64 96, .int .i64 128, .int .i64 255] 3)
  generalize w.alloc _ = w1 at hA1 hK1 ⊢
  go_wp2_with (first
    | (go_at_call 40; refine (rput base b _ S _ hA1).mono ?_; rintro e2 w2 ⟨rfl, hA2, hK2⟩)
    | (go_at_call 41; refine (rwhole base b _ (S.put 4) _ (by decide) (by decide) hA2).mono ?_; rintro e3 w3 ⟨rfl, hA3, hK3⟩; have cp3 := hA3.cp)
    | (go_at_call 39; refine (rask base b _ ((S.put 4).whole 2) _ _ _ hA3 (by simp only [St.ops_put, St.ops_whole]; omega)).mono ?_; rintro e4 w4 ⟨rfl, hA4, hK4⟩))
  all_goals (go_end0; exact ⟨rfl, hA4, ((hK1.trans hK2).trans hK3).trans hK4⟩)
set_option maxRecDepth 100000 in
set_option maxHeartbeats 400000 in
theorem rcol_4_7_3 (base b : Nat) (w : World) (S : St) (hl : S.ops.length ≤ 700) (hA : RAt base w b S) :
    Calls Tryz.prog 31 #[.pointer (some ⟨b, 0, none⟩), .int .i64 4, .int .i64 7, .int .i64 3] w fun e w' => e = .returned (.tuple #[]) ∧ RAt base w' b (((S.put 8).whole 2).ask 8 ((S.put 8).whole 2).p 0) ∧ Kp 50 base b w w' := by
  go_enter Tryz.func31, Tryz.ntmps31
  go_upto_region 20 with fail
  have hA1 := hA.alloc (.cells #[.int .i64 0, .int .i64 1, .int .i64 4, .int .i64 8, .int .i64 16, .int .i64 32, .int .i64 64, .int .i64 96, .int .i64 128, .int .i64 255] 3)
  have hK1 := (Kp.refl 50 base b w).alloc (.cells #[.int .i64 0, .int .i64 1, .int .i64 4, .int .i64 8, .int .i64 16, .int .i64 32, .int .i64 64, .int .i64 96, .int .i64 128, .int .i64 255] 3)
  generalize w.alloc _ = w1 at hA1 hK1 ⊢
  go_wp2_with (first
    | (go_at_call 40; refine (rput base b _ S _ hA1).mono ?_; rintro e2 w2 ⟨rfl, hA2, hK2⟩)
    | (go_at_call 41; refine (rwhole base b _ (S.put 8) _ (by decide) (by decide) hA2).mono ?_; rintro e3 w3 ⟨rfl, hA3, hK3⟩; have cp3 := hA3.cp)
    | (go_at_call 39; refine (rask base b _ ((S.put 8).whole 2) _ _ _ hA3 (by simp only [St.ops_put, St.ops_whole]; omega)).mono ?_; rintro e4 w4 ⟨rfl, hA4, hK4⟩))
  all_goals (go_end0; exact ⟨rfl, hA4, ((hK1.trans hK2).trans hK3).trans hK4⟩)
set_option maxRecDepth 100000 in
set_option maxHeartbeats 400000 in
theorem rcol_4_7_4 (base b : Nat) (w : World) (S : St) (hl : S.ops.length ≤ 700) (hA : RAt base w b S) :
    Calls Tryz.prog 31 #[.pointer (some ⟨b, 0, none⟩), .int .i64 4, .int .i64 7, .int .i64 4] w fun e w' => e = .returned (.tuple #[]) ∧ RAt base w' b (((S.put 16).whole 2).ask 8 ((S.put 16).whole 2).p 0) ∧ Kp 50 base b w w' := by
  go_enter Tryz.func31, Tryz.ntmps31
  go_upto_region 20 with fail
  have hA1 := hA.alloc (.cells #[.int .i64 0, .int .i64 1, .int .i64 4, .int .i64 8, .int .i64 16, .int .i64 32, .int .i64 64, .int .i64 96, .int .i64 128, .int .i64 255] 3)
  have hK1 := (Kp.refl 50 base b w).alloc (.cells #[.int .i64 0, .int .i64 1, .int .i64 4, .int .i64 8, .int .i64 16, .int .i64 32, .int .i64 64, .int .i64 96, .int .i64 128, .int .i64 255] 3)
  generalize w.alloc _ = w1 at hA1 hK1 ⊢
  go_wp2_with (first
    | (go_at_call 40; refine (rput base b _ S _ hA1).mono ?_; rintro e2 w2 ⟨rfl, hA2, hK2⟩)
    | (go_at_call 41; refine (rwhole base b _ (S.put 16) _ (by decide) (by decide) hA2).mono ?_; rintro e3 w3 ⟨rfl, hA3, hK3⟩; have cp3 := hA3.cp)
    | (go_at_call 39; refine (rask base b _ ((S.put 16).whole 2) _ _ _ hA3 (by simp only [St.ops_put, St.ops_whole]; omega)).mono ?_; rintro e4 w4 ⟨rfl, hA4, hK4⟩))
  all_goals (go_end0; exact ⟨rfl, hA4, ((hK1.trans hK2).trans hK3).trans hK4⟩)
set_option maxRecDepth 100000 in
set_option maxHeartbeats 400000 in
theorem rcol_4_7_5 (base b : Nat) (w : World) (S : St) (hl : S.ops.length ≤ 700) (hA : RAt base w b S) :
    Calls Tryz.prog 31 #[.pointer (some ⟨b, 0, none⟩), .int .i64 4, .int .i64 7, .int .i64 5] w fun e w' => e = .returned (.tuple #[]) ∧ RAt base w' b (((S.put 32).whole 2).ask 8 ((S.put 32).whole 2).p 0) ∧ Kp 50 base b w w' := by
  go_enter Tryz.func31, Tryz.ntmps31
  go_upto_region 20 with fail
  have hA1 := hA.alloc (.cells #[.int .i64 0, .int .i64 1, .int .i64 4, .int .i64 8, .int .i64 16, .int .i64 32, .int .i64 64, .int .i64 96, .int .i64 128, .int .i64 255] 3)
  have hK1 := (Kp.refl 50 base b w).alloc (.cells #[.int .i64 0, .int .i64 1, .int .i64 4, .int .i64 8, .int .i64 16, .int .i64 32, .int .i64 64, .int .i64 96, .int .i64 128, .int .i64 255] 3)
  generalize w.alloc _ = w1 at hA1 hK1 ⊢
  go_wp2_with (first
    | (go_at_call 40; refine (rput base b _ S _ hA1).mono ?_; rintro e2 w2 ⟨rfl, hA2, hK2⟩)
    | (go_at_call 41; refine (rwhole base b _ (S.put 32) _ (by decide) (by decide) hA2).mono ?_; rintro e3 w3 ⟨rfl, hA3, hK3⟩; have cp3 := hA3.cp)
    | (go_at_call 39; refine (rask base b _ ((S.put 32).whole 2) _ _ _ hA3 (by simp only [St.ops_put, St.ops_whole]; omega)).mono ?_; rintro e4 w4 ⟨rfl, hA4, hK4⟩))
  all_goals (go_end0; exact ⟨rfl, hA4, ((hK1.trans hK2).trans hK3).trans hK4⟩)
set_option maxRecDepth 100000 in
set_option maxHeartbeats 400000 in
theorem rcol_4_7_6 (base b : Nat) (w : World) (S : St) (hl : S.ops.length ≤ 700) (hA : RAt base w b S) :
    Calls Tryz.prog 31 #[.pointer (some ⟨b, 0, none⟩), .int .i64 4, .int .i64 7, .int .i64 6] w fun e w' => e = .returned (.tuple #[]) ∧ RAt base w' b (((S.put 64).whole 2).ask 8 ((S.put 64).whole 2).p 0) ∧ Kp 50 base b w w' := by
  go_enter Tryz.func31, Tryz.ntmps31
  go_upto_region 20 with fail
  have hA1 := hA.alloc (.cells #[.int .i64 0, .int .i64 1, .int .i64 4, .int .i64 8, .int .i64 16, .int .i64 32, .int .i64 64, .int .i64 96, .int .i64 128, .int .i64 255] 3)
  have hK1 := (Kp.refl 50 base b w).alloc (.cells #[.int .i64 0, .int .i64 1, .int .i64 4, .int .i64 8, .int .i64 16, .int .i64 32, .int .i64 64, .int .i64 96, .int .i64 128, .int .i64 255] 3)
  generalize w.alloc _ = w1 at hA1 hK1 ⊢
  go_wp2_with (first
    | (go_at_call 40; refine (rput base b _ S _ hA1).mono ?_; rintro e2 w2 ⟨rfl, hA2, hK2⟩)
    | (go_at_call 41; refine (rwhole base b _ (S.put 64) _ (by decide) (by decide) hA2).mono ?_; rintro e3 w3 ⟨rfl, hA3, hK3⟩; have cp3 := hA3.cp)
    | (go_at_call 39; refine (rask base b _ ((S.put 64).whole 2) _ _ _ hA3 (by simp only [St.ops_put, St.ops_whole]; omega)).mono ?_; rintro e4 w4 ⟨rfl, hA4, hK4⟩))
  all_goals (go_end0; exact ⟨rfl, hA4, ((hK1.trans hK2).trans hK3).trans hK4⟩)
set_option maxRecDepth 100000 in
set_option maxHeartbeats 400000 in
theorem rcol_4_7_7 (base b : Nat) (w : World) (S : St) (hl : S.ops.length ≤ 700) (hA : RAt base w b S) :
    Calls Tryz.prog 31 #[.pointer (some ⟨b, 0, none⟩), .int .i64 4, .int .i64 7, .int .i64 7] w fun e w' => e = .returned (.tuple #[]) ∧ RAt base w' b (((S.put 96).whole 2).ask 8 ((S.put 96).whole 2).p 0) ∧ Kp 50 base b w w' := by
  go_enter Tryz.func31, Tryz.ntmps31
  go_upto_region 20 with fail
  have hA1 := hA.alloc (.cells #[.int .i64 0, .int .i64 1, .int .i64 4, .int .i64 8, .int .i64 16, .int .i64 32, .int .i64 64, .int .i64 96, .int .i64 128, .int .i64 255] 3)
  have hK1 := (Kp.refl 50 base b w).alloc (.cells #[.int .i64 0, .int .i64 1, .int .i64 4, .int .i64 8, .int .i64 16, .int .i64 32, .int .i64 64, .int .i64 96, .int .i64 128, .int .i64 255] 3)
  generalize w.alloc _ = w1 at hA1 hK1 ⊢
  go_wp2_with (first
    | (go_at_call 40; refine (rput base b _ S _ hA1).mono ?_; rintro e2 w2 ⟨rfl, hA2, hK2⟩)
    | (go_at_call 41; refine (rwhole base b _ (S.put 96) _ (by decide) (by decide) hA2).mono ?_; rintro e3 w3 ⟨rfl, hA3, hK3⟩; have cp3 := hA3.cp)
    | (go_at_call 39; refine (rask base b _ ((S.put 96).whole 2) _ _ _ hA3 (by simp only [St.ops_put, St.ops_whole]; omega)).mono ?_; rintro e4 w4 ⟨rfl, hA4, hK4⟩))
  all_goals (go_end0; exact ⟨rfl, hA4, ((hK1.trans hK2).trans hK3).trans hK4⟩)
set_option maxRecDepth 100000 in
set_option maxHeartbeats 400000 in
theorem rcol_4_7_8 (base b : Nat) (w : World) (S : St) (hl : S.ops.length ≤ 700) (hA : RAt base w b S) :
    Calls Tryz.prog 31 #[.pointer (some ⟨b, 0, none⟩), .int .i64 4, .int .i64 7, .int .i64 8] w fun e w' => e = .returned (.tuple #[]) ∧ RAt base w' b (((S.put 128).whole 2).ask 8 ((S.put 128).whole 2).p 0) ∧ Kp 50 base b w w' := by
  go_enter Tryz.func31, Tryz.ntmps31
  go_upto_region 20 with fail
  have hA1 := hA.alloc (.cells #[.int .i64 0, .int .i64 1, .int .i64 4, .int .i64 8, .int .i64 16, .int .i64 32, .int .i64 64, .int .i64 96, .int .i64 128, .int .i64 255] 3)
  have hK1 := (Kp.refl 50 base b w).alloc (.cells #[.int .i64 0, .int .i64 1, .int .i64 4, .int .i64 8, .int .i64 16, .int .i64 32, .int .i64 64, .int .i64 96, .int .i64 128, .int .i64 255] 3)
  generalize w.alloc _ = w1 at hA1 hK1 ⊢
  go_wp2_with (first
    | (go_at_call 40; refine (rput base b _ S _ hA1).mono ?_; rintro e2 w2 ⟨rfl, hA2, hK2⟩)
    | (go_at_call 41; refine (rwhole base b _ (S.put 128) _ (by decide) (by decide) hA2).mono ?_; rintro e3 w3 ⟨rfl, hA3, hK3⟩; have cp3 := hA3.cp)
    | (go_at_call 39; refine (rask base b _ ((S.put 128).whole 2) _ _ _ hA3 (by simp only [St.ops_put, St.ops_whole]; omega)).mono ?_; rintro e4 w4 ⟨rfl, hA4, hK4⟩))
  all_goals (go_end0; exact ⟨rfl, hA4, ((hK1.trans hK2).trans hK3).trans hK4⟩)
set_option maxRecDepth 100000 in
set_option maxHeartbeats 400000 in
theorem rcol_4_7_9 (base b : Nat) (w : World) (S : St) (hl : S.ops.length ≤ 700) (hA : RAt base w b S) :
    Calls Tryz.prog 31 #[.pointer (some ⟨b, 0, none⟩), .int .i64 4, .int .i64 7, .int .i64 9] w fun e w' => e = .returned (.tuple #[]) ∧ RAt base w' b (((S.put 255).whole 2).ask 8 ((S.put 255).whole 2).p 0) ∧ Kp 50 base b w w' := by
  go_enter Tryz.func31, Tryz.ntmps31
  go_upto_region 20 with fail
  have hA1 := hA.alloc (.cells #[.int .i64 0, .int .i64 1, .int .i64 4, .int .i64 8, .int .i64 16, .int .i64 32, .int .i64 64, .int .i64 96, .int .i64 128, .int .i64 255] 3)
  have hK1 := (Kp.refl 50 base b w).alloc (.cells #[.int .i64 0, .int .i64 1, .int .i64 4, .int .i64 8, .int .i64 16, .int .i64 32, .int .i64 64, .int .i64 96, .int .i64 128, .int .i64 255] 3)
  generalize w.alloc _ = w1 at hA1 hK1 ⊢
  go_wp2_with (first
    | (go_at_call 40; refine (rput base b _ S _ hA1).mono ?_; rintro e2 w2 ⟨rfl, hA2, hK2⟩)
    | (go_at_call 41; refine (rwhole base b _ (S.put 255) _ (by decide) (by decide) hA2).mono ?_; rintro e3 w3 ⟨rfl, hA3, hK3⟩; have cp3 := hA3.cp)
    | (go_at_call 39; refine (rask base b _ ((S.put 255).whole 2) _ _ _ hA3 (by simp only [St.ops_put, St.ops_whole]; omega)).mono ?_; rintro e4 w4 ⟨rfl, hA4, hK4⟩))
  all_goals (go_end0; exact ⟨rfl, hA4, ((hK1.trans hK2).trans hK3).trans hK4⟩)
set_option maxRecDepth 100000 in
set_option maxHeartbeats 400000 in
theorem rcol_4_7_b (base b : Nat) (w : World) (S : St) (arg : Int) (g1 : arg ≤ 99) (q : 9 < arg) (hl : S.ops.length ≤ 700) (hA : RAt base w b S) :
    Calls Tryz.prog 31 #[.pointer (some ⟨b, 0, none⟩), .int .i64 4, .int .i64 7, .int .i64 arg] w fun e w' => e = .returned (.tuple #[]) ∧ RAt base w' b (((S.put 255).whole 2).ask 8 ((S.put 255).whole 2).p 0) ∧ Kp 50 base b w w' := by
  go_enter Tryz.func31, Tryz.ntmps31
  go_upto_region 20 with fail
  have hA1 := hA.alloc (.cells #[.int .i64 0, .int .i64 1, .int .i64 4, .int .i64 8, .int .i64 16, .int .i64 32, .int .i64 64, .int .i64 96, .int .i64 128, .int .i64 255] 3)
  have hK1 := (Kp.refl 50 base b w).alloc (.cells #[.int .i64 0, .int .i64 1, .int .i64 4, .int .i64 8, .int .i64 16, .int .i64 32, .int .i64 64, .int .i64 96, .int .i64 128, .int .i64 255] 3)
  generalize w.alloc _ = w1 at hA1 hK1 ⊢
  go_wp2_with (first
    | (go_at_call 40; refine (rput base b _ S _ hA1).mono ?_; rintro e2 w2 ⟨rfl, hA2, hK2⟩)
    | (go_at_call 41; refine (rwhole base b _ (S.put 255) _ (by decide) (by decide) hA2).mono ?_; rintro e3 w3 ⟨rfl, hA3, hK3⟩; have cp3 := hA3.cp)
    | (go_at_call 39; refine (rask base b _ ((S.put 255).whole 2) _ _ _ hA3 (by simp only [St.ops_put, St.ops_whole]; omega)).mono ?_; rintro e4 w4 ⟨rfl, hA4, hK4⟩))
  all_goals (go_end0; exact ⟨rfl, hA4, ((hK1.trans hK2).trans hK3).trans hK4⟩)
set_option maxRecDepth 100000 in
set_option maxHeartbeats 400000 in
theorem rcol_4_7 (base b : Nat) (w : World) (S : St) (arg : Int) (g0 : 0 ≤ arg) (g1 : arg ≤ 99) (hl : S.ops.length ≤ 700) (hA : RAt base w b S) :
    Calls Tryz.prog 31 #[.pointer (some ⟨b, 0, none⟩), .int .i64 4, .int .i64 7, .int .i64 arg] w fun e w' => e = .returned (.tuple #[]) ∧ RAt base w' b (St.fColumn false 7 arg S) ∧ Kp 50 base b w w' := by
  by_cases q0 : arg = 0
  · subst q0
    refine (rcol_4_7_0 base b w S hl hA).mono ?_
    rintro e w' ⟨he, hA', hK'⟩
    exact ⟨he, hA'.eq (by simp [St.fColumn, volT]), hK'⟩
  by_cases q1 : arg = 1
  · subst q1
    refine (rcol_4_7_1 base b w S hl hA).mono ?_
    rintro e w' ⟨he, hA', hK'⟩
    exact ⟨he, hA'.eq (by simp [St.fColumn, volT]), hK'⟩
  by_cases q2 : arg = 2
  · subst q2
    refine (rcol_4_7_2 base b w S hl hA).mono ?_
    rintro e w' ⟨he, hA', hK'⟩
    exact ⟨he, hA'.eq (by simp [St.fColumn, volT]), hK'⟩
  by_cases q3 : arg = 3
  · subst q3
    refine (rcol_4_7_3 base b w S hl hA).mono ?_
    rintro e w' ⟨he, hA', hK'⟩
    exact ⟨he, hA'.eq (by simp [St.fColumn, volT]), hK'⟩
  by_cases q4 : arg = 4
  · subst q4
    refine (rcol_4_7_4 base b w S hl hA).mono ?_
    rintro e w' ⟨he, hA', hK'⟩
    exact ⟨he, hA'.eq (by simp [St.fColumn, volT]), hK'⟩
  by_cases q5 : arg = 5
  · subst q5
    refine (rcol_4_7_5 base b w S hl hA).mono ?_
    rintro e w' ⟨he, hA', hK'⟩
    exact ⟨he, hA'.eq (by simp [St.fColumn, volT]), hK'⟩
  by_cases q6 : arg = 6
  · subst q6
    refine (rcol_4_7_6 base b w S hl hA).mono ?_
    rintro e w' ⟨he, hA', hK'⟩
    exact ⟨he, hA'.eq (by simp [St.fColumn, volT]), hK'⟩
  by_cases q7 : arg = 7
  · subst q7
    refine (rcol_4_7_7 base b w S hl hA).mono ?_
    rintro e w' ⟨he, hA', hK'⟩
    exact ⟨he, hA'.eq (by simp [St.fColumn, volT]), hK'⟩
  by_cases q8 : arg = 8
  · subst q8
    refine (rcol_4_7_8 base b w S hl hA).mono ?_
    rintro e w' ⟨he, hA', hK'⟩
    exact ⟨he, hA'.eq (by simp [St.fColumn, volT]), hK'⟩
  by_cases q9 : arg = 9
  · subst q9
    refine (rcol_4_7_9 base b w S hl hA).mono ?_
    rintro e w' ⟨he, hA', hK'⟩
    exact ⟨he, hA'.eq (by simp [St.fColumn, volT]), hK'⟩
  refine (rcol_4_7_b base b w S arg g1 (by omega) hl hA).mono ?_
  rintro e w' ⟨he, hA', hK'⟩
  exact ⟨he, hA'.eq (by simp [St.fColumn, volT, q0, q1, q2, q3, q4, q5, q6, q7, q8, q9]), hK'⟩
set_option maxRecDepth 100000 in
set_option maxHeartbeats 400000 in
theorem r_column (base b : Nat) (w : World) (S : St) (d cmd arg : Int) (hd : d = 2 ∧ cmd ≤ 1 ∨ d = 3 ∧ cmd ≤ 8 ∨ d = 4 ∧ cmd ≤ 10) (c0 : 1 ≤ cmd) (g0 : 0 ≤ arg) (g1 : arg ≤ 99) (hl : S.ops.length ≤ 700) (hA : RAt base w b S) :
    Calls Tryz.prog 31 #[.pointer (some ⟨b, 0, none⟩), .int .i64 d, .int .i64 cmd, .int .i64 arg] w fun e w' => e = .returned (.tuple #[]) ∧ RAt base w' b (St.fColumn (decide (d = 3)) cmd arg S) ∧ Kp 50 base b w w' := by
  rcases hd with ⟨rfl, c1⟩ | ⟨rfl, c1⟩ | ⟨rfl, c1⟩
  · rcases (by omega : cmd = 1) with rfl
    · exact rcol_2_1 base b w S arg g0 g1 hl hA
  · rcases (by omega : cmd = 1 ∨ cmd = 2 ∨ cmd = 3 ∨ cmd = 4 ∨ cmd = 5 ∨ cmd = 6 ∨ cmd = 7 ∨ cmd = 8) with rfl | rfl | rfl | rfl | rfl | rfl | rfl | rfl
    · exact rcol_3_1 base b w S arg g0 g1 hl hA
    · exact rcol_3_2 base b w S arg g0 g1 hl hA
    · exact rcol_3_3 base b w S arg g0 g1 hl hA
    · exact rcol_3_4 base b w S arg g0 g1 hl hA
    · exact rcol_3_5 base b w S arg g0 g1 hl hA
    · exact rcol_3_6 base b w S arg g0 g1 hl hA
    · exact rcol_3_7 base b w S arg g0 g1 hl hA
    · exact rcol_3_8 base b w S arg g0 g1 hl hA
  · rcases (by omega : cmd = 1 ∨ cmd = 2 ∨ cmd = 3 ∨ cmd = 4 ∨ cmd = 5 ∨ cmd = 6 ∨ cmd = 7 ∨ cmd = 8 ∨ cmd = 9 ∨ cmd = 10) with rfl | rfl | rfl | rfl | rfl | rfl | rfl | rfl | rfl | rfl
    · exact rcol_4_1 base b w S arg g0 g1 hl hA
    · exact rcol_4_2 base b w S arg g0 g1 hl hA
    · exact rcol_4_3 base b w S arg g0 g1 hl hA
    · exact rcol_4_4 base b w S arg g0 g1 hl hA
    · exact rcol_4_5 base b w S arg g0 g1 hl hA
    · exact rcol_4_6 base b w S arg g0 g1 hl hA
    · exact rcol_4_7 base b w S arg g0 g1 hl hA
    · exact rcol_4_8 base b w S arg g0 g1 hl hA
    · exact rcol_4_9 base b w S arg g0 g1 hl hA
    · exact rcol_4_10 base b w S arg g0 g1 hl hA

end Go.Proofs.YtappnglfmidjoaaGreat.D
