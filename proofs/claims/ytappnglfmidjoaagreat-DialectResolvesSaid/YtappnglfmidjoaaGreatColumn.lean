/- The volume column of the program. -/
import Derived.Test.YtappnglfmidjoaaGreatChip
set_option linter.unusedVariables false
set_option linter.unusedSimpArgs false
namespace Go.Proofs.YtappnglfmidjoaaGreat.D
open Go Go.RowKit
open Go.Proofs.YtappnglfmidjoaaGreat.DB
set_option maxRecDepth 100000 in
set_option maxHeartbeats 400000 in
theorem col1_a (base b : Nat) (w : World) (S : St) (n1 n2 : Nat) (arg : Int) (g0 : 0 ≤ arg) (g1 : arg ≤ 99) (bx_n1 : Box 50 w b n1 (.pointer (some ⟨b, 0, none⟩))) (bx_n2 : Box 50 w b n2 (.int .i64 arg)) (t0 : arg ≤ 64) (hl : S.ops.length ≤ 800) (hA : PAt base w b S) :
    Calls Tryz.prog 62 #[.pointer (some ⟨n1, 0, none⟩), .pointer (some ⟨n2, 0, none⟩)] w fun e w' => e = .returned (.tuple #[]) ∧ PAt base w' b ((S).ask (15) (arg) (0)) ∧ Kp 50 base b w w' := by
  have cb_n1 := bx_n1.cell
  have cb_n2 := bx_n2.cell
  have hK0 := Kp.refl 50 base b w
  go_enter Tryz.func62, Tryz.ntmps62
  go_wp2_with (go_at_call 63; refine (pask base b _ (S) _ _ _ hA (by first | omega | (simp only [St.ops_ask, St.ops_put, St.ops_whole, St.ops_halves, St.ops_low, St.ops_keep, List.length_append, List.length_cons, List.length_nil]; omega))).mono ?_; clear hA; rintro e1 w1 ⟨rfl, hA1, hN1⟩; have hK1 := hK0.trans hN1; clear hN1 hK0; have cb_n11 := (bx_n1.kp hK1).cell; have cb_n21 := (bx_n2.kp hK1).cell)
  go_end0
  exact ⟨rfl, hA1, hK1⟩
set_option maxRecDepth 100000 in
set_option maxHeartbeats 400000 in
theorem col1_b (base b : Nat) (w : World) (S : St) (n1 n2 : Nat) (arg : Int) (g0 : 0 ≤ arg) (g1 : arg ≤ 99) (bx_n1 : Box 50 w b n1 (.pointer (some ⟨b, 0, none⟩))) (bx_n2 : Box 50 w b n2 (.int .i64 arg)) (t0 : 64 < arg) (hl : S.ops.length ≤ 800) (hA : PAt base w b S) :
    Calls Tryz.prog 62 #[.pointer (some ⟨n1, 0, none⟩), .pointer (some ⟨n2, 0, none⟩)] w fun e w' => e = .returned (.tuple #[]) ∧ PAt base w' b ((S).ask (15) (64) (0)) ∧ Kp 50 base b w w' := by
  have cb_n1 := bx_n1.cell
  have cb_n2 := bx_n2.cell
  have hK0 := Kp.refl 50 base b w
  go_enter Tryz.func62, Tryz.ntmps62
  go_wp2_with (go_at_call 63; refine (pask base b _ (S) _ _ _ hA (by first | omega | (simp only [St.ops_ask, St.ops_put, St.ops_whole, St.ops_halves, St.ops_low, St.ops_keep, List.length_append, List.length_cons, List.length_nil]; omega))).mono ?_; clear hA; rintro e1 w1 ⟨rfl, hA1, hN1⟩; have hK1 := hK0.trans hN1; clear hN1 hK0; have cb_n11 := (bx_n1.kp hK1).cell; have cb_n21 := (bx_n2.kp hK1).cell)
  go_end0
  exact ⟨rfl, hA1, hK1⟩
set_option maxRecDepth 100000 in
set_option maxHeartbeats 400000 in
theorem col2 (base b : Nat) (w : World) (S : St) (n1 n2 : Nat) (arg : Int) (g0 : 0 ≤ arg) (g1 : arg ≤ 99) (bx_n1 : Box 50 w b n1 (.pointer (some ⟨b, 0, none⟩))) (bx_n2 : Box 50 w b n2 (.int .i64 arg))  (hl : S.ops.length ≤ 800) (hA : PAt base w b S) :
    Calls Tryz.prog 64 #[.pointer (some ⟨n1, 0, none⟩), .pointer (some ⟨n2, 0, none⟩)] w fun e w' => e = .returned (.tuple #[]) ∧ PAt base w' b ((S).ask (12) (arg) (0)) ∧ Kp 50 base b w w' := by
  have cb_n1 := bx_n1.cell
  have cb_n2 := bx_n2.cell
  have hK0 := Kp.refl 50 base b w
  go_enter Tryz.func64, Tryz.ntmps64
  go_wp2_with (go_at_call 63; refine (pask base b _ (S) _ _ _ hA (by first | omega | (simp only [St.ops_ask, St.ops_put, St.ops_whole, St.ops_halves, St.ops_low, St.ops_keep, List.length_append, List.length_cons, List.length_nil]; omega))).mono ?_; clear hA; rintro e1 w1 ⟨rfl, hA1, hN1⟩; have hK1 := hK0.trans hN1; clear hN1 hK0; have cb_n11 := (bx_n1.kp hK1).cell; have cb_n21 := (bx_n2.kp hK1).cell)
  go_end0
  exact ⟨rfl, hA1, hK1⟩
set_option maxRecDepth 100000 in
set_option maxHeartbeats 400000 in
theorem col3 (base b : Nat) (w : World) (S : St) (n1 n2 : Nat) (arg : Int) (g0 : 0 ≤ arg) (g1 : arg ≤ 99) (bx_n1 : Box 50 w b n1 (.pointer (some ⟨b, 0, none⟩))) (bx_n2 : Box 50 w b n2 (.int .i64 arg))  (hl : S.ops.length ≤ 800) (hA : PAt base w b S) :
    Calls Tryz.prog 65 #[.pointer (some ⟨n1, 0, none⟩), .pointer (some ⟨n2, 0, none⟩)] w fun e w' => e = .returned (.tuple #[]) ∧ PAt base w' b ((S).ask (12) (0) (arg)) ∧ Kp 50 base b w w' := by
  have cb_n1 := bx_n1.cell
  have cb_n2 := bx_n2.cell
  have hK0 := Kp.refl 50 base b w
  go_enter Tryz.func65, Tryz.ntmps65
  go_wp2_with (go_at_call 63; refine (pask base b _ (S) _ _ _ hA (by first | omega | (simp only [St.ops_ask, St.ops_put, St.ops_whole, St.ops_halves, St.ops_low, St.ops_keep, List.length_append, List.length_cons, List.length_nil]; omega))).mono ?_; clear hA; rintro e1 w1 ⟨rfl, hA1, hN1⟩; have hK1 := hK0.trans hN1; clear hN1 hK0; have cb_n11 := (bx_n1.kp hK1).cell; have cb_n21 := (bx_n2.kp hK1).cell)
  go_end0
  exact ⟨rfl, hA1, hK1⟩
set_option maxRecDepth 100000 in
set_option maxHeartbeats 400000 in
theorem col4 (base b : Nat) (w : World) (S : St) (n1 n2 : Nat) (arg : Int) (g0 : 0 ≤ arg) (g1 : arg ≤ 99) (bx_n1 : Box 50 w b n1 (.pointer (some ⟨b, 0, none⟩))) (bx_n2 : Box 50 w b n2 (.int .i64 arg))  (hl : S.ops.length ≤ 800) (hA : PAt base w b S) :
    Calls Tryz.prog 66 #[.pointer (some ⟨n1, 0, none⟩), .pointer (some ⟨n2, 0, none⟩)] w fun e w' => e = .returned (.tuple #[]) ∧ PAt base w' b ((S).ask (13) (arg) (0)) ∧ Kp 50 base b w w' := by
  have cb_n1 := bx_n1.cell
  have cb_n2 := bx_n2.cell
  have hK0 := Kp.refl 50 base b w
  go_enter Tryz.func66, Tryz.ntmps66
  go_wp2_with (go_at_call 63; refine (pask base b _ (S) _ _ _ hA (by first | omega | (simp only [St.ops_ask, St.ops_put, St.ops_whole, St.ops_halves, St.ops_low, St.ops_keep, List.length_append, List.length_cons, List.length_nil]; omega))).mono ?_; clear hA; rintro e1 w1 ⟨rfl, hA1, hN1⟩; have hK1 := hK0.trans hN1; clear hN1 hK0; have cb_n11 := (bx_n1.kp hK1).cell; have cb_n21 := (bx_n2.kp hK1).cell)
  go_end0
  exact ⟨rfl, hA1, hK1⟩
set_option maxRecDepth 100000 in
set_option maxHeartbeats 400000 in
theorem col5 (base b : Nat) (w : World) (S : St) (n1 n2 : Nat) (arg : Int) (g0 : 0 ≤ arg) (g1 : arg ≤ 99) (bx_n1 : Box 50 w b n1 (.pointer (some ⟨b, 0, none⟩))) (bx_n2 : Box 50 w b n2 (.int .i64 arg))  (hl : S.ops.length ≤ 800) (hA : PAt base w b S) :
    Calls Tryz.prog 67 #[.pointer (some ⟨n1, 0, none⟩), .pointer (some ⟨n2, 0, none⟩)] w fun e w' => e = .returned (.tuple #[]) ∧ PAt base w' b ((S).ask (14) (arg) (0)) ∧ Kp 50 base b w w' := by
  have cb_n1 := bx_n1.cell
  have cb_n2 := bx_n2.cell
  have hK0 := Kp.refl 50 base b w
  go_enter Tryz.func67, Tryz.ntmps67
  go_wp2_with (go_at_call 63; refine (pask base b _ (S) _ _ _ hA (by first | omega | (simp only [St.ops_ask, St.ops_put, St.ops_whole, St.ops_halves, St.ops_low, St.ops_keep, List.length_append, List.length_cons, List.length_nil]; omega))).mono ?_; clear hA; rintro e1 w1 ⟨rfl, hA1, hN1⟩; have hK1 := hK0.trans hN1; clear hN1 hK0; have cb_n11 := (bx_n1.kp hK1).cell; have cb_n21 := (bx_n2.kp hK1).cell)
  go_end0
  exact ⟨rfl, hA1, hK1⟩
set_option maxRecDepth 100000 in
set_option maxHeartbeats 400000 in
theorem col6_a (base b : Nat) (w : World) (S : St) (n1 n2 : Nat) (arg : Int) (g0 : 0 ≤ arg) (g1 : arg ≤ 99) (bx_n1 : Box 50 w b n1 (.pointer (some ⟨b, 0, none⟩))) (bx_n2 : Box 50 w b n2 (.int .i64 arg)) (t0 : arg ≤ 64) (hl : S.ops.length ≤ 800) (hA : PAt base w b S) :
    Calls Tryz.prog 68 #[.pointer (some ⟨n1, 0, none⟩), .pointer (some ⟨n2, 0, none⟩)] w fun e w' => e = .returned (.tuple #[]) ∧ PAt base w' b ((S).ask (16) (4 * arg) (0)) ∧ Kp 50 base b w w' := by
  have cb_n1 := bx_n1.cell
  have cb_n2 := bx_n2.cell
  have hK0 := Kp.refl 50 base b w
  go_enter Tryz.func68, Tryz.ntmps68
  go_wp2_with (go_at_call 63; refine (pask base b _ (S) _ _ _ hA (by first | omega | (simp only [St.ops_ask, St.ops_put, St.ops_whole, St.ops_halves, St.ops_low, St.ops_keep, List.length_append, List.length_cons, List.length_nil]; omega))).mono ?_; clear hA; rintro e1 w1 ⟨rfl, hA1, hN1⟩; have hK1 := hK0.trans hN1; clear hN1 hK0; have cb_n11 := (bx_n1.kp hK1).cell; have cb_n21 := (bx_n2.kp hK1).cell)
  go_end0
  exact ⟨rfl, hA1, hK1⟩
set_option maxRecDepth 100000 in
set_option maxHeartbeats 400000 in
theorem col6_b (base b : Nat) (w : World) (S : St) (n1 n2 : Nat) (arg : Int) (g0 : 0 ≤ arg) (g1 : arg ≤ 99) (bx_n1 : Box 50 w b n1 (.pointer (some ⟨b, 0, none⟩))) (bx_n2 : Box 50 w b n2 (.int .i64 arg)) (t0 : 64 < arg) (hl : S.ops.length ≤ 800) (hA : PAt base w b S) :
    Calls Tryz.prog 68 #[.pointer (some ⟨n1, 0, none⟩), .pointer (some ⟨n2, 0, none⟩)] w fun e w' => e = .returned (.tuple #[]) ∧ PAt base w' b ((S).ask (16) (256) (0)) ∧ Kp 50 base b w w' := by
  have cb_n1 := bx_n1.cell
  have cb_n2 := bx_n2.cell
  have hK0 := Kp.refl 50 base b w
  go_enter Tryz.func68, Tryz.ntmps68
  go_wp2_with (go_at_call 63; refine (pask base b _ (S) _ _ _ hA (by first | omega | (simp only [St.ops_ask, St.ops_put, St.ops_whole, St.ops_halves, St.ops_low, St.ops_keep, List.length_append, List.length_cons, List.length_nil]; omega))).mono ?_; clear hA; rintro e1 w1 ⟨rfl, hA1, hN1⟩; have hK1 := hK0.trans hN1; clear hN1 hK0; have cb_n11 := (bx_n1.kp hK1).cell; have cb_n21 := (bx_n2.kp hK1).cell)
  go_end0
  exact ⟨rfl, hA1, hK1⟩
set_option maxRecDepth 100000 in
set_option maxHeartbeats 400000 in
theorem col9 (base b : Nat) (w : World) (S : St) (n1 n2 : Nat) (arg : Int) (g0 : 0 ≤ arg) (g1 : arg ≤ 99) (bx_n1 : Box 50 w b n1 (.pointer (some ⟨b, 0, none⟩))) (bx_n2 : Box 50 w b n2 (.int .i64 arg))  (hl : S.ops.length ≤ 800) (hA : PAt base w b S) :
    Calls Tryz.prog 73 #[.pointer (some ⟨n1, 0, none⟩), .pointer (some ⟨n2, 0, none⟩)] w fun e w' => e = .returned (.tuple #[]) ∧ PAt base w' b ((S).ask (3) (4 * arg) (0)) ∧ Kp 50 base b w w' := by
  have cb_n1 := bx_n1.cell
  have cb_n2 := bx_n2.cell
  have hK0 := Kp.refl 50 base b w
  go_enter Tryz.func73, Tryz.ntmps73
  go_wp2_with (go_at_call 63; refine (pask base b _ (S) _ _ _ hA (by first | omega | (simp only [St.ops_ask, St.ops_put, St.ops_whole, St.ops_halves, St.ops_low, St.ops_keep, List.length_append, List.length_cons, List.length_nil]; omega))).mono ?_; clear hA; rintro e1 w1 ⟨rfl, hA1, hN1⟩; have hK1 := hK0.trans hN1; clear hN1 hK0; have cb_n11 := (bx_n1.kp hK1).cell; have cb_n21 := (bx_n2.kp hK1).cell)
  go_end0
  exact ⟨rfl, hA1, hK1⟩
set_option maxRecDepth 100000 in
set_option maxHeartbeats 400000 in
theorem col10 (base b : Nat) (w : World) (S : St) (n1 n2 : Nat) (arg : Int) (g0 : 0 ≤ arg) (g1 : arg ≤ 99) (bx_n1 : Box 50 w b n1 (.pointer (some ⟨b, 0, none⟩))) (bx_n2 : Box 50 w b n2 (.int .i64 arg))  (hl : S.ops.length ≤ 800) (hA : PAt base w b S) :
    Calls Tryz.prog 74 #[.pointer (some ⟨n1, 0, none⟩), .pointer (some ⟨n2, 0, none⟩)] w fun e w' => e = .returned (.tuple #[]) ∧ PAt base w' b ((S).ask (2) (4 * arg) (0)) ∧ Kp 50 base b w w' := by
  have cb_n1 := bx_n1.cell
  have cb_n2 := bx_n2.cell
  have hK0 := Kp.refl 50 base b w
  go_enter Tryz.func74, Tryz.ntmps74
  go_wp2_with (go_at_call 63; refine (pask base b _ (S) _ _ _ hA (by first | omega | (simp only [St.ops_ask, St.ops_put, St.ops_whole, St.ops_halves, St.ops_low, St.ops_keep, List.length_append, List.length_cons, List.length_nil]; omega))).mono ?_; clear hA; rintro e1 w1 ⟨rfl, hA1, hN1⟩; have hK1 := hK0.trans hN1; clear hN1 hK0; have cb_n11 := (bx_n1.kp hK1).cell; have cb_n21 := (bx_n2.kp hK1).cell)
  go_end0
  exact ⟨rfl, hA1, hK1⟩
set_option maxRecDepth 100000 in
set_option maxHeartbeats 400000 in
theorem col7f_a (base b : Nat) (w : World) (S : St) (n0 n1 n2 : Nat) (arg : Int) (g0 : 0 ≤ arg) (g1 : arg ≤ 99) (bx_n0 : Box 50 w b n0 (.bool true)) (bx_n1 : Box 50 w b n1 (.pointer (some ⟨b, 0, none⟩))) (bx_n2 : Box 50 w b n2 (.int .i64 arg)) (t0 : arg ≤ 15) (hl : S.ops.length ≤ 800) (hA : PAt base w b S) :
    Calls Tryz.prog 69 #[.pointer (some ⟨n0, 0, none⟩), .pointer (some ⟨n1, 0, none⟩), .pointer (some ⟨n2, 0, none⟩)] w fun e w' => e = .returned (.tuple #[]) ∧ PAt base w' b ((((S).put (16 * arg)).whole (1)).ask (8) ((((S).put (16 * arg)).whole (1)).p) (0)) ∧ Kp 50 base b w w' := by
  have cp := hA.cp
  have cb_n0 := bx_n0.cell
  have cb_n1 := bx_n1.cell
  have cb_n2 := bx_n2.cell
  have hK0 := Kp.refl 50 base b w
  go_enter Tryz.func69, Tryz.ntmps69
  go_wp2_with (first | (go_at_call 53; refine (pput base b _ (S) _ hA).mono ?_; clear hA; rintro e1 w1 ⟨rfl, hA1, hN1⟩; have hK1 := hK0.trans hN1; clear hN1 hK0; have cp1 := hA1.cp; have cb_n01 := (bx_n0.kp hK1).cell; have cb_n11 := (bx_n1.kp hK1).cell; have cb_n21 := (bx_n2.kp hK1).cell) | (go_at_call 70; refine (pwhole base b _ ((S).put (16 * arg)) _ (by decide) (by decide) hA1).mono ?_; clear hA1; rintro e2 w2 ⟨rfl, hA2, hN2⟩; have hK2 := hK1.trans hN2; clear hN2 hK1; have cp2 := hA2.cp; have cb_n02 := (bx_n0.kp hK2).cell; have cb_n12 := (bx_n1.kp hK2).cell; have cb_n22 := (bx_n2.kp hK2).cell))
  go_still_tail 5, (by kernel_rfl)
  change wpList _ _ _ _ _ w2.drew
  have hA3 := hA2.drew
  have hK3 := hK2.drew
  clear hA2 hK2
  generalize w2.drew = w3 at hA3 hK3 ⊢
  have cp3 := hA3.cp
  have cb_n03 := (bx_n0.kp hK3).cell
  have cb_n13 := (bx_n1.kp hK3).cell
  have cb_n23 := (bx_n2.kp hK3).cell
  go_wp2_with (go_at_call 63; refine (pask base b _ (((S).put (16 * arg)).whole (1)) _ _ _ hA3 (by first | omega | (simp only [St.ops_ask, St.ops_put, St.ops_whole, St.ops_halves, St.ops_low, St.ops_keep, List.length_append, List.length_cons, List.length_nil]; omega))).mono ?_; clear hA3; rintro e4 w4 ⟨rfl, hA4, hN4⟩; have hK4 := hK3.trans hN4; clear hN4 hK3; have cp4 := hA4.cp; have cb_n04 := (bx_n0.kp hK4).cell; have cb_n14 := (bx_n1.kp hK4).cell; have cb_n24 := (bx_n2.kp hK4).cell)
  go_end0
  exact ⟨rfl, hA4, hK4⟩
set_option maxRecDepth 100000 in
set_option maxHeartbeats 400000 in
theorem col7f_b (base b : Nat) (w : World) (S : St) (n0 n1 n2 : Nat) (arg : Int) (g0 : 0 ≤ arg) (g1 : arg ≤ 99) (bx_n0 : Box 50 w b n0 (.bool true)) (bx_n1 : Box 50 w b n1 (.pointer (some ⟨b, 0, none⟩))) (bx_n2 : Box 50 w b n2 (.int .i64 arg)) (t0 : 15 < arg) (hl : S.ops.length ≤ 800) (hA : PAt base w b S) :
    Calls Tryz.prog 69 #[.pointer (some ⟨n0, 0, none⟩), .pointer (some ⟨n1, 0, none⟩), .pointer (some ⟨n2, 0, none⟩)] w fun e w' => e = .returned (.tuple #[]) ∧ PAt base w' b ((((S).put (240)).whole (1)).ask (8) ((((S).put (240)).whole (1)).p) (0)) ∧ Kp 50 base b w w' := by
  have cp := hA.cp
  have cb_n0 := bx_n0.cell
  have cb_n1 := bx_n1.cell
  have cb_n2 := bx_n2.cell
  have hK0 := Kp.refl 50 base b w
  go_enter Tryz.func69, Tryz.ntmps69
  go_wp2_with (first | (go_at_call 53; refine (pput base b _ (S) _ hA).mono ?_; clear hA; rintro e1 w1 ⟨rfl, hA1, hN1⟩; have hK1 := hK0.trans hN1; clear hN1 hK0; have cp1 := hA1.cp; have cb_n01 := (bx_n0.kp hK1).cell; have cb_n11 := (bx_n1.kp hK1).cell; have cb_n21 := (bx_n2.kp hK1).cell) | (go_at_call 70; refine (pwhole base b _ ((S).put (240)) _ (by decide) (by decide) hA1).mono ?_; clear hA1; rintro e2 w2 ⟨rfl, hA2, hN2⟩; have hK2 := hK1.trans hN2; clear hN2 hK1; have cp2 := hA2.cp; have cb_n02 := (bx_n0.kp hK2).cell; have cb_n12 := (bx_n1.kp hK2).cell; have cb_n22 := (bx_n2.kp hK2).cell))
  go_still_tail 5, (by kernel_rfl)
  change wpList _ _ _ _ _ w2.drew
  have hA3 := hA2.drew
  have hK3 := hK2.drew
  clear hA2 hK2
  generalize w2.drew = w3 at hA3 hK3 ⊢
  have cp3 := hA3.cp
  have cb_n03 := (bx_n0.kp hK3).cell
  have cb_n13 := (bx_n1.kp hK3).cell
  have cb_n23 := (bx_n2.kp hK3).cell
  go_wp2_with (go_at_call 63; refine (pask base b _ (((S).put (240)).whole (1)) _ _ _ hA3 (by first | omega | (simp only [St.ops_ask, St.ops_put, St.ops_whole, St.ops_halves, St.ops_low, St.ops_keep, List.length_append, List.length_cons, List.length_nil]; omega))).mono ?_; clear hA3; rintro e4 w4 ⟨rfl, hA4, hN4⟩; have hK4 := hK3.trans hN4; clear hN4 hK3; have cp4 := hA4.cp; have cb_n04 := (bx_n0.kp hK4).cell; have cb_n14 := (bx_n1.kp hK4).cell; have cb_n24 := (bx_n2.kp hK4).cell)
  go_end0
  exact ⟨rfl, hA4, hK4⟩
set_option maxRecDepth 100000 in
set_option maxHeartbeats 400000 in
theorem col8f_a (base b : Nat) (w : World) (S : St) (n1 n2 n3 : Nat) (arg : Int) (g0 : 0 ≤ arg) (g1 : arg ≤ 99) (bx_n1 : Box 50 w b n1 (.pointer (some ⟨b, 0, none⟩))) (bx_n2 : Box 50 w b n2 (.int .i64 arg)) (bx_n3 : Box 50 w b n3 (.bool true)) (t0 : arg ≤ 15) (hl : S.ops.length ≤ 800) (hA : PAt base w b S) :
    Calls Tryz.prog 71 #[.pointer (some ⟨n1, 0, none⟩), .pointer (some ⟨n2, 0, none⟩), .pointer (some ⟨n3, 0, none⟩)] w fun e w' => e = .returned (.tuple #[]) ∧ PAt base w' b ((((S).put (arg)).halves (2)).ask (9) ((((S).put (arg)).halves (2)).h) ((((S).put (arg)).halves (2)).l)) ∧ Kp 50 base b w w' := by
  have ch := hA.ch
  simp only [Nat.reduceAdd] at ch
  have cl := hA.cl
  simp only [Nat.reduceAdd] at cl
  have cb_n1 := bx_n1.cell
  have cb_n2 := bx_n2.cell
  have cb_n3 := bx_n3.cell
  have hK0 := Kp.refl 50 base b w
  go_enter Tryz.func71, Tryz.ntmps71
  go_wp2_with (first | (go_at_call 53; refine (pput base b _ (S) _ hA).mono ?_; clear hA; rintro e1 w1 ⟨rfl, hA1, hN1⟩; have hK1 := hK0.trans hN1; clear hN1 hK0; have ch1 := hA1.ch; simp only [Nat.reduceAdd] at ch1; have cl1 := hA1.cl; simp only [Nat.reduceAdd] at cl1; have cb_n11 := (bx_n1.kp hK1).cell; have cb_n21 := (bx_n2.kp hK1).cell; have cb_n31 := (bx_n3.kp hK1).cell) | (go_at_call 72; refine (phalves base b _ ((S).put (arg)) _ (by decide) (by decide) hA1).mono ?_; clear hA1; rintro e2 w2 ⟨rfl, hA2, hN2⟩; have hK2 := hK1.trans hN2; clear hN2 hK1; have ch2 := hA2.ch; simp only [Nat.reduceAdd] at ch2; have cl2 := hA2.cl; simp only [Nat.reduceAdd] at cl2; have cb_n12 := (bx_n1.kp hK2).cell; have cb_n22 := (bx_n2.kp hK2).cell; have cb_n32 := (bx_n3.kp hK2).cell))
  go_still_tail 9, (by kernel_rfl)
  change wpList _ _ _ _ _ w2.drew
  have hA3 := hA2.drew
  have hK3 := hK2.drew
  clear hA2 hK2
  generalize w2.drew = w3 at hA3 hK3 ⊢
  have ch3 := hA3.ch
  simp only [Nat.reduceAdd] at ch3
  have cl3 := hA3.cl
  simp only [Nat.reduceAdd] at cl3
  have cb_n13 := (bx_n1.kp hK3).cell
  have cb_n23 := (bx_n2.kp hK3).cell
  have cb_n33 := (bx_n3.kp hK3).cell
  go_wp2_with (go_at_call 63; refine (pask base b _ (((S).put (arg)).halves (2)) _ _ _ hA3 (by first | omega | (simp only [St.ops_ask, St.ops_put, St.ops_whole, St.ops_halves, St.ops_low, St.ops_keep, List.length_append, List.length_cons, List.length_nil]; omega))).mono ?_; clear hA3; rintro e4 w4 ⟨rfl, hA4, hN4⟩; have hK4 := hK3.trans hN4; clear hN4 hK3; have ch4 := hA4.ch; simp only [Nat.reduceAdd] at ch4; have cl4 := hA4.cl; simp only [Nat.reduceAdd] at cl4; have cb_n14 := (bx_n1.kp hK4).cell; have cb_n24 := (bx_n2.kp hK4).cell; have cb_n34 := (bx_n3.kp hK4).cell)
  go_end0
  exact ⟨rfl, hA4, hK4⟩
set_option maxRecDepth 100000 in
set_option maxHeartbeats 400000 in
theorem col8f_b (base b : Nat) (w : World) (S : St) (n1 n2 n3 : Nat) (arg : Int) (g0 : 0 ≤ arg) (g1 : arg ≤ 99) (bx_n1 : Box 50 w b n1 (.pointer (some ⟨b, 0, none⟩))) (bx_n2 : Box 50 w b n2 (.int .i64 arg)) (bx_n3 : Box 50 w b n3 (.bool true)) (t0 : 15 < arg) (hl : S.ops.length ≤ 800) (hA : PAt base w b S) :
    Calls Tryz.prog 71 #[.pointer (some ⟨n1, 0, none⟩), .pointer (some ⟨n2, 0, none⟩), .pointer (some ⟨n3, 0, none⟩)] w fun e w' => e = .returned (.tuple #[]) ∧ PAt base w' b ((((S).put (15)).halves (2)).ask (9) ((((S).put (15)).halves (2)).h) ((((S).put (15)).halves (2)).l)) ∧ Kp 50 base b w w' := by
  have ch := hA.ch
  simp only [Nat.reduceAdd] at ch
  have cl := hA.cl
  simp only [Nat.reduceAdd] at cl
  have cb_n1 := bx_n1.cell
  have cb_n2 := bx_n2.cell
  have cb_n3 := bx_n3.cell
  have hK0 := Kp.refl 50 base b w
  go_enter Tryz.func71, Tryz.ntmps71
  go_wp2_with (first | (go_at_call 53; refine (pput base b _ (S) _ hA).mono ?_; clear hA; rintro e1 w1 ⟨rfl, hA1, hN1⟩; have hK1 := hK0.trans hN1; clear hN1 hK0; have ch1 := hA1.ch; simp only [Nat.reduceAdd] at ch1; have cl1 := hA1.cl; simp only [Nat.reduceAdd] at cl1; have cb_n11 := (bx_n1.kp hK1).cell; have cb_n21 := (bx_n2.kp hK1).cell; have cb_n31 := (bx_n3.kp hK1).cell) | (go_at_call 72; refine (phalves base b _ ((S).put (15)) _ (by decide) (by decide) hA1).mono ?_; clear hA1; rintro e2 w2 ⟨rfl, hA2, hN2⟩; have hK2 := hK1.trans hN2; clear hN2 hK1; have ch2 := hA2.ch; simp only [Nat.reduceAdd] at ch2; have cl2 := hA2.cl; simp only [Nat.reduceAdd] at cl2; have cb_n12 := (bx_n1.kp hK2).cell; have cb_n22 := (bx_n2.kp hK2).cell; have cb_n32 := (bx_n3.kp hK2).cell))
  go_still_tail 9, (by kernel_rfl)
  change wpList _ _ _ _ _ w2.drew
  have hA3 := hA2.drew
  have hK3 := hK2.drew
  clear hA2 hK2
  generalize w2.drew = w3 at hA3 hK3 ⊢
  have ch3 := hA3.ch
  simp only [Nat.reduceAdd] at ch3
  have cl3 := hA3.cl
  simp only [Nat.reduceAdd] at cl3
  have cb_n13 := (bx_n1.kp hK3).cell
  have cb_n23 := (bx_n2.kp hK3).cell
  have cb_n33 := (bx_n3.kp hK3).cell
  go_wp2_with (go_at_call 63; refine (pask base b _ (((S).put (15)).halves (2)) _ _ _ hA3 (by first | omega | (simp only [St.ops_ask, St.ops_put, St.ops_whole, St.ops_halves, St.ops_low, St.ops_keep, List.length_append, List.length_cons, List.length_nil]; omega))).mono ?_; clear hA3; rintro e4 w4 ⟨rfl, hA4, hN4⟩; have hK4 := hK3.trans hN4; clear hN4 hK3; have ch4 := hA4.ch; simp only [Nat.reduceAdd] at ch4; have cl4 := hA4.cl; simp only [Nat.reduceAdd] at cl4; have cb_n14 := (bx_n1.kp hK4).cell; have cb_n24 := (bx_n2.kp hK4).cell; have cb_n34 := (bx_n3.kp hK4).cell)
  go_end0
  exact ⟨rfl, hA4, hK4⟩
set_option maxRecDepth 100000 in
set_option maxHeartbeats 400000 in
theorem col8s_a (base b : Nat) (w : World) (S : St) (n1 n2 n3 : Nat) (arg : Int) (g0 : 0 ≤ arg) (g1 : arg ≤ 99) (bx_n1 : Box 50 w b n1 (.pointer (some ⟨b, 0, none⟩))) (bx_n2 : Box 50 w b n2 (.int .i64 arg)) (bx_n3 : Box 50 w b n3 (.bool false)) (t0 : arg ≤ 15) (hl : S.ops.length ≤ 800) (hA : PAt base w b S) :
    Calls Tryz.prog 71 #[.pointer (some ⟨n1, 0, none⟩), .pointer (some ⟨n2, 0, none⟩), .pointer (some ⟨n3, 0, none⟩)] w fun e w' => e = .returned (.tuple #[]) ∧ PAt base w' b ((((S).put (arg)).halves (3)).ask (9) ((((S).put (arg)).halves (3)).h) ((((S).put (arg)).halves (3)).l)) ∧ Kp 50 base b w w' := by
  have ch := hA.ch
  simp only [Nat.reduceAdd] at ch
  have cl := hA.cl
  simp only [Nat.reduceAdd] at cl
  have cb_n1 := bx_n1.cell
  have cb_n2 := bx_n2.cell
  have cb_n3 := bx_n3.cell
  have hK0 := Kp.refl 50 base b w
  go_enter Tryz.func71, Tryz.ntmps71
  go_wp2_with (first | (go_at_call 53; refine (pput base b _ (S) _ hA).mono ?_; clear hA; rintro e1 w1 ⟨rfl, hA1, hN1⟩; have hK1 := hK0.trans hN1; clear hN1 hK0; have ch1 := hA1.ch; simp only [Nat.reduceAdd] at ch1; have cl1 := hA1.cl; simp only [Nat.reduceAdd] at cl1; have cb_n11 := (bx_n1.kp hK1).cell; have cb_n21 := (bx_n2.kp hK1).cell; have cb_n31 := (bx_n3.kp hK1).cell) | (go_at_call 72; refine (phalves base b _ ((S).put (arg)) _ (by decide) (by decide) hA1).mono ?_; clear hA1; rintro e2 w2 ⟨rfl, hA2, hN2⟩; have hK2 := hK1.trans hN2; clear hN2 hK1; have ch2 := hA2.ch; simp only [Nat.reduceAdd] at ch2; have cl2 := hA2.cl; simp only [Nat.reduceAdd] at cl2; have cb_n12 := (bx_n1.kp hK2).cell; have cb_n22 := (bx_n2.kp hK2).cell; have cb_n32 := (bx_n3.kp hK2).cell))
  go_still_tail 9, (by kernel_rfl)
  change wpList _ _ _ _ _ w2.drew
  have hA3 := hA2.drew
  have hK3 := hK2.drew
  clear hA2 hK2
  generalize w2.drew = w3 at hA3 hK3 ⊢
  have ch3 := hA3.ch
  simp only [Nat.reduceAdd] at ch3
  have cl3 := hA3.cl
  simp only [Nat.reduceAdd] at cl3
  have cb_n13 := (bx_n1.kp hK3).cell
  have cb_n23 := (bx_n2.kp hK3).cell
  have cb_n33 := (bx_n3.kp hK3).cell
  go_wp2_with (go_at_call 63; refine (pask base b _ (((S).put (arg)).halves (3)) _ _ _ hA3 (by first | omega | (simp only [St.ops_ask, St.ops_put, St.ops_whole, St.ops_halves, St.ops_low, St.ops_keep, List.length_append, List.length_cons, List.length_nil]; omega))).mono ?_; clear hA3; rintro e4 w4 ⟨rfl, hA4, hN4⟩; have hK4 := hK3.trans hN4; clear hN4 hK3; have ch4 := hA4.ch; simp only [Nat.reduceAdd] at ch4; have cl4 := hA4.cl; simp only [Nat.reduceAdd] at cl4; have cb_n14 := (bx_n1.kp hK4).cell; have cb_n24 := (bx_n2.kp hK4).cell; have cb_n34 := (bx_n3.kp hK4).cell)
  go_end0
  exact ⟨rfl, hA4, hK4⟩
set_option maxRecDepth 100000 in
set_option maxHeartbeats 400000 in
theorem col8s_b (base b : Nat) (w : World) (S : St) (n1 n2 n3 : Nat) (arg : Int) (g0 : 0 ≤ arg) (g1 : arg ≤ 99) (bx_n1 : Box 50 w b n1 (.pointer (some ⟨b, 0, none⟩))) (bx_n2 : Box 50 w b n2 (.int .i64 arg)) (bx_n3 : Box 50 w b n3 (.bool false)) (t0 : 15 < arg) (hl : S.ops.length ≤ 800) (hA : PAt base w b S) :
    Calls Tryz.prog 71 #[.pointer (some ⟨n1, 0, none⟩), .pointer (some ⟨n2, 0, none⟩), .pointer (some ⟨n3, 0, none⟩)] w fun e w' => e = .returned (.tuple #[]) ∧ PAt base w' b ((((S).put (15)).halves (3)).ask (9) ((((S).put (15)).halves (3)).h) ((((S).put (15)).halves (3)).l)) ∧ Kp 50 base b w w' := by
  have ch := hA.ch
  simp only [Nat.reduceAdd] at ch
  have cl := hA.cl
  simp only [Nat.reduceAdd] at cl
  have cb_n1 := bx_n1.cell
  have cb_n2 := bx_n2.cell
  have cb_n3 := bx_n3.cell
  have hK0 := Kp.refl 50 base b w
  go_enter Tryz.func71, Tryz.ntmps71
  go_wp2_with (first | (go_at_call 53; refine (pput base b _ (S) _ hA).mono ?_; clear hA; rintro e1 w1 ⟨rfl, hA1, hN1⟩; have hK1 := hK0.trans hN1; clear hN1 hK0; have ch1 := hA1.ch; simp only [Nat.reduceAdd] at ch1; have cl1 := hA1.cl; simp only [Nat.reduceAdd] at cl1; have cb_n11 := (bx_n1.kp hK1).cell; have cb_n21 := (bx_n2.kp hK1).cell; have cb_n31 := (bx_n3.kp hK1).cell) | (go_at_call 72; refine (phalves base b _ ((S).put (15)) _ (by decide) (by decide) hA1).mono ?_; clear hA1; rintro e2 w2 ⟨rfl, hA2, hN2⟩; have hK2 := hK1.trans hN2; clear hN2 hK1; have ch2 := hA2.ch; simp only [Nat.reduceAdd] at ch2; have cl2 := hA2.cl; simp only [Nat.reduceAdd] at cl2; have cb_n12 := (bx_n1.kp hK2).cell; have cb_n22 := (bx_n2.kp hK2).cell; have cb_n32 := (bx_n3.kp hK2).cell))
  go_still_tail 9, (by kernel_rfl)
  change wpList _ _ _ _ _ w2.drew
  have hA3 := hA2.drew
  have hK3 := hK2.drew
  clear hA2 hK2
  generalize w2.drew = w3 at hA3 hK3 ⊢
  have ch3 := hA3.ch
  simp only [Nat.reduceAdd] at ch3
  have cl3 := hA3.cl
  simp only [Nat.reduceAdd] at cl3
  have cb_n13 := (bx_n1.kp hK3).cell
  have cb_n23 := (bx_n2.kp hK3).cell
  have cb_n33 := (bx_n3.kp hK3).cell
  go_wp2_with (go_at_call 63; refine (pask base b _ (((S).put (15)).halves (3)) _ _ _ hA3 (by first | omega | (simp only [St.ops_ask, St.ops_put, St.ops_whole, St.ops_halves, St.ops_low, St.ops_keep, List.length_append, List.length_cons, List.length_nil]; omega))).mono ?_; clear hA3; rintro e4 w4 ⟨rfl, hA4, hN4⟩; have hK4 := hK3.trans hN4; clear hN4 hK3; have ch4 := hA4.ch; simp only [Nat.reduceAdd] at ch4; have cl4 := hA4.cl; simp only [Nat.reduceAdd] at cl4; have cb_n14 := (bx_n1.kp hK4).cell; have cb_n24 := (bx_n2.kp hK4).cell; have cb_n34 := (bx_n3.kp hK4).cell)
  go_end0
  exact ⟨rfl, hA4, hK4⟩
set_option maxRecDepth 100000 in
set_option maxHeartbeats 400000 in
theorem col7s_0 (base b : Nat) (w : World) (S : St) (n0 n1 n2 : Nat)  (bx_n0 : Box 50 w b n0 (.bool false)) (bx_n1 : Box 50 w b n1 (.pointer (some ⟨b, 0, none⟩))) (bx_n2 : Box 50 w b n2 (.int .i64 0))  (hl : S.ops.length ≤ 800) (hA : PAt base w b S) :
    Calls Tryz.prog 69 #[.pointer (some ⟨n0, 0, none⟩), .pointer (some ⟨n1, 0, none⟩), .pointer (some ⟨n2, 0, none⟩)] w fun e w' => e = .returned (.tuple #[]) ∧ PAt base w' b ((((S).put (0)).whole (2)).ask (8) ((((S).put (0)).whole (2)).p) (0)) ∧ Kp 50 base b w w' := by
  have cp := hA.cp
  have cb_n0 := bx_n0.cell
  have cb_n1 := bx_n1.cell
  have cb_n2 := bx_n2.cell
  have hix : ∀ w : World, (Instr.index 79 (.agg #[.int .i64 0, .int .i64 1, .int .i64 4, .int .i64 8, .int .i64 16, .int .i64 32, .int .i64 64, .int .i64 96, .int .i64 128, .int .i64 255]) (.int .i64 0)).run Tryz.prog w = .ok (.int .i64 0) w := by intro w; rfl
  have hK0 := Kp.refl 50 base b w
  go_enter Tryz.func69, Tryz.ntmps69
  go_wp2_with fail
  go_still_tail 5, (by kernel_rfl)
  change wpList _ _ _ _ _ w.drew
  have hA1 := hA.drew
  have hK1 := hK0.drew
  clear hA hK0
  generalize w.drew = w1 at hA1 hK1 ⊢
  have cp1 := hA1.cp
  have cb_n01 := (bx_n0.kp hK1).cell
  have cb_n11 := (bx_n1.kp hK1).cell
  have cb_n21 := (bx_n2.kp hK1).cell
  go_wp2_with (first | (go_at_call 53; refine (pput base b _ (S) _ hA1).mono ?_; clear hA1; rintro e2 w2 ⟨rfl, hA2, hN2⟩; have hK2 := hK1.trans hN2; clear hN2 hK1; have cp2 := hA2.cp; have cb_n02 := (bx_n0.kp hK2).cell; have cb_n12 := (bx_n1.kp hK2).cell; have cb_n22 := (bx_n2.kp hK2).cell) | (go_at_call 70; refine (pwhole base b _ ((S).put (0)) _ (by decide) (by decide) hA2).mono ?_; clear hA2; rintro e3 w3 ⟨rfl, hA3, hN3⟩; have hK3 := hK2.trans hN3; clear hN3 hK2; have cp3 := hA3.cp; have cb_n03 := (bx_n0.kp hK3).cell; have cb_n13 := (bx_n1.kp hK3).cell; have cb_n23 := (bx_n2.kp hK3).cell))
  go_still_tail 5, (by kernel_rfl)
  change wpList _ _ _ _ _ w3.drew
  have hA4 := hA3.drew
  have hK4 := hK3.drew
  clear hA3 hK3
  generalize w3.drew = w4 at hA4 hK4 ⊢
  have cp4 := hA4.cp
  have cb_n04 := (bx_n0.kp hK4).cell
  have cb_n14 := (bx_n1.kp hK4).cell
  have cb_n24 := (bx_n2.kp hK4).cell
  go_wp2_with (go_at_call 63; refine (pask base b _ (((S).put (0)).whole (2)) _ _ _ hA4 (by first | omega | (simp only [St.ops_ask, St.ops_put, St.ops_whole, St.ops_halves, St.ops_low, St.ops_keep, List.length_append, List.length_cons, List.length_nil]; omega))).mono ?_; clear hA4; rintro e5 w5 ⟨rfl, hA5, hN5⟩; have hK5 := hK4.trans hN5; clear hN5 hK4; have cp5 := hA5.cp; have cb_n05 := (bx_n0.kp hK5).cell; have cb_n15 := (bx_n1.kp hK5).cell; have cb_n25 := (bx_n2.kp hK5).cell)
  go_end0
  exact ⟨rfl, hA5, hK5⟩
set_option maxRecDepth 100000 in
set_option maxHeartbeats 400000 in
theorem col7s_1 (base b : Nat) (w : World) (S : St) (n0 n1 n2 : Nat)  (bx_n0 : Box 50 w b n0 (.bool false)) (bx_n1 : Box 50 w b n1 (.pointer (some ⟨b, 0, none⟩))) (bx_n2 : Box 50 w b n2 (.int .i64 1))  (hl : S.ops.length ≤ 800) (hA : PAt base w b S) :
    Calls Tryz.prog 69 #[.pointer (some ⟨n0, 0, none⟩), .pointer (some ⟨n1, 0, none⟩), .pointer (some ⟨n2, 0, none⟩)] w fun e w' => e = .returned (.tuple #[]) ∧ PAt base w' b ((((S).put (1)).whole (2)).ask (8) ((((S).put (1)).whole (2)).p) (0)) ∧ Kp 50 base b w w' := by
  have cp := hA.cp
  have cb_n0 := bx_n0.cell
  have cb_n1 := bx_n1.cell
  have cb_n2 := bx_n2.cell
  have hix : ∀ w : World, (Instr.index 79 (.agg #[.int .i64 0, .int .i64 1, .int .i64 4, .int .i64 8, .int .i64 16, .int .i64 32, .int .i64 64, .int .i64 96, .int .i64 128, .int .i64 255]) (.int .i64 1)).run Tryz.prog w = .ok (.int .i64 1) w := by intro w; rfl
  have hK0 := Kp.refl 50 base b w
  go_enter Tryz.func69, Tryz.ntmps69
  go_wp2_with fail
  go_still_tail 5, (by kernel_rfl)
  change wpList _ _ _ _ _ w.drew
  have hA1 := hA.drew
  have hK1 := hK0.drew
  clear hA hK0
  generalize w.drew = w1 at hA1 hK1 ⊢
  have cp1 := hA1.cp
  have cb_n01 := (bx_n0.kp hK1).cell
  have cb_n11 := (bx_n1.kp hK1).cell
  have cb_n21 := (bx_n2.kp hK1).cell
  go_wp2_with (first | (go_at_call 53; refine (pput base b _ (S) _ hA1).mono ?_; clear hA1; rintro e2 w2 ⟨rfl, hA2, hN2⟩; have hK2 := hK1.trans hN2; clear hN2 hK1; have cp2 := hA2.cp; have cb_n02 := (bx_n0.kp hK2).cell; have cb_n12 := (bx_n1.kp hK2).cell; have cb_n22 := (bx_n2.kp hK2).cell) | (go_at_call 70; refine (pwhole base b _ ((S).put (1)) _ (by decide) (by decide) hA2).mono ?_; clear hA2; rintro e3 w3 ⟨rfl, hA3, hN3⟩; have hK3 := hK2.trans hN3; clear hN3 hK2; have cp3 := hA3.cp; have cb_n03 := (bx_n0.kp hK3).cell; have cb_n13 := (bx_n1.kp hK3).cell; have cb_n23 := (bx_n2.kp hK3).cell))
  go_still_tail 5, (by kernel_rfl)
  change wpList _ _ _ _ _ w3.drew
  have hA4 := hA3.drew
  have hK4 := hK3.drew
  clear hA3 hK3
  generalize w3.drew = w4 at hA4 hK4 ⊢
  have cp4 := hA4.cp
  have cb_n04 := (bx_n0.kp hK4).cell
  have cb_n14 := (bx_n1.kp hK4).cell
  have cb_n24 := (bx_n2.kp hK4).cell
  go_wp2_with (go_at_call 63; refine (pask base b _ (((S).put (1)).whole (2)) _ _ _ hA4 (by first | omega | (simp only [St.ops_ask, St.ops_put, St.ops_whole, St.ops_halves, St.ops_low, St.ops_keep, List.length_append, List.length_cons, List.length_nil]; omega))).mono ?_; clear hA4; rintro e5 w5 ⟨rfl, hA5, hN5⟩; have hK5 := hK4.trans hN5; clear hN5 hK4; have cp5 := hA5.cp; have cb_n05 := (bx_n0.kp hK5).cell; have cb_n15 := (bx_n1.kp hK5).cell; have cb_n25 := (bx_n2.kp hK5).cell)
  go_end0
  exact ⟨rfl, hA5, hK5⟩
set_option maxRecDepth 100000 in
set_option maxHeartbeats 400000 in
theorem col7s_2 (base b : Nat) (w : World) (S : St) (n0 n1 n2 : Nat)  (bx_n0 : Box 50 w b n0 (.bool false)) (bx_n1 : Box 50 w b n1 (.pointer (some ⟨b, 0, none⟩))) (bx_n2 : Box 50 w b n2 (.int .i64 2))  (hl : S.ops.length ≤ 800) (hA : PAt base w b S) :
    Calls Tryz.prog 69 #[.pointer (some ⟨n0, 0, none⟩), .pointer (some ⟨n1, 0, none⟩), .pointer (some ⟨n2, 0, none⟩)] w fun e w' => e = .returned (.tuple #[]) ∧ PAt base w' b ((((S).put (4)).whole (2)).ask (8) ((((S).put (4)).whole (2)).p) (0)) ∧ Kp 50 base b w w' := by
  have cp := hA.cp
  have cb_n0 := bx_n0.cell
  have cb_n1 := bx_n1.cell
  have cb_n2 := bx_n2.cell
  have hix : ∀ w : World, (Instr.index 79 (.agg #[.int .i64 0, .int .i64 1, .int .i64 4, .int .i64 8, .int .i64 16, .int .i64 32, .int .i64 64, .int .i64 96, .int .i64 128, .int .i64 255]) (.int .i64 2)).run Tryz.prog w = .ok (.int .i64 4) w := by intro w; rfl
  have hK0 := Kp.refl 50 base b w
  go_enter Tryz.func69, Tryz.ntmps69
  go_wp2_with fail
  go_still_tail 5, (by kernel_rfl)
  change wpList _ _ _ _ _ w.drew
  have hA1 := hA.drew
  have hK1 := hK0.drew
  clear hA hK0
  generalize w.drew = w1 at hA1 hK1 ⊢
  have cp1 := hA1.cp
  have cb_n01 := (bx_n0.kp hK1).cell
  have cb_n11 := (bx_n1.kp hK1).cell
  have cb_n21 := (bx_n2.kp hK1).cell
  go_wp2_with (first | (go_at_call 53; refine (pput base b _ (S) _ hA1).mono ?_; clear hA1; rintro e2 w2 ⟨rfl, hA2, hN2⟩; have hK2 := hK1.trans hN2; clear hN2 hK1; have cp2 := hA2.cp; have cb_n02 := (bx_n0.kp hK2).cell; have cb_n12 := (bx_n1.kp hK2).cell; have cb_n22 := (bx_n2.kp hK2).cell) | (go_at_call 70; refine (pwhole base b _ ((S).put (4)) _ (by decide) (by decide) hA2).mono ?_; clear hA2; rintro e3 w3 ⟨rfl, hA3, hN3⟩; have hK3 := hK2.trans hN3; clear hN3 hK2; have cp3 := hA3.cp; have cb_n03 := (bx_n0.kp hK3).cell; have cb_n13 := (bx_n1.kp hK3).cell; have cb_n23 := (bx_n2.kp hK3).cell))
  go_still_tail 5, (by kernel_rfl)
  change wpList _ _ _ _ _ w3.drew
  have hA4 := hA3.drew
  have hK4 := hK3.drew
  clear hA3 hK3
  generalize w3.drew = w4 at hA4 hK4 ⊢
  have cp4 := hA4.cp
  have cb_n04 := (bx_n0.kp hK4).cell
  have cb_n14 := (bx_n1.kp hK4).cell
  have cb_n24 := (bx_n2.kp hK4).cell
  go_wp2_with (go_at_call 63; refine (pask base b _ (((S).put (4)).whole (2)) _ _ _ hA4 (by first | omega | (simp only [St.ops_ask, St.ops_put, St.ops_whole, St.ops_halves, St.ops_low, St.ops_keep, List.length_append, List.length_cons, List.length_nil]; omega))).mono ?_; clear hA4; rintro e5 w5 ⟨rfl, hA5, hN5⟩; have hK5 := hK4.trans hN5; clear hN5 hK4; have cp5 := hA5.cp; have cb_n05 := (bx_n0.kp hK5).cell; have cb_n15 := (bx_n1.kp hK5).cell; have cb_n25 := (bx_n2.kp hK5).cell)
  go_end0
  exact ⟨rfl, hA5, hK5⟩
set_option maxRecDepth 100000 in
set_option maxHeartbeats 400000 in
theorem col7s_3 (base b : Nat) (w : World) (S : St) (n0 n1 n2 : Nat)  (bx_n0 : Box 50 w b n0 (.bool false)) (bx_n1 : Box 50 w b n1 (.pointer (some ⟨b, 0, none⟩))) (bx_n2 : Box 50 w b n2 (.int .i64 3))  (hl : S.ops.length ≤ 800) (hA : PAt base w b S) :
    Calls Tryz.prog 69 #[.pointer (some ⟨n0, 0, none⟩), .pointer (some ⟨n1, 0, none⟩), .pointer (some ⟨n2, 0, none⟩)] w fun e w' => e = .returned (.tuple #[]) ∧ PAt base w' b ((((S).put (8)).whole (2)).ask (8) ((((S).put (8)).whole (2)).p) (0)) ∧ Kp 50 base b w w' := by
  have cp := hA.cp
  have cb_n0 := bx_n0.cell
  have cb_n1 := bx_n1.cell
  have cb_n2 := bx_n2.cell
  have hix : ∀ w : World, (Instr.index 79 (.agg #[.int .i64 0, .int .i64 1, .int .i64 4, .int .i64 8, .int .i64 16, .int .i64 32, .int .i64 64, .int .i64 96, .int .i64 128, .int .i64 255]) (.int .i64 3)).run Tryz.prog w = .ok (.int .i64 8) w := by intro w; rfl
  have hK0 := Kp.refl 50 base b w
  go_enter Tryz.func69, Tryz.ntmps69
  go_wp2_with fail
  go_still_tail 5, (by kernel_rfl)
  change wpList _ _ _ _ _ w.drew
  have hA1 := hA.drew
  have hK1 := hK0.drew
  clear hA hK0
  generalize w.drew = w1 at hA1 hK1 ⊢
  have cp1 := hA1.cp
  have cb_n01 := (bx_n0.kp hK1).cell
  have cb_n11 := (bx_n1.kp hK1).cell
  have cb_n21 := (bx_n2.kp hK1).cell
  go_wp2_with (first | (go_at_call 53; refine (pput base b _ (S) _ hA1).mono ?_; clear hA1; rintro e2 w2 ⟨rfl, hA2, hN2⟩; have hK2 := hK1.trans hN2; clear hN2 hK1; have cp2 := hA2.cp; have cb_n02 := (bx_n0.kp hK2).cell; have cb_n12 := (bx_n1.kp hK2).cell; have cb_n22 := (bx_n2.kp hK2).cell) | (go_at_call 70; refine (pwhole base b _ ((S).put (8)) _ (by decide) (by decide) hA2).mono ?_; clear hA2; rintro e3 w3 ⟨rfl, hA3, hN3⟩; have hK3 := hK2.trans hN3; clear hN3 hK2; have cp3 := hA3.cp; have cb_n03 := (bx_n0.kp hK3).cell; have cb_n13 := (bx_n1.kp hK3).cell; have cb_n23 := (bx_n2.kp hK3).cell))
  go_still_tail 5, (by kernel_rfl)
  change wpList _ _ _ _ _ w3.drew
  have hA4 := hA3.drew
  have hK4 := hK3.drew
  clear hA3 hK3
  generalize w3.drew = w4 at hA4 hK4 ⊢
  have cp4 := hA4.cp
  have cb_n04 := (bx_n0.kp hK4).cell
  have cb_n14 := (bx_n1.kp hK4).cell
  have cb_n24 := (bx_n2.kp hK4).cell
  go_wp2_with (go_at_call 63; refine (pask base b _ (((S).put (8)).whole (2)) _ _ _ hA4 (by first | omega | (simp only [St.ops_ask, St.ops_put, St.ops_whole, St.ops_halves, St.ops_low, St.ops_keep, List.length_append, List.length_cons, List.length_nil]; omega))).mono ?_; clear hA4; rintro e5 w5 ⟨rfl, hA5, hN5⟩; have hK5 := hK4.trans hN5; clear hN5 hK4; have cp5 := hA5.cp; have cb_n05 := (bx_n0.kp hK5).cell; have cb_n15 := (bx_n1.kp hK5).cell; have cb_n25 := (bx_n2.kp hK5).cell)
  go_end0
  exact ⟨rfl, hA5, hK5⟩
set_option maxRecDepth 100000 in
set_option maxHeartbeats 400000 in
theorem col7s_4 (base b : Nat) (w : World) (S : St) (n0 n1 n2 : Nat)  (bx_n0 : Box 50 w b n0 (.bool false)) (bx_n1 : Box 50 w b n1 (.pointer (some ⟨b, 0, none⟩))) (bx_n2 : Box 50 w b n2 (.int .i64 4))  (hl : S.ops.length ≤ 800) (hA : PAt base w b S) :
    Calls Tryz.prog 69 #[.pointer (some ⟨n0, 0, none⟩), .pointer (some ⟨n1, 0, none⟩), .pointer (some ⟨n2, 0, none⟩)] w fun e w' => e = .returned (.tuple #[]) ∧ PAt base w' b ((((S).put (16)).whole (2)).ask (8) ((((S).put (16)).whole (2)).p) (0)) ∧ Kp 50 base b w w' := by
  have cp := hA.cp
  have cb_n0 := bx_n0.cell
  have cb_n1 := bx_n1.cell
  have cb_n2 := bx_n2.cell
  have hix : ∀ w : World, (Instr.index 79 (.agg #[.int .i64 0, .int .i64 1, .int .i64 4, .int .i64 8, .int .i64 16, .int .i64 32, .int .i64 64, .int .i64 96, .int .i64 128, .int .i64 255]) (.int .i64 4)).run Tryz.prog w = .ok (.int .i64 16) w := by intro w; rfl
  have hK0 := Kp.refl 50 base b w
  go_enter Tryz.func69, Tryz.ntmps69
  go_wp2_with fail
  go_still_tail 5, (by kernel_rfl)
  change wpList _ _ _ _ _ w.drew
  have hA1 := hA.drew
  have hK1 := hK0.drew
  clear hA hK0
  generalize w.drew = w1 at hA1 hK1 ⊢
  have cp1 := hA1.cp
  have cb_n01 := (bx_n0.kp hK1).cell
  have cb_n11 := (bx_n1.kp hK1).cell
  have cb_n21 := (bx_n2.kp hK1).cell
  go_wp2_with (first | (go_at_call 53; refine (pput base b _ (S) _ hA1).mono ?_; clear hA1; rintro e2 w2 ⟨rfl, hA2, hN2⟩; have hK2 := hK1.trans hN2; clear hN2 hK1; have cp2 := hA2.cp; have cb_n02 := (bx_n0.kp hK2).cell; have cb_n12 := (bx_n1.kp hK2).cell; have cb_n22 := (bx_n2.kp hK2).cell) | (go_at_call 70; refine (pwhole base b _ ((S).put (16)) _ (by decide) (by decide) hA2).mono ?_; clear hA2; rintro e3 w3 ⟨rfl, hA3, hN3⟩; have hK3 := hK2.trans hN3; clear hN3 hK2; have cp3 := hA3.cp; have cb_n03 := (bx_n0.kp hK3).cell; have cb_n13 := (bx_n1.kp hK3).cell; have cb_n23 := (bx_n2.kp hK3).cell))
  go_still_tail 5, (by kernel_rfl)
  change wpList _ _ _ _ _ w3.drew
  have hA4 := hA3.drew
  have hK4 := hK3.drew
  clear hA3 hK3
  generalize w3.drew = w4 at hA4 hK4 ⊢
  have cp4 := hA4.cp
  have cb_n04 := (bx_n0.kp hK4).cell
  have cb_n14 := (bx_n1.kp hK4).cell
  have cb_n24 := (bx_n2.kp hK4).cell
  go_wp2_with (go_at_call 63; refine (pask base b _ (((S).put (16)).whole (2)) _ _ _ hA4 (by first | omega | (simp only [St.ops_ask, St.ops_put, St.ops_whole, St.ops_halves, St.ops_low, St.ops_keep, List.length_append, List.length_cons, List.length_nil]; omega))).mono ?_; clear hA4; rintro e5 w5 ⟨rfl, hA5, hN5⟩; have hK5 := hK4.trans hN5; clear hN5 hK4; have cp5 := hA5.cp; have cb_n05 := (bx_n0.kp hK5).cell; have cb_n15 := (bx_n1.kp hK5).cell; have cb_n25 := (bx_n2.kp hK5).cell)
  go_end0
  exact ⟨rfl, hA5, hK5⟩
set_option maxRecDepth 100000 in
set_option maxHeartbeats 400000 in
theorem col7s_5 (base b : Nat) (w : World) (S : St) (n0 n1 n2 : Nat)  (bx_n0 : Box 50 w b n0 (.bool false)) (bx_n1 : Box 50 w b n1 (.pointer (some ⟨b, 0, none⟩))) (bx_n2 : Box 50 w b n2 (.int .i64 5))  (hl : S.ops.length ≤ 800) (hA : PAt base w b S) :
    Calls Tryz.prog 69 #[.pointer (some ⟨n0, 0, none⟩), .pointer (some ⟨n1, 0, none⟩), .pointer (some ⟨n2, 0, none⟩)] w fun e w' => e = .returned (.tuple #[]) ∧ PAt base w' b ((((S).put (32)).whole (2)).ask (8) ((((S).put (32)).whole (2)).p) (0)) ∧ Kp 50 base b w w' := by
  have cp := hA.cp
  have cb_n0 := bx_n0.cell
  have cb_n1 := bx_n1.cell
  have cb_n2 := bx_n2.cell
  have hix : ∀ w : World, (Instr.index 79 (.agg #[.int .i64 0, .int .i64 1, .int .i64 4, .int .i64 8, .int .i64 16, .int .i64 32, .int .i64 64, .int .i64 96, .int .i64 128, .int .i64 255]) (.int .i64 5)).run Tryz.prog w = .ok (.int .i64 32) w := by intro w; rfl
  have hK0 := Kp.refl 50 base b w
  go_enter Tryz.func69, Tryz.ntmps69
  go_wp2_with fail
  go_still_tail 5, (by kernel_rfl)
  change wpList _ _ _ _ _ w.drew
  have hA1 := hA.drew
  have hK1 := hK0.drew
  clear hA hK0
  generalize w.drew = w1 at hA1 hK1 ⊢
  have cp1 := hA1.cp
  have cb_n01 := (bx_n0.kp hK1).cell
  have cb_n11 := (bx_n1.kp hK1).cell
  have cb_n21 := (bx_n2.kp hK1).cell
  go_wp2_with (first | (go_at_call 53; refine (pput base b _ (S) _ hA1).mono ?_; clear hA1; rintro e2 w2 ⟨rfl, hA2, hN2⟩; have hK2 := hK1.trans hN2; clear hN2 hK1; have cp2 := hA2.cp; have cb_n02 := (bx_n0.kp hK2).cell; have cb_n12 := (bx_n1.kp hK2).cell; have cb_n22 := (bx_n2.kp hK2).cell) | (go_at_call 70; refine (pwhole base b _ ((S).put (32)) _ (by decide) (by decide) hA2).mono ?_; clear hA2; rintro e3 w3 ⟨rfl, hA3, hN3⟩; have hK3 := hK2.trans hN3; clear hN3 hK2; have cp3 := hA3.cp; have cb_n03 := (bx_n0.kp hK3).cell; have cb_n13 := (bx_n1.kp hK3).cell; have cb_n23 := (bx_n2.kp hK3).cell))
  go_still_tail 5, (by kernel_rfl)
  change wpList _ _ _ _ _ w3.drew
  have hA4 := hA3.drew
  have hK4 := hK3.drew
  clear hA3 hK3
  generalize w3.drew = w4 at hA4 hK4 ⊢
  have cp4 := hA4.cp
  have cb_n04 := (bx_n0.kp hK4).cell
  have cb_n14 := (bx_n1.kp hK4).cell
  have cb_n24 := (bx_n2.kp hK4).cell
  go_wp2_with (go_at_call 63; refine (pask base b _ (((S).put (32)).whole (2)) _ _ _ hA4 (by first | omega | (simp only [St.ops_ask, St.ops_put, St.ops_whole, St.ops_halves, St.ops_low, St.ops_keep, List.length_append, List.length_cons, List.length_nil]; omega))).mono ?_; clear hA4; rintro e5 w5 ⟨rfl, hA5, hN5⟩; have hK5 := hK4.trans hN5; clear hN5 hK4; have cp5 := hA5.cp; have cb_n05 := (bx_n0.kp hK5).cell; have cb_n15 := (bx_n1.kp hK5).cell; have cb_n25 := (bx_n2.kp hK5).cell)
  go_end0
  exact ⟨rfl, hA5, hK5⟩
set_option maxRecDepth 100000 in
set_option maxHeartbeats 400000 in
theorem col7s_6 (base b : Nat) (w : World) (S : St) (n0 n1 n2 : Nat)  (bx_n0 : Box 50 w b n0 (.bool false)) (bx_n1 : Box 50 w b n1 (.pointer (some ⟨b, 0, none⟩))) (bx_n2 : Box 50 w b n2 (.int .i64 6))  (hl : S.ops.length ≤ 800) (hA : PAt base w b S) :
    Calls Tryz.prog 69 #[.pointer (some ⟨n0, 0, none⟩), .pointer (some ⟨n1, 0, none⟩), .pointer (some ⟨n2, 0, none⟩)] w fun e w' => e = .returned (.tuple #[]) ∧ PAt base w' b ((((S).put (64)).whole (2)).ask (8) ((((S).put (64)).whole (2)).p) (0)) ∧ Kp 50 base b w w' := by
  have cp := hA.cp
  have cb_n0 := bx_n0.cell
  have cb_n1 := bx_n1.cell
  have cb_n2 := bx_n2.cell
  have hix : ∀ w : World, (Instr.index 79 (.agg #[.int .i64 0, .int .i64 1, .int .i64 4, .int .i64 8, .int .i64 16, .int .i64 32, .int .i64 64, .int .i64 96, .int .i64 128, .int .i64 255]) (.int .i64 6)).run Tryz.prog w = .ok (.int .i64 64) w := by intro w; rfl
  have hK0 := Kp.refl 50 base b w
  go_enter Tryz.func69, Tryz.ntmps69
  go_wp2_with fail
  go_still_tail 5, (by kernel_rfl)
  change wpList _ _ _ _ _ w.drew
  have hA1 := hA.drew
  have hK1 := hK0.drew
  clear hA hK0
  generalize w.drew = w1 at hA1 hK1 ⊢
  have cp1 := hA1.cp
  have cb_n01 := (bx_n0.kp hK1).cell
  have cb_n11 := (bx_n1.kp hK1).cell
  have cb_n21 := (bx_n2.kp hK1).cell
  go_wp2_with (first | (go_at_call 53; refine (pput base b _ (S) _ hA1).mono ?_; clear hA1; rintro e2 w2 ⟨rfl, hA2, hN2⟩; have hK2 := hK1.trans hN2; clear hN2 hK1; have cp2 := hA2.cp; have cb_n02 := (bx_n0.kp hK2).cell; have cb_n12 := (bx_n1.kp hK2).cell; have cb_n22 := (bx_n2.kp hK2).cell) | (go_at_call 70; refine (pwhole base b _ ((S).put (64)) _ (by decide) (by decide) hA2).mono ?_; clear hA2; rintro e3 w3 ⟨rfl, hA3, hN3⟩; have hK3 := hK2.trans hN3; clear hN3 hK2; have cp3 := hA3.cp; have cb_n03 := (bx_n0.kp hK3).cell; have cb_n13 := (bx_n1.kp hK3).cell; have cb_n23 := (bx_n2.kp hK3).cell))
  go_still_tail 5, (by kernel_rfl)
  change wpList _ _ _ _ _ w3.drew
  have hA4 := hA3.drew
  have hK4 := hK3.drew
  clear hA3 hK3
  generalize w3.drew = w4 at hA4 hK4 ⊢
  have cp4 := hA4.cp
  have cb_n04 := (bx_n0.kp hK4).cell
  have cb_n14 := (bx_n1.kp hK4).cell
  have cb_n24 := (bx_n2.kp hK4).cell
  go_wp2_with (go_at_call 63; refine (pask base b _ (((S).put (64)).whole (2)) _ _ _ hA4 (by first | omega | (simp only [St.ops_ask, St.ops_put, St.ops_whole, St.ops_halves, St.ops_low, St.ops_keep, List.length_append, List.length_cons, List.length_nil]; omega))).mono ?_; clear hA4; rintro e5 w5 ⟨rfl, hA5, hN5⟩; have hK5 := hK4.trans hN5; clear hN5 hK4; have cp5 := hA5.cp; have cb_n05 := (bx_n0.kp hK5).cell; have cb_n15 := (bx_n1.kp hK5).cell; have cb_n25 := (bx_n2.kp hK5).cell)
  go_end0
  exact ⟨rfl, hA5, hK5⟩
set_option maxRecDepth 100000 in
set_option maxHeartbeats 400000 in
theorem col7s_7 (base b : Nat) (w : World) (S : St) (n0 n1 n2 : Nat)  (bx_n0 : Box 50 w b n0 (.bool false)) (bx_n1 : Box 50 w b n1 (.pointer (some ⟨b, 0, none⟩))) (bx_n2 : Box 50 w b n2 (.int .i64 7))  (hl : S.ops.length ≤ 800) (hA : PAt base w b S) :
    Calls Tryz.prog 69 #[.pointer (some ⟨n0, 0, none⟩), .pointer (some ⟨n1, 0, none⟩), .pointer (some ⟨n2, 0, none⟩)] w fun e w' => e = .returned (.tuple #[]) ∧ PAt base w' b ((((S).put (96)).whole (2)).ask (8) ((((S).put (96)).whole (2)).p) (0)) ∧ Kp 50 base b w w' := by
  have cp := hA.cp
  have cb_n0 := bx_n0.cell
  have cb_n1 := bx_n1.cell
  have cb_n2 := bx_n2.cell
  have hix : ∀ w : World, (Instr.index 79 (.agg #[.int .i64 0, .int .i64 1, .int .i64 4, .int .i64 8, .int .i64 16, .int .i64 32, .int .i64 64, .int .i64 96, .int .i64 128, .int .i64 255]) (.int .i64 7)).run Tryz.prog w = .ok (.int .i64 96) w := by intro w; rfl
  have hK0 := Kp.refl 50 base b w
  go_enter Tryz.func69, Tryz.ntmps69
  go_wp2_with fail
  go_still_tail 5, (by kernel_rfl)
  change wpList _ _ _ _ _ w.drew
  have hA1 := hA.drew
  have hK1 := hK0.drew
  clear hA hK0
  generalize w.drew = w1 at hA1 hK1 ⊢
  have cp1 := hA1.cp
  have cb_n01 := (bx_n0.kp hK1).cell
  have cb_n11 := (bx_n1.kp hK1).cell
  have cb_n21 := (bx_n2.kp hK1).cell
  go_wp2_with (first | (go_at_call 53; refine (pput base b _ (S) _ hA1).mono ?_; clear hA1; rintro e2 w2 ⟨rfl, hA2, hN2⟩; have hK2 := hK1.trans hN2; clear hN2 hK1; have cp2 := hA2.cp; have cb_n02 := (bx_n0.kp hK2).cell; have cb_n12 := (bx_n1.kp hK2).cell; have cb_n22 := (bx_n2.kp hK2).cell) | (go_at_call 70; refine (pwhole base b _ ((S).put (96)) _ (by decide) (by decide) hA2).mono ?_; clear hA2; rintro e3 w3 ⟨rfl, hA3, hN3⟩; have hK3 := hK2.trans hN3; clear hN3 hK2; have cp3 := hA3.cp; have cb_n03 := (bx_n0.kp hK3).cell; have cb_n13 := (bx_n1.kp hK3).cell; have cb_n23 := (bx_n2.kp hK3).cell))
  go_still_tail 5, (by kernel_rfl)
  change wpList _ _ _ _ _ w3.drew
  have hA4 := hA3.drew
  have hK4 := hK3.drew
  clear hA3 hK3
  generalize w3.drew = w4 at hA4 hK4 ⊢
  have cp4 := hA4.cp
  have cb_n04 := (bx_n0.kp hK4).cell
  have cb_n14 := (bx_n1.kp hK4).cell
  have cb_n24 := (bx_n2.kp hK4).cell
  go_wp2_with (go_at_call 63; refine (pask base b _ (((S).put (96)).whole (2)) _ _ _ hA4 (by first | omega | (simp only [St.ops_ask, St.ops_put, St.ops_whole, St.ops_halves, St.ops_low, St.ops_keep, List.length_append, List.length_cons, List.length_nil]; omega))).mono ?_; clear hA4; rintro e5 w5 ⟨rfl, hA5, hN5⟩; have hK5 := hK4.trans hN5; clear hN5 hK4; have cp5 := hA5.cp; have cb_n05 := (bx_n0.kp hK5).cell; have cb_n15 := (bx_n1.kp hK5).cell; have cb_n25 := (bx_n2.kp hK5).cell)
  go_end0
  exact ⟨rfl, hA5, hK5⟩
set_option maxRecDepth 100000 in
set_option maxHeartbeats 400000 in
theorem col7s_8 (base b : Nat) (w : World) (S : St) (n0 n1 n2 : Nat)  (bx_n0 : Box 50 w b n0 (.bool false)) (bx_n1 : Box 50 w b n1 (.pointer (some ⟨b, 0, none⟩))) (bx_n2 : Box 50 w b n2 (.int .i64 8))  (hl : S.ops.length ≤ 800) (hA : PAt base w b S) :
    Calls Tryz.prog 69 #[.pointer (some ⟨n0, 0, none⟩), .pointer (some ⟨n1, 0, none⟩), .pointer (some ⟨n2, 0, none⟩)] w fun e w' => e = .returned (.tuple #[]) ∧ PAt base w' b ((((S).put (128)).whole (2)).ask (8) ((((S).put (128)).whole (2)).p) (0)) ∧ Kp 50 base b w w' := by
  have cp := hA.cp
  have cb_n0 := bx_n0.cell
  have cb_n1 := bx_n1.cell
  have cb_n2 := bx_n2.cell
  have hix : ∀ w : World, (Instr.index 79 (.agg #[.int .i64 0, .int .i64 1, .int .i64 4, .int .i64 8, .int .i64 16, .int .i64 32, .int .i64 64, .int .i64 96, .int .i64 128, .int .i64 255]) (.int .i64 8)).run Tryz.prog w = .ok (.int .i64 128) w := by intro w; rfl
  have hK0 := Kp.refl 50 base b w
  go_enter Tryz.func69, Tryz.ntmps69
  go_wp2_with fail
  go_still_tail 5, (by kernel_rfl)
  change wpList _ _ _ _ _ w.drew
  have hA1 := hA.drew
  have hK1 := hK0.drew
  clear hA hK0
  generalize w.drew = w1 at hA1 hK1 ⊢
  have cp1 := hA1.cp
  have cb_n01 := (bx_n0.kp hK1).cell
  have cb_n11 := (bx_n1.kp hK1).cell
  have cb_n21 := (bx_n2.kp hK1).cell
  go_wp2_with (first | (go_at_call 53; refine (pput base b _ (S) _ hA1).mono ?_; clear hA1; rintro e2 w2 ⟨rfl, hA2, hN2⟩; have hK2 := hK1.trans hN2; clear hN2 hK1; have cp2 := hA2.cp; have cb_n02 := (bx_n0.kp hK2).cell; have cb_n12 := (bx_n1.kp hK2).cell; have cb_n22 := (bx_n2.kp hK2).cell) | (go_at_call 70; refine (pwhole base b _ ((S).put (128)) _ (by decide) (by decide) hA2).mono ?_; clear hA2; rintro e3 w3 ⟨rfl, hA3, hN3⟩; have hK3 := hK2.trans hN3; clear hN3 hK2; have cp3 := hA3.cp; have cb_n03 := (bx_n0.kp hK3).cell; have cb_n13 := (bx_n1.kp hK3).cell; have cb_n23 := (bx_n2.kp hK3).cell))
  go_still_tail 5, (by kernel_rfl)
  change wpList _ _ _ _ _ w3.drew
  have hA4 := hA3.drew
  have hK4 := hK3.drew
  clear hA3 hK3
  generalize w3.drew = w4 at hA4 hK4 ⊢
  have cp4 := hA4.cp
  have cb_n04 := (bx_n0.kp hK4).cell
  have cb_n14 := (bx_n1.kp hK4).cell
  have cb_n24 := (bx_n2.kp hK4).cell
  go_wp2_with (go_at_call 63; refine (pask base b _ (((S).put (128)).whole (2)) _ _ _ hA4 (by first | omega | (simp only [St.ops_ask, St.ops_put, St.ops_whole, St.ops_halves, St.ops_low, St.ops_keep, List.length_append, List.length_cons, List.length_nil]; omega))).mono ?_; clear hA4; rintro e5 w5 ⟨rfl, hA5, hN5⟩; have hK5 := hK4.trans hN5; clear hN5 hK4; have cp5 := hA5.cp; have cb_n05 := (bx_n0.kp hK5).cell; have cb_n15 := (bx_n1.kp hK5).cell; have cb_n25 := (bx_n2.kp hK5).cell)
  go_end0
  exact ⟨rfl, hA5, hK5⟩
set_option maxRecDepth 100000 in
set_option maxHeartbeats 400000 in
theorem col7s_9 (base b : Nat) (w : World) (S : St) (n0 n1 n2 : Nat)  (bx_n0 : Box 50 w b n0 (.bool false)) (bx_n1 : Box 50 w b n1 (.pointer (some ⟨b, 0, none⟩))) (bx_n2 : Box 50 w b n2 (.int .i64 9))  (hl : S.ops.length ≤ 800) (hA : PAt base w b S) :
    Calls Tryz.prog 69 #[.pointer (some ⟨n0, 0, none⟩), .pointer (some ⟨n1, 0, none⟩), .pointer (some ⟨n2, 0, none⟩)] w fun e w' => e = .returned (.tuple #[]) ∧ PAt base w' b ((((S).put (255)).whole (2)).ask (8) ((((S).put (255)).whole (2)).p) (0)) ∧ Kp 50 base b w w' := by
  have cp := hA.cp
  have cb_n0 := bx_n0.cell
  have cb_n1 := bx_n1.cell
  have cb_n2 := bx_n2.cell
  have hix : ∀ w : World, (Instr.index 79 (.agg #[.int .i64 0, .int .i64 1, .int .i64 4, .int .i64 8, .int .i64 16, .int .i64 32, .int .i64 64, .int .i64 96, .int .i64 128, .int .i64 255]) (.int .i64 9)).run Tryz.prog w = .ok (.int .i64 255) w := by intro w; rfl
  have hK0 := Kp.refl 50 base b w
  go_enter Tryz.func69, Tryz.ntmps69
  go_wp2_with fail
  go_still_tail 5, (by kernel_rfl)
  change wpList _ _ _ _ _ w.drew
  have hA1 := hA.drew
  have hK1 := hK0.drew
  clear hA hK0
  generalize w.drew = w1 at hA1 hK1 ⊢
  have cp1 := hA1.cp
  have cb_n01 := (bx_n0.kp hK1).cell
  have cb_n11 := (bx_n1.kp hK1).cell
  have cb_n21 := (bx_n2.kp hK1).cell
  go_wp2_with (first | (go_at_call 53; refine (pput base b _ (S) _ hA1).mono ?_; clear hA1; rintro e2 w2 ⟨rfl, hA2, hN2⟩; have hK2 := hK1.trans hN2; clear hN2 hK1; have cp2 := hA2.cp; have cb_n02 := (bx_n0.kp hK2).cell; have cb_n12 := (bx_n1.kp hK2).cell; have cb_n22 := (bx_n2.kp hK2).cell) | (go_at_call 70; refine (pwhole base b _ ((S).put (255)) _ (by decide) (by decide) hA2).mono ?_; clear hA2; rintro e3 w3 ⟨rfl, hA3, hN3⟩; have hK3 := hK2.trans hN3; clear hN3 hK2; have cp3 := hA3.cp; have cb_n03 := (bx_n0.kp hK3).cell; have cb_n13 := (bx_n1.kp hK3).cell; have cb_n23 := (bx_n2.kp hK3).cell))
  go_still_tail 5, (by kernel_rfl)
  change wpList _ _ _ _ _ w3.drew
  have hA4 := hA3.drew
  have hK4 := hK3.drew
  clear hA3 hK3
  generalize w3.drew = w4 at hA4 hK4 ⊢
  have cp4 := hA4.cp
  have cb_n04 := (bx_n0.kp hK4).cell
  have cb_n14 := (bx_n1.kp hK4).cell
  have cb_n24 := (bx_n2.kp hK4).cell
  go_wp2_with (go_at_call 63; refine (pask base b _ (((S).put (255)).whole (2)) _ _ _ hA4 (by first | omega | (simp only [St.ops_ask, St.ops_put, St.ops_whole, St.ops_halves, St.ops_low, St.ops_keep, List.length_append, List.length_cons, List.length_nil]; omega))).mono ?_; clear hA4; rintro e5 w5 ⟨rfl, hA5, hN5⟩; have hK5 := hK4.trans hN5; clear hN5 hK4; have cp5 := hA5.cp; have cb_n05 := (bx_n0.kp hK5).cell; have cb_n15 := (bx_n1.kp hK5).cell; have cb_n25 := (bx_n2.kp hK5).cell)
  go_end0
  exact ⟨rfl, hA5, hK5⟩
set_option maxRecDepth 100000 in
set_option maxHeartbeats 400000 in
theorem col7s_b (base b : Nat) (w : World) (S : St) (n0 n1 n2 : Nat) (arg : Int) (g0 : 0 ≤ arg) (g1 : arg ≤ 99) (bx_n0 : Box 50 w b n0 (.bool false)) (bx_n1 : Box 50 w b n1 (.pointer (some ⟨b, 0, none⟩))) (bx_n2 : Box 50 w b n2 (.int .i64 arg)) (t0 : 9 < arg) (hl : S.ops.length ≤ 800) (hA : PAt base w b S) :
    Calls Tryz.prog 69 #[.pointer (some ⟨n0, 0, none⟩), .pointer (some ⟨n1, 0, none⟩), .pointer (some ⟨n2, 0, none⟩)] w fun e w' => e = .returned (.tuple #[]) ∧ PAt base w' b ((((S).put (255)).whole (2)).ask (8) ((((S).put (255)).whole (2)).p) (0)) ∧ Kp 50 base b w w' := by
  have cp := hA.cp
  have cb_n0 := bx_n0.cell
  have cb_n1 := bx_n1.cell
  have cb_n2 := bx_n2.cell
  have hix : ∀ w : World, (Instr.index 79 (.agg #[.int .i64 0, .int .i64 1, .int .i64 4, .int .i64 8, .int .i64 16, .int .i64 32, .int .i64 64, .int .i64 96, .int .i64 128, .int .i64 255]) (.int .i64 9)).run Tryz.prog w = .ok (.int .i64 255) w := by intro w; rfl
  have hK0 := Kp.refl 50 base b w
  go_enter Tryz.func69, Tryz.ntmps69
  go_wp2_with fail
  go_still_tail 5, (by kernel_rfl)
  change wpList _ _ _ _ _ w.drew
  have hA1 := hA.drew
  have hK1 := hK0.drew
  clear hA hK0
  generalize w.drew = w1 at hA1 hK1 ⊢
  have cp1 := hA1.cp
  have cb_n01 := (bx_n0.kp hK1).cell
  have cb_n11 := (bx_n1.kp hK1).cell
  have cb_n21 := (bx_n2.kp hK1).cell
  go_wp2_with (first | (go_at_call 53; refine (pput base b _ (S) _ hA1).mono ?_; clear hA1; rintro e2 w2 ⟨rfl, hA2, hN2⟩; have hK2 := hK1.trans hN2; clear hN2 hK1; have cp2 := hA2.cp; have cb_n02 := (bx_n0.kp hK2).cell; have cb_n12 := (bx_n1.kp hK2).cell; have cb_n22 := (bx_n2.kp hK2).cell) | (go_at_call 70; refine (pwhole base b _ ((S).put (255)) _ (by decide) (by decide) hA2).mono ?_; clear hA2; rintro e3 w3 ⟨rfl, hA3, hN3⟩; have hK3 := hK2.trans hN3; clear hN3 hK2; have cp3 := hA3.cp; have cb_n03 := (bx_n0.kp hK3).cell; have cb_n13 := (bx_n1.kp hK3).cell; have cb_n23 := (bx_n2.kp hK3).cell))
  go_still_tail 5, (by kernel_rfl)
  change wpList _ _ _ _ _ w3.drew
  have hA4 := hA3.drew
  have hK4 := hK3.drew
  clear hA3 hK3
  generalize w3.drew = w4 at hA4 hK4 ⊢
  have cp4 := hA4.cp
  have cb_n04 := (bx_n0.kp hK4).cell
  have cb_n14 := (bx_n1.kp hK4).cell
  have cb_n24 := (bx_n2.kp hK4).cell
  go_wp2_with (go_at_call 63; refine (pask base b _ (((S).put (255)).whole (2)) _ _ _ hA4 (by first | omega | (simp only [St.ops_ask, St.ops_put, St.ops_whole, St.ops_halves, St.ops_low, St.ops_keep, List.length_append, List.length_cons, List.length_nil]; omega))).mono ?_; clear hA4; rintro e5 w5 ⟨rfl, hA5, hN5⟩; have hK5 := hK4.trans hN5; clear hN5 hK4; have cp5 := hA5.cp; have cb_n05 := (bx_n0.kp hK5).cell; have cb_n15 := (bx_n1.kp hK5).cell; have cb_n25 := (bx_n2.kp hK5).cell)
  go_end0
  exact ⟨rfl, hA5, hK5⟩

end Go.Proofs.YtappnglfmidjoaaGreat.D
