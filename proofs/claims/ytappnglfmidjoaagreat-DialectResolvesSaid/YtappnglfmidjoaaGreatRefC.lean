/- The reference: fast, chip, compose. -/
import Derived.Test.YtappnglfmidjoaaGreatRefB
set_option linter.unusedVariables false
set_option linter.unusedSimpArgs false
namespace Go.Proofs.YtappnglfmidjoaaGreat.D
open Go Go.RowKit
open Go.Proofs.YtappnglfmidjoaaGreat.DB
theorem wrap_small {x : Int} (h0 : -9223372036854775808 ≤ x) (h1 : x < 9223372036854775808) : wrap64 x = x := by unfold wrap64; omega
theorem low_h (S : St) (k : Int) : (S.low k).h = S.h := by unfold St.low; split <;> rfl
theorem byHigh_at {M : Int → Option (St → St)} {S : St} {k : Int} {E : St → St} (hk : S.h = k) (hE : M k = some E) : St.fByHigh M S = E S := by unfold St.fByHigh; rw [hk, hE]
theorem byHigh_no {M : Int → Option (St → St)} {S : St} (hE : M S.h = none) : St.fByHigh M S = S := by unfold St.fByHigh; rw [hE]
theorem byHigh_eq {M M' : Int → Option (St → St)} {S : St} (hE : M S.h = M' S.h) : St.fByHigh M S = St.fByHigh M' S := by unfold St.fByHigh; rw [hE]
set_option maxRecDepth 100000 in
set_option maxHeartbeats 400000 in
theorem r_fast_48_v (base b : Nat) (w : World) (S : St)    (hl : S.ops.length ≤ 800) (hA : RAt base w b S) :
    Calls Tryz.prog 45 #[.pointer (some ⟨b, 0, none⟩), .int .u8 48] w fun e w' => e = .returned (.tuple #[]) ∧ RAt base w' b ((St.fUnless0 (St.fBoth 1)) (S)) ∧ Kp 50 base b w w' := by
  have hK0 := Kp.refl 50 base b w
  go_enter Tryz.func45, Tryz.ntmps45
  go_wp2_with (go_at_call 43; refine (r_four_48 base b _ (S) (by first | omega | (simp only [St.ops_ask, St.ops_put, St.ops_whole, St.ops_halves, St.ops_low, St.ops_keep, List.length_append, List.length_cons, List.length_nil]; omega)) hA).mono ?_; clear hA; rintro e1 w1 ⟨rfl, hA1, hN1⟩; have hK1 := hK0.trans hN1; clear hN1 hK0)
  go_end0
  exact ⟨rfl, hA1, hK1⟩
set_option maxRecDepth 100000 in
set_option maxHeartbeats 200000 in
theorem r_fast_48 (base b : Nat) (w : World) (S : St)  (hl : S.ops.length ≤ 800) (hA : RAt base w b S) :
    Calls Tryz.prog 45 #[.pointer (some ⟨b, 0, none⟩), .int .u8 48] w fun e w' => e = .returned (.tuple #[]) ∧ RAt base w' b ((St.fUnless0 (St.fBoth 1)) S) ∧ Kp 50 base b w w' := by
  refine (r_fast_48_v base b w S  hl hA).mono ?_
  rintro e w' ⟨he, hA', hK'⟩
  exact ⟨he, hA'.eq (by first | rfl | simp [St.fBoth, St.fUnless0]), hK'⟩
set_option maxRecDepth 100000 in
set_option maxHeartbeats 400000 in
theorem r_fast_49_v (base b : Nat) (w : World) (S : St)    (hl : S.ops.length ≤ 800) (hA : RAt base w b S) :
    Calls Tryz.prog 45 #[.pointer (some ⟨b, 0, none⟩), .int .u8 49] w fun e w' => e = .returned (.tuple #[]) ∧ RAt base w' b ((St.fParam 2) ((S).whole (5))) ∧ Kp 50 base b w w' := by
  have hK0 := Kp.refl 50 base b w
  go_enter Tryz.func45, Tryz.ntmps45
  go_wp2_with (first | (go_at_call 41; refine (rwhole base b _ (S) _ (by decide) (by decide) hA).mono ?_; clear hA; rintro e1 w1 ⟨rfl, hA1, hN1⟩; have hK1 := hK0.trans hN1; clear hN1 hK0) | (go_at_call 43; refine (r_four_49 base b _ ((S).whole (5)) (by first | omega | (simp only [St.ops_ask, St.ops_put, St.ops_whole, St.ops_halves, St.ops_low, St.ops_keep, List.length_append, List.length_cons, List.length_nil]; omega)) hA1).mono ?_; clear hA1; rintro e2 w2 ⟨rfl, hA2, hN2⟩; have hK2 := hK1.trans hN2; clear hN2 hK1))
  go_end0
  exact ⟨rfl, hA2, hK2⟩
set_option maxRecDepth 100000 in
set_option maxHeartbeats 200000 in
theorem r_fast_49 (base b : Nat) (w : World) (S : St)  (hl : S.ops.length ≤ 800) (hA : RAt base w b S) :
    Calls Tryz.prog 45 #[.pointer (some ⟨b, 0, none⟩), .int .u8 49] w fun e w' => e = .returned (.tuple #[]) ∧ RAt base w' b ((St.fWholly 5 (St.fParam 2)) S) ∧ Kp 50 base b w w' := by
  refine (r_fast_49_v base b w S  hl hA).mono ?_
  rintro e w' ⟨he, hA', hK'⟩
  exact ⟨he, hA'.eq (by first | rfl | simp [St.fParam, St.fWholly]), hK'⟩
set_option maxRecDepth 100000 in
set_option maxHeartbeats 400000 in
theorem r_fast_50_v (base b : Nat) (w : World) (S : St)    (hl : S.ops.length ≤ 800) (hA : RAt base w b S) :
    Calls Tryz.prog 45 #[.pointer (some ⟨b, 0, none⟩), .int .u8 50] w fun e w' => e = .returned (.tuple #[]) ∧ RAt base w' b ((St.fParam 3) ((S).whole (6))) ∧ Kp 50 base b w w' := by
  have hK0 := Kp.refl 50 base b w
  go_enter Tryz.func45, Tryz.ntmps45
  go_wp2_with (first | (go_at_call 41; refine (rwhole base b _ (S) _ (by decide) (by decide) hA).mono ?_; clear hA; rintro e1 w1 ⟨rfl, hA1, hN1⟩; have hK1 := hK0.trans hN1; clear hN1 hK0) | (go_at_call 43; refine (r_four_50 base b _ ((S).whole (6)) (by first | omega | (simp only [St.ops_ask, St.ops_put, St.ops_whole, St.ops_halves, St.ops_low, St.ops_keep, List.length_append, List.length_cons, List.length_nil]; omega)) hA1).mono ?_; clear hA1; rintro e2 w2 ⟨rfl, hA2, hN2⟩; have hK2 := hK1.trans hN2; clear hN2 hK1))
  go_end0
  exact ⟨rfl, hA2, hK2⟩
set_option maxRecDepth 100000 in
set_option maxHeartbeats 200000 in
theorem r_fast_50 (base b : Nat) (w : World) (S : St)  (hl : S.ops.length ≤ 800) (hA : RAt base w b S) :
    Calls Tryz.prog 45 #[.pointer (some ⟨b, 0, none⟩), .int .u8 50] w fun e w' => e = .returned (.tuple #[]) ∧ RAt base w' b ((St.fWholly 6 (St.fParam 3)) S) ∧ Kp 50 base b w w' := by
  refine (r_fast_50_v base b w S  hl hA).mono ?_
  rintro e w' ⟨he, hA', hK'⟩
  exact ⟨he, hA'.eq (by first | rfl | simp [St.fParam, St.fWholly]), hK'⟩
set_option maxRecDepth 100000 in
set_option maxHeartbeats 400000 in
theorem r_fast_51_v (base b : Nat) (w : World) (S : St)    (hl : S.ops.length ≤ 800) (hA : RAt base w b S) :
    Calls Tryz.prog 45 #[.pointer (some ⟨b, 0, none⟩), .int .u8 51] w fun e w' => e = .returned (.tuple #[]) ∧ RAt base w' b ((St.fWholly 1 (St.fParam 8)) (S)) ∧ Kp 50 base b w w' := by
  have hK0 := Kp.refl 50 base b w
  go_enter Tryz.func45, Tryz.ntmps45
  go_wp2_with (go_at_call 43; refine (r_four_51 base b _ (S) (by first | omega | (simp only [St.ops_ask, St.ops_put, St.ops_whole, St.ops_halves, St.ops_low, St.ops_keep, List.length_append, List.length_cons, List.length_nil]; omega)) hA).mono ?_; clear hA; rintro e1 w1 ⟨rfl, hA1, hN1⟩; have hK1 := hK0.trans hN1; clear hN1 hK0)
  go_end0
  exact ⟨rfl, hA1, hK1⟩
set_option maxRecDepth 100000 in
set_option maxHeartbeats 200000 in
theorem r_fast_51 (base b : Nat) (w : World) (S : St)  (hl : S.ops.length ≤ 800) (hA : RAt base w b S) :
    Calls Tryz.prog 45 #[.pointer (some ⟨b, 0, none⟩), .int .u8 51] w fun e w' => e = .returned (.tuple #[]) ∧ RAt base w' b ((St.fWholly 1 (St.fParam 8)) S) ∧ Kp 50 base b w w' := by
  refine (r_fast_51_v base b w S  hl hA).mono ?_
  rintro e w' ⟨he, hA', hK'⟩
  exact ⟨he, hA'.eq (by first | rfl | simp [St.fParam, St.fWholly]), hK'⟩
set_option maxRecDepth 100000 in
set_option maxHeartbeats 400000 in
theorem r_fast_52_v (base b : Nat) (w : World) (S : St)    (hl : S.ops.length ≤ 800) (hA : RAt base w b S) :
    Calls Tryz.prog 45 #[.pointer (some ⟨b, 0, none⟩), .int .u8 52] w fun e w' => e = .returned (.tuple #[]) ∧ RAt base w' b ((St.fHalved 2 (St.fBoth 9)) (S)) ∧ Kp 50 base b w w' := by
  have hK0 := Kp.refl 50 base b w
  go_enter Tryz.func45, Tryz.ntmps45
  go_wp2_with (go_at_call 43; refine (r_four_52 base b _ (S) (by first | omega | (simp only [St.ops_ask, St.ops_put, St.ops_whole, St.ops_halves, St.ops_low, St.ops_keep, List.length_append, List.length_cons, List.length_nil]; omega)) hA).mono ?_; clear hA; rintro e1 w1 ⟨rfl, hA1, hN1⟩; have hK1 := hK0.trans hN1; clear hN1 hK0)
  go_end0
  exact ⟨rfl, hA1, hK1⟩
set_option maxRecDepth 100000 in
set_option maxHeartbeats 200000 in
theorem r_fast_52 (base b : Nat) (w : World) (S : St)  (hl : S.ops.length ≤ 800) (hA : RAt base w b S) :
    Calls Tryz.prog 45 #[.pointer (some ⟨b, 0, none⟩), .int .u8 52] w fun e w' => e = .returned (.tuple #[]) ∧ RAt base w' b ((St.fHalved 2 (St.fBoth 9)) S) ∧ Kp 50 base b w w' := by
  refine (r_fast_52_v base b w S  hl hA).mono ?_
  rintro e w' ⟨he, hA', hK'⟩
  exact ⟨he, hA'.eq (by first | rfl | simp [St.fBoth, St.fHalved]), hK'⟩
set_option maxRecDepth 100000 in
set_option maxHeartbeats 400000 in
theorem r_fast_53_v (base b : Nat) (w : World) (S : St)    (hl : S.ops.length ≤ 800) (hA : RAt base w b S) :
    Calls Tryz.prog 45 #[.pointer (some ⟨b, 0, none⟩), .int .u8 53] w fun e w' => e = .returned (.tuple #[]) ∧ RAt base w' b ((St.fFive) ((S).whole (7))) ∧ Kp 50 base b w w' := by
  have hK0 := Kp.refl 50 base b w
  go_enter Tryz.func45, Tryz.ntmps45
  go_wp2_with (first | (go_at_call 41; refine (rwhole base b _ (S) _ (by decide) (by decide) hA).mono ?_; clear hA; rintro e1 w1 ⟨rfl, hA1, hN1⟩; have hK1 := hK0.trans hN1; clear hN1 hK0) | (go_at_call 43; refine (r_four_53 base b _ ((S).whole (7)) (by first | omega | (simp only [St.ops_ask, St.ops_put, St.ops_whole, St.ops_halves, St.ops_low, St.ops_keep, List.length_append, List.length_cons, List.length_nil]; omega)) hA1).mono ?_; clear hA1; rintro e2 w2 ⟨rfl, hA2, hN2⟩; have hK2 := hK1.trans hN2; clear hN2 hK1))
  go_end0
  exact ⟨rfl, hA2, hK2⟩
set_option maxRecDepth 100000 in
set_option maxHeartbeats 200000 in
theorem r_fast_53 (base b : Nat) (w : World) (S : St)  (hl : S.ops.length ≤ 800) (hA : RAt base w b S) :
    Calls Tryz.prog 45 #[.pointer (some ⟨b, 0, none⟩), .int .u8 53] w fun e w' => e = .returned (.tuple #[]) ∧ RAt base w' b ((St.fWholly 7 (St.fFive)) S) ∧ Kp 50 base b w w' := by
  refine (r_fast_53_v base b w S  hl hA).mono ?_
  rintro e w' ⟨he, hA', hK'⟩
  exact ⟨he, hA'.eq (by first | rfl | simp [St.fWholly, St.fFive]), hK'⟩
set_option maxRecDepth 100000 in
set_option maxHeartbeats 400000 in
theorem r_fast_54_v (base b : Nat) (w : World) (S : St)    (hl : S.ops.length ≤ 800) (hA : RAt base w b S) :
    Calls Tryz.prog 45 #[.pointer (some ⟨b, 0, none⟩), .int .u8 54] w fun e w' => e = .returned (.tuple #[]) ∧ RAt base w' b ((St.fSix) ((S).whole (7))) ∧ Kp 50 base b w w' := by
  have hK0 := Kp.refl 50 base b w
  go_enter Tryz.func45, Tryz.ntmps45
  go_wp2_with (first | (go_at_call 41; refine (rwhole base b _ (S) _ (by decide) (by decide) hA).mono ?_; clear hA; rintro e1 w1 ⟨rfl, hA1, hN1⟩; have hK1 := hK0.trans hN1; clear hN1 hK0) | (go_at_call 43; refine (r_four_54 base b _ ((S).whole (7)) (by first | omega | (simp only [St.ops_ask, St.ops_put, St.ops_whole, St.ops_halves, St.ops_low, St.ops_keep, List.length_append, List.length_cons, List.length_nil]; omega)) hA1).mono ?_; clear hA1; rintro e2 w2 ⟨rfl, hA2, hN2⟩; have hK2 := hK1.trans hN2; clear hN2 hK1))
  go_end0
  exact ⟨rfl, hA2, hK2⟩
set_option maxRecDepth 100000 in
set_option maxHeartbeats 200000 in
theorem r_fast_54 (base b : Nat) (w : World) (S : St)  (hl : S.ops.length ≤ 800) (hA : RAt base w b S) :
    Calls Tryz.prog 45 #[.pointer (some ⟨b, 0, none⟩), .int .u8 54] w fun e w' => e = .returned (.tuple #[]) ∧ RAt base w' b ((St.fWholly 7 (St.fSix)) S) ∧ Kp 50 base b w w' := by
  refine (r_fast_54_v base b w S  hl hA).mono ?_
  rintro e w' ⟨he, hA', hK'⟩
  exact ⟨he, hA'.eq (by first | rfl | simp [St.fWholly, St.fSix]), hK'⟩
set_option maxRecDepth 100000 in
set_option maxHeartbeats 400000 in
theorem r_fast_55_v (base b : Nat) (w : World) (S : St)    (hl : S.ops.length ≤ 800) (hA : RAt base w b S) :
    Calls Tryz.prog 45 #[.pointer (some ⟨b, 0, none⟩), .int .u8 55] w fun e w' => e = .returned (.tuple #[]) ∧ RAt base w' b ((St.fHalved 3 (St.fBoth 11)) (S)) ∧ Kp 50 base b w w' := by
  have hK0 := Kp.refl 50 base b w
  go_enter Tryz.func45, Tryz.ntmps45
  go_wp2_with (go_at_call 43; refine (r_four_55 base b _ (S) (by first | omega | (simp only [St.ops_ask, St.ops_put, St.ops_whole, St.ops_halves, St.ops_low, St.ops_keep, List.length_append, List.length_cons, List.length_nil]; omega)) hA).mono ?_; clear hA; rintro e1 w1 ⟨rfl, hA1, hN1⟩; have hK1 := hK0.trans hN1; clear hN1 hK0)
  go_end0
  exact ⟨rfl, hA1, hK1⟩
set_option maxRecDepth 100000 in
set_option maxHeartbeats 200000 in
theorem r_fast_55 (base b : Nat) (w : World) (S : St)  (hl : S.ops.length ≤ 800) (hA : RAt base w b S) :
    Calls Tryz.prog 45 #[.pointer (some ⟨b, 0, none⟩), .int .u8 55] w fun e w' => e = .returned (.tuple #[]) ∧ RAt base w' b ((St.fHalved 3 (St.fBoth 11)) S) ∧ Kp 50 base b w w' := by
  refine (r_fast_55_v base b w S  hl hA).mono ?_
  rintro e w' ⟨he, hA', hK'⟩
  exact ⟨he, hA'.eq (by first | rfl | simp [St.fBoth, St.fHalved]), hK'⟩
set_option maxRecDepth 100000 in
set_option maxHeartbeats 400000 in
theorem r_fast_56_v (base b : Nat) (w : World) (S : St)    (hl : S.ops.length ≤ 800) (hA : RAt base w b S) :
    Calls Tryz.prog 45 #[.pointer (some ⟨b, 0, none⟩), .int .u8 56] w fun e w' => e = .returned (.tuple #[]) ∧ RAt base w' b ((St.fPan) (S)) ∧ Kp 50 base b w w' := by
  have hK0 := Kp.refl 50 base b w
  go_enter Tryz.func45, Tryz.ntmps45
  go_wp2_with (go_at_call 43; refine (r_four_56 base b _ (S) (by first | omega | (simp only [St.ops_ask, St.ops_put, St.ops_whole, St.ops_halves, St.ops_low, St.ops_keep, List.length_append, List.length_cons, List.length_nil]; omega)) hA).mono ?_; clear hA; rintro e1 w1 ⟨rfl, hA1, hN1⟩; have hK1 := hK0.trans hN1; clear hN1 hK0)
  go_end0
  exact ⟨rfl, hA1, hK1⟩
set_option maxRecDepth 100000 in
set_option maxHeartbeats 200000 in
theorem r_fast_56 (base b : Nat) (w : World) (S : St)  (hl : S.ops.length ≤ 800) (hA : RAt base w b S) :
    Calls Tryz.prog 45 #[.pointer (some ⟨b, 0, none⟩), .int .u8 56] w fun e w' => e = .returned (.tuple #[]) ∧ RAt base w' b ((St.fPan) S) ∧ Kp 50 base b w w' := by
  refine (r_fast_56_v base b w S  hl hA).mono ?_
  rintro e w' ⟨he, hA', hK'⟩
  exact ⟨he, hA'.eq (by first | rfl | simp [St.fPan]), hK'⟩
set_option maxRecDepth 100000 in
set_option maxHeartbeats 400000 in
theorem r_fast_57_v (base b : Nat) (w : World) (S : St)    (hl : S.ops.length ≤ 800) (hA : RAt base w b S) :
    Calls Tryz.prog 45 #[.pointer (some ⟨b, 0, none⟩), .int .u8 57] w fun e w' => e = .returned (.tuple #[]) ∧ RAt base w' b ((St.fWholly 4 (St.fOffset)) (S)) ∧ Kp 50 base b w w' := by
  have hK0 := Kp.refl 50 base b w
  go_enter Tryz.func45, Tryz.ntmps45
  go_wp2_with (go_at_call 43; refine (r_four_57 base b _ (S) (by first | omega | (simp only [St.ops_ask, St.ops_put, St.ops_whole, St.ops_halves, St.ops_low, St.ops_keep, List.length_append, List.length_cons, List.length_nil]; omega)) hA).mono ?_; clear hA; rintro e1 w1 ⟨rfl, hA1, hN1⟩; have hK1 := hK0.trans hN1; clear hN1 hK0)
  go_end0
  exact ⟨rfl, hA1, hK1⟩
set_option maxRecDepth 100000 in
set_option maxHeartbeats 200000 in
theorem r_fast_57 (base b : Nat) (w : World) (S : St)  (hl : S.ops.length ≤ 800) (hA : RAt base w b S) :
    Calls Tryz.prog 45 #[.pointer (some ⟨b, 0, none⟩), .int .u8 57] w fun e w' => e = .returned (.tuple #[]) ∧ RAt base w' b ((St.fWholly 4 (St.fOffset)) S) ∧ Kp 50 base b w w' := by
  refine (r_fast_57_v base b w S  hl hA).mono ?_
  rintro e w' ⟨he, hA', hK'⟩
  exact ⟨he, hA'.eq (by first | rfl | simp [St.fWholly, St.fOffset]), hK'⟩
set_option maxRecDepth 100000 in
set_option maxHeartbeats 400000 in
theorem r_fast_65_v (base b : Nat) (w : World) (S : St)    (hl : S.ops.length ≤ 800) (hA : RAt base w b S) :
    Calls Tryz.prog 45 #[.pointer (some ⟨b, 0, none⟩), .int .u8 65] w fun e w' => e = .returned (.tuple #[]) ∧ RAt base w' b ((St.fBoth 12) ((S).whole (7))) ∧ Kp 50 base b w w' := by
  have hK0 := Kp.refl 50 base b w
  go_enter Tryz.func45, Tryz.ntmps45
  go_wp2_with (first | (go_at_call 41; refine (rwhole base b _ (S) _ (by decide) (by decide) hA).mono ?_; clear hA; rintro e1 w1 ⟨rfl, hA1, hN1⟩; have hK1 := hK0.trans hN1; clear hN1 hK0) | (go_at_call 43; refine (r_four_65 base b _ ((S).whole (7)) (by first | omega | (simp only [St.ops_ask, St.ops_put, St.ops_whole, St.ops_halves, St.ops_low, St.ops_keep, List.length_append, List.length_cons, List.length_nil]; omega)) hA1).mono ?_; clear hA1; rintro e2 w2 ⟨rfl, hA2, hN2⟩; have hK2 := hK1.trans hN2; clear hN2 hK1))
  go_end0
  exact ⟨rfl, hA2, hK2⟩
set_option maxRecDepth 100000 in
set_option maxHeartbeats 200000 in
theorem r_fast_65 (base b : Nat) (w : World) (S : St)  (hl : S.ops.length ≤ 800) (hA : RAt base w b S) :
    Calls Tryz.prog 45 #[.pointer (some ⟨b, 0, none⟩), .int .u8 65] w fun e w' => e = .returned (.tuple #[]) ∧ RAt base w' b ((St.fWholly 7 (St.fBoth 12)) S) ∧ Kp 50 base b w w' := by
  refine (r_fast_65_v base b w S  hl hA).mono ?_
  rintro e w' ⟨he, hA', hK'⟩
  exact ⟨he, hA'.eq (by first | rfl | simp [St.fBoth, St.fWholly]), hK'⟩
set_option maxRecDepth 100000 in
set_option maxHeartbeats 400000 in
theorem r_fast_66_v (base b : Nat) (w : World) (S : St)    (hl : S.ops.length ≤ 800) (hA : RAt base w b S) :
    Calls Tryz.prog 45 #[.pointer (some ⟨b, 0, none⟩), .int .u8 66] w fun e w' => e = .returned (.tuple #[]) ∧ RAt base w' b ((St.fParam 32) (S)) ∧ Kp 50 base b w w' := by
  have hK0 := Kp.refl 50 base b w
  go_enter Tryz.func45, Tryz.ntmps45
  go_wp2_with (go_at_call 43; refine (r_four_66 base b _ (S) (by first | omega | (simp only [St.ops_ask, St.ops_put, St.ops_whole, St.ops_halves, St.ops_low, St.ops_keep, List.length_append, List.length_cons, List.length_nil]; omega)) hA).mono ?_; clear hA; rintro e1 w1 ⟨rfl, hA1, hN1⟩; have hK1 := hK0.trans hN1; clear hN1 hK0)
  go_end0
  exact ⟨rfl, hA1, hK1⟩
set_option maxRecDepth 100000 in
set_option maxHeartbeats 200000 in
theorem r_fast_66 (base b : Nat) (w : World) (S : St)  (hl : S.ops.length ≤ 800) (hA : RAt base w b S) :
    Calls Tryz.prog 45 #[.pointer (some ⟨b, 0, none⟩), .int .u8 66] w fun e w' => e = .returned (.tuple #[]) ∧ RAt base w' b ((St.fParam 32) S) ∧ Kp 50 base b w w' := by
  refine (r_fast_66_v base b w S  hl hA).mono ?_
  rintro e w' ⟨he, hA', hK'⟩
  exact ⟨he, hA'.eq (by first | rfl | simp [St.fParam]), hK'⟩
set_option maxRecDepth 100000 in
set_option maxHeartbeats 400000 in
theorem r_fast_67_v (base b : Nat) (w : World) (S : St)    (hl : S.ops.length ≤ 800) (hA : RAt base w b S) :
    Calls Tryz.prog 45 #[.pointer (some ⟨b, 0, none⟩), .int .u8 67] w fun e w' => e = .returned (.tuple #[]) ∧ RAt base w' b ((St.fVolume) (S)) ∧ Kp 50 base b w w' := by
  have hK0 := Kp.refl 50 base b w
  go_enter Tryz.func45, Tryz.ntmps45
  go_wp2_with (go_at_call 43; refine (r_four_67 base b _ (S) (by first | omega | (simp only [St.ops_ask, St.ops_put, St.ops_whole, St.ops_halves, St.ops_low, St.ops_keep, List.length_append, List.length_cons, List.length_nil]; omega)) hA).mono ?_; clear hA; rintro e1 w1 ⟨rfl, hA1, hN1⟩; have hK1 := hK0.trans hN1; clear hN1 hK0)
  go_end0
  exact ⟨rfl, hA1, hK1⟩
set_option maxRecDepth 100000 in
set_option maxHeartbeats 200000 in
theorem r_fast_67 (base b : Nat) (w : World) (S : St)  (hl : S.ops.length ≤ 800) (hA : RAt base w b S) :
    Calls Tryz.prog 45 #[.pointer (some ⟨b, 0, none⟩), .int .u8 67] w fun e w' => e = .returned (.tuple #[]) ∧ RAt base w' b ((St.fVolume) S) ∧ Kp 50 base b w w' := by
  refine (r_fast_67_v base b w S  hl hA).mono ?_
  rintro e w' ⟨he, hA', hK'⟩
  exact ⟨he, hA'.eq (by first | rfl | simp [St.fVolume]), hK'⟩
set_option maxRecDepth 100000 in
set_option maxHeartbeats 400000 in
theorem r_fast_68_v (base b : Nat) (w : World) (S : St)    (hl : S.ops.length ≤ 800) (hA : RAt base w b S) :
    Calls Tryz.prog 45 #[.pointer (some ⟨b, 0, none⟩), .int .u8 68] w fun e w' => e = .returned (.tuple #[]) ∧ RAt base w' b ((St.fDecimal) (S)) ∧ Kp 50 base b w w' := by
  have hK0 := Kp.refl 50 base b w
  go_enter Tryz.func45, Tryz.ntmps45
  go_wp2_with (go_at_call 43; refine (r_four_68 base b _ (S) (by first | omega | (simp only [St.ops_ask, St.ops_put, St.ops_whole, St.ops_halves, St.ops_low, St.ops_keep, List.length_append, List.length_cons, List.length_nil]; omega)) hA).mono ?_; clear hA; rintro e1 w1 ⟨rfl, hA1, hN1⟩; have hK1 := hK0.trans hN1; clear hN1 hK0)
  go_end0
  exact ⟨rfl, hA1, hK1⟩
set_option maxRecDepth 100000 in
set_option maxHeartbeats 200000 in
theorem r_fast_68 (base b : Nat) (w : World) (S : St)  (hl : S.ops.length ≤ 800) (hA : RAt base w b S) :
    Calls Tryz.prog 45 #[.pointer (some ⟨b, 0, none⟩), .int .u8 68] w fun e w' => e = .returned (.tuple #[]) ∧ RAt base w' b ((St.fDecimal) S) ∧ Kp 50 base b w w' := by
  refine (r_fast_68_v base b w S  hl hA).mono ?_
  rintro e w' ⟨he, hA', hK'⟩
  exact ⟨he, hA'.eq (by first | rfl | simp [St.fDecimal]), hK'⟩
set_option maxRecDepth 100000 in
set_option maxHeartbeats 400000 in
theorem r_fast_70_v (base b : Nat) (w : World) (S : St)    (hl : S.ops.length ≤ 800) (hA : RAt base w b S) :
    Calls Tryz.prog 45 #[.pointer (some ⟨b, 0, none⟩), .int .u8 70] w fun e w' => e = .returned (.tuple #[]) ∧ RAt base w' b ((St.fSpeedOrTempo) (S)) ∧ Kp 50 base b w w' := by
  have hK0 := Kp.refl 50 base b w
  go_enter Tryz.func45, Tryz.ntmps45
  go_wp2_with (go_at_call 43; refine (r_four_70 base b _ (S) (by first | omega | (simp only [St.ops_ask, St.ops_put, St.ops_whole, St.ops_halves, St.ops_low, St.ops_keep, List.length_append, List.length_cons, List.length_nil]; omega)) hA).mono ?_; clear hA; rintro e1 w1 ⟨rfl, hA1, hN1⟩; have hK1 := hK0.trans hN1; clear hN1 hK0)
  go_end0
  exact ⟨rfl, hA1, hK1⟩
set_option maxRecDepth 100000 in
set_option maxHeartbeats 200000 in
theorem r_fast_70 (base b : Nat) (w : World) (S : St)  (hl : S.ops.length ≤ 800) (hA : RAt base w b S) :
    Calls Tryz.prog 45 #[.pointer (some ⟨b, 0, none⟩), .int .u8 70] w fun e w' => e = .returned (.tuple #[]) ∧ RAt base w' b ((St.fSpeedOrTempo) S) ∧ Kp 50 base b w w' := by
  refine (r_fast_70_v base b w S  hl hA).mono ?_
  rintro e w' ⟨he, hA', hK'⟩
  exact ⟨he, hA'.eq (by first | rfl | simp [St.fSpeedOrTempo]), hK'⟩
set_option maxRecDepth 100000 in
set_option maxHeartbeats 400000 in
theorem r_fast_71_v0 (base b : Nat) (w : World) (S : St)   (t0 : (S).p ≤ 64) (hl : S.ops.length ≤ 800) (hA : RAt base w b S) :
    Calls Tryz.prog 45 #[.pointer (some ⟨b, 0, none⟩), .int .u8 71] w fun e w' => e = .returned (.tuple #[]) ∧ RAt base w' b ((S).ask (28) (wrap64 (2 * (S).p)) (0)) ∧ Kp 50 base b w w' := by
  have cp := hA.cp
  have hK0 := Kp.refl 50 base b w
  go_enter Tryz.func45, Tryz.ntmps45
  go_wp2_with (go_at_call 39; refine (rask base b _ (S) _ _ _ hA (by first | omega | (simp only [St.ops_ask, St.ops_put, St.ops_whole, St.ops_halves, St.ops_low, St.ops_keep, List.length_append, List.length_cons, List.length_nil]; omega))).mono ?_; clear hA; rintro e1 w1 ⟨rfl, hA1, hN1⟩; have hK1 := hK0.trans hN1; clear hN1 hK0; have cp1 := hA1.cp)
  go_end0
  exact ⟨rfl, hA1, hK1⟩
set_option maxRecDepth 100000 in
set_option maxHeartbeats 400000 in
theorem r_fast_71_v1 (base b : Nat) (w : World) (S : St)   (t0 : 64 < (S).p) (hl : S.ops.length ≤ 800) (hA : RAt base w b S) :
    Calls Tryz.prog 45 #[.pointer (some ⟨b, 0, none⟩), .int .u8 71] w fun e w' => e = .returned (.tuple #[]) ∧ RAt base w' b ((S).ask (28) (128) (0)) ∧ Kp 50 base b w w' := by
  have cp := hA.cp
  have hK0 := Kp.refl 50 base b w
  go_enter Tryz.func45, Tryz.ntmps45
  go_wp2_with (go_at_call 39; refine (rask base b _ (S) _ _ _ hA (by first | omega | (simp only [St.ops_ask, St.ops_put, St.ops_whole, St.ops_halves, St.ops_low, St.ops_keep, List.length_append, List.length_cons, List.length_nil]; omega))).mono ?_; clear hA; rintro e1 w1 ⟨rfl, hA1, hN1⟩; have hK1 := hK0.trans hN1; clear hN1 hK0; have cp1 := hA1.cp)
  go_end0
  exact ⟨rfl, hA1, hK1⟩
set_option maxRecDepth 100000 in
set_option maxHeartbeats 200000 in
theorem r_fast_71 (base b : Nat) (w : World) (S : St)  (hl : S.ops.length ≤ 800) (hA : RAt base w b S) :
    Calls Tryz.prog 45 #[.pointer (some ⟨b, 0, none⟩), .int .u8 71] w fun e w' => e = .returned (.tuple #[]) ∧ RAt base w' b ((St.fDoubled 28 64) S) ∧ Kp 50 base b w w' := by
  by_cases z0 : (S).p ≤ 64
  · refine (r_fast_71_v0 base b w S  (by first | omega | (simp; omega) | (simp [*]; done) | simpa using ‹_›) hl hA).mono ?_
    rintro e w' ⟨he, hA', hK'⟩
    exact ⟨he, hA'.eq (by first | (simp [St.fDoubled, Int.min_eq_left z0]; done) | (unfold St.fDoubled; rw [Int.min_eq_right (Int.le_of_lt (Int.not_le.1 z0)), wrap_small (by decide) (by decide)]; rfl) | (unfold St.fDoubled; rw [Int.min_eq_left z0, wrap_small (by omega) (by omega)]) | (simp [St.fDoubled, z0]; done) | (simp [St.fDoubled, z0, Int.min_def]; done) | (simp [St.fDoubled, z0, Int.min_def]; omega) | (have hmin := Int.min_def; simp only [St.fDoubled, Int.min_def]; split <;> first | rfl | omega)), hK'⟩
  · refine (r_fast_71_v1 base b w S  (by first | omega | (simp; omega) | (simp [*]; done) | simpa using ‹_›) hl hA).mono ?_
    rintro e w' ⟨he, hA', hK'⟩
    exact ⟨he, hA'.eq (by first | (simp [St.fDoubled, Int.min_eq_left z0]; done) | (unfold St.fDoubled; rw [Int.min_eq_right (Int.le_of_lt (Int.not_le.1 z0)), wrap_small (by decide) (by decide)]; rfl) | (unfold St.fDoubled; rw [Int.min_eq_left z0, wrap_small (by omega) (by omega)]) | (simp [St.fDoubled, z0]; done) | (simp [St.fDoubled, z0, Int.min_def]; done) | (simp [St.fDoubled, z0, Int.min_def]; omega) | (have hmin := Int.min_def; simp only [St.fDoubled, Int.min_def]; split <;> first | rfl | omega)), hK'⟩
set_option maxRecDepth 100000 in
set_option maxHeartbeats 400000 in
theorem r_fast_72_v (base b : Nat) (w : World) (S : St)    (hl : S.ops.length ≤ 800) (hA : RAt base w b S) :
    Calls Tryz.prog 45 #[.pointer (some ⟨b, 0, none⟩), .int .u8 72] w fun e w' => e = .returned (.tuple #[]) ∧ RAt base w' b (((S).whole (12)).ask (29) (((S).whole (12)).h) (((S).whole (12)).l)) ∧ Kp 50 base b w w' := by
  have ch := hA.ch
  simp only [Nat.reduceAdd] at ch
  have cl := hA.cl
  simp only [Nat.reduceAdd] at cl
  have hK0 := Kp.refl 50 base b w
  go_enter Tryz.func45, Tryz.ntmps45
  go_wp2_with (go_at_call 41; refine (rwhole base b _ (S) _ (by decide) (by decide) hA).mono ?_; clear hA; rintro e1 w1 ⟨rfl, hA1, hN1⟩; have hK1 := hK0.trans hN1; clear hN1 hK0; have ch1 := hA1.ch; simp only [Nat.reduceAdd] at ch1; have cl1 := hA1.cl; simp only [Nat.reduceAdd] at cl1)
  go_still_tail 9, (by kernel_rfl)
  change wpList _ _ _ _ _ w1.drew
  have hA2 := hA1.drew
  have hK2 := hK1.drew
  clear hA1 hK1
  generalize w1.drew = w2 at hA2 hK2 ⊢
  have ch2 := hA2.ch
  simp only [Nat.reduceAdd] at ch2
  have cl2 := hA2.cl
  simp only [Nat.reduceAdd] at cl2
  go_wp2_with (go_at_call 39; refine (rask base b _ ((S).whole (12)) _ _ _ hA2 (by first | omega | (simp only [St.ops_ask, St.ops_put, St.ops_whole, St.ops_halves, St.ops_low, St.ops_keep, List.length_append, List.length_cons, List.length_nil]; omega))).mono ?_; clear hA2; rintro e3 w3 ⟨rfl, hA3, hN3⟩; have hK3 := hK2.trans hN3; clear hN3 hK2; have ch3 := hA3.ch; simp only [Nat.reduceAdd] at ch3; have cl3 := hA3.cl; simp only [Nat.reduceAdd] at cl3)
  go_end0
  exact ⟨rfl, hA3, hK3⟩
set_option maxRecDepth 100000 in
set_option maxHeartbeats 200000 in
theorem r_fast_72 (base b : Nat) (w : World) (S : St)  (hl : S.ops.length ≤ 800) (hA : RAt base w b S) :
    Calls Tryz.prog 45 #[.pointer (some ⟨b, 0, none⟩), .int .u8 72] w fun e w' => e = .returned (.tuple #[]) ∧ RAt base w' b ((St.fWholly 12 (St.fBoth 29)) S) ∧ Kp 50 base b w w' := by
  refine (r_fast_72_v base b w S  hl hA).mono ?_
  rintro e w' ⟨he, hA', hK'⟩
  exact ⟨he, hA'.eq (by first | rfl | simp [St.fBoth, St.fWholly]), hK'⟩
set_option maxRecDepth 100000 in
set_option maxHeartbeats 400000 in
theorem r_fast_75_v (base b : Nat) (w : World) (S : St)    (hl : S.ops.length ≤ 800) (hA : RAt base w b S) :
    Calls Tryz.prog 45 #[.pointer (some ⟨b, 0, none⟩), .int .u8 75] w fun e w' => e = .returned (.tuple #[]) ∧ RAt base w' b ((S).ask (23) ((S).p) (0)) ∧ Kp 50 base b w w' := by
  have cp := hA.cp
  have hK0 := Kp.refl 50 base b w
  go_enter Tryz.func45, Tryz.ntmps45
  go_wp2_with (go_at_call 39; refine (rask base b _ (S) _ _ _ hA (by first | omega | (simp only [St.ops_ask, St.ops_put, St.ops_whole, St.ops_halves, St.ops_low, St.ops_keep, List.length_append, List.length_cons, List.length_nil]; omega))).mono ?_; clear hA; rintro e1 w1 ⟨rfl, hA1, hN1⟩; have hK1 := hK0.trans hN1; clear hN1 hK0; have cp1 := hA1.cp)
  go_end0
  exact ⟨rfl, hA1, hK1⟩
set_option maxRecDepth 100000 in
set_option maxHeartbeats 200000 in
theorem r_fast_75 (base b : Nat) (w : World) (S : St)  (hl : S.ops.length ≤ 800) (hA : RAt base w b S) :
    Calls Tryz.prog 45 #[.pointer (some ⟨b, 0, none⟩), .int .u8 75] w fun e w' => e = .returned (.tuple #[]) ∧ RAt base w' b ((St.fParam 23) S) ∧ Kp 50 base b w w' := by
  refine (r_fast_75_v base b w S  hl hA).mono ?_
  rintro e w' ⟨he, hA', hK'⟩
  exact ⟨he, hA'.eq (by first | rfl | simp [St.fParam]), hK'⟩
set_option maxRecDepth 100000 in
set_option maxHeartbeats 400000 in
theorem r_fast_76_v (base b : Nat) (w : World) (S : St)    (hl : S.ops.length ≤ 800) (hA : RAt base w b S) :
    Calls Tryz.prog 45 #[.pointer (some ⟨b, 0, none⟩), .int .u8 76] w fun e w' => e = .returned (.tuple #[]) ∧ RAt base w' b ((S).ask (39) ((S).p) (0)) ∧ Kp 50 base b w w' := by
  have cp := hA.cp
  have hK0 := Kp.refl 50 base b w
  go_enter Tryz.func45, Tryz.ntmps45
  go_wp2_with (go_at_call 39; refine (rask base b _ (S) _ _ _ hA (by first | omega | (simp only [St.ops_ask, St.ops_put, St.ops_whole, St.ops_halves, St.ops_low, St.ops_keep, List.length_append, List.length_cons, List.length_nil]; omega))).mono ?_; clear hA; rintro e1 w1 ⟨rfl, hA1, hN1⟩; have hK1 := hK0.trans hN1; clear hN1 hK0; have cp1 := hA1.cp)
  go_end0
  exact ⟨rfl, hA1, hK1⟩
set_option maxRecDepth 100000 in
set_option maxHeartbeats 200000 in
theorem r_fast_76 (base b : Nat) (w : World) (S : St)  (hl : S.ops.length ≤ 800) (hA : RAt base w b S) :
    Calls Tryz.prog 45 #[.pointer (some ⟨b, 0, none⟩), .int .u8 76] w fun e w' => e = .returned (.tuple #[]) ∧ RAt base w' b ((St.fParam 39) S) ∧ Kp 50 base b w w' := by
  refine (r_fast_76_v base b w S  hl hA).mono ?_
  rintro e w' ⟨he, hA', hK'⟩
  exact ⟨he, hA'.eq (by first | rfl | simp [St.fParam]), hK'⟩
set_option maxRecDepth 100000 in
set_option maxHeartbeats 400000 in
theorem r_fast_80_v (base b : Nat) (w : World) (S : St)    (hl : S.ops.length ≤ 800) (hA : RAt base w b S) :
    Calls Tryz.prog 45 #[.pointer (some ⟨b, 0, none⟩), .int .u8 80] w fun e w' => e = .returned (.tuple #[]) ∧ RAt base w' b (((S).whole (13)).ask (17) (((S).whole (13)).h) (((S).whole (13)).l)) ∧ Kp 50 base b w w' := by
  have ch := hA.ch
  simp only [Nat.reduceAdd] at ch
  have cl := hA.cl
  simp only [Nat.reduceAdd] at cl
  have hK0 := Kp.refl 50 base b w
  go_enter Tryz.func45, Tryz.ntmps45
  go_wp2_with (go_at_call 41; refine (rwhole base b _ (S) _ (by decide) (by decide) hA).mono ?_; clear hA; rintro e1 w1 ⟨rfl, hA1, hN1⟩; have hK1 := hK0.trans hN1; clear hN1 hK0; have ch1 := hA1.ch; simp only [Nat.reduceAdd] at ch1; have cl1 := hA1.cl; simp only [Nat.reduceAdd] at cl1)
  go_still_tail 9, (by kernel_rfl)
  change wpList _ _ _ _ _ w1.drew
  have hA2 := hA1.drew
  have hK2 := hK1.drew
  clear hA1 hK1
  generalize w1.drew = w2 at hA2 hK2 ⊢
  have ch2 := hA2.ch
  simp only [Nat.reduceAdd] at ch2
  have cl2 := hA2.cl
  simp only [Nat.reduceAdd] at cl2
  go_wp2_with (go_at_call 39; refine (rask base b _ ((S).whole (13)) _ _ _ hA2 (by first | omega | (simp only [St.ops_ask, St.ops_put, St.ops_whole, St.ops_halves, St.ops_low, St.ops_keep, List.length_append, List.length_cons, List.length_nil]; omega))).mono ?_; clear hA2; rintro e3 w3 ⟨rfl, hA3, hN3⟩; have hK3 := hK2.trans hN3; clear hN3 hK2; have ch3 := hA3.ch; simp only [Nat.reduceAdd] at ch3; have cl3 := hA3.cl; simp only [Nat.reduceAdd] at cl3)
  go_end0
  exact ⟨rfl, hA3, hK3⟩
set_option maxRecDepth 100000 in
set_option maxHeartbeats 200000 in
theorem r_fast_80 (base b : Nat) (w : World) (S : St)  (hl : S.ops.length ≤ 800) (hA : RAt base w b S) :
    Calls Tryz.prog 45 #[.pointer (some ⟨b, 0, none⟩), .int .u8 80] w fun e w' => e = .returned (.tuple #[]) ∧ RAt base w' b ((St.fWholly 13 (St.fBoth 17)) S) ∧ Kp 50 base b w w' := by
  refine (r_fast_80_v base b w S  hl hA).mono ?_
  rintro e w' ⟨he, hA', hK'⟩
  exact ⟨he, hA'.eq (by first | rfl | simp [St.fBoth, St.fWholly]), hK'⟩
set_option maxRecDepth 100000 in
set_option maxHeartbeats 400000 in
theorem r_fast_82_v (base b : Nat) (w : World) (S : St)    (hl : S.ops.length ≤ 800) (hA : RAt base w b S) :
    Calls Tryz.prog 45 #[.pointer (some ⟨b, 0, none⟩), .int .u8 82] w fun e w' => e = .returned (.tuple #[]) ∧ RAt base w' b (((S).halves (14)).ask (19) (((S).halves (14)).l) (((S).halves (14)).h)) ∧ Kp 50 base b w w' := by
  have ch := hA.ch
  simp only [Nat.reduceAdd] at ch
  have cl := hA.cl
  simp only [Nat.reduceAdd] at cl
  have hK0 := Kp.refl 50 base b w
  go_enter Tryz.func45, Tryz.ntmps45
  go_wp2_with (go_at_call 42; refine (rhalves base b _ (S) _ (by decide) (by decide) hA).mono ?_; clear hA; rintro e1 w1 ⟨rfl, hA1, hN1⟩; have hK1 := hK0.trans hN1; clear hN1 hK0; have ch1 := hA1.ch; simp only [Nat.reduceAdd] at ch1; have cl1 := hA1.cl; simp only [Nat.reduceAdd] at cl1)
  go_still_tail 9, (by kernel_rfl)
  change wpList _ _ _ _ _ w1.drew
  have hA2 := hA1.drew
  have hK2 := hK1.drew
  clear hA1 hK1
  generalize w1.drew = w2 at hA2 hK2 ⊢
  have ch2 := hA2.ch
  simp only [Nat.reduceAdd] at ch2
  have cl2 := hA2.cl
  simp only [Nat.reduceAdd] at cl2
  go_wp2_with (go_at_call 39; refine (rask base b _ ((S).halves (14)) _ _ _ hA2 (by first | omega | (simp only [St.ops_ask, St.ops_put, St.ops_whole, St.ops_halves, St.ops_low, St.ops_keep, List.length_append, List.length_cons, List.length_nil]; omega))).mono ?_; clear hA2; rintro e3 w3 ⟨rfl, hA3, hN3⟩; have hK3 := hK2.trans hN3; clear hN3 hK2; have ch3 := hA3.ch; simp only [Nat.reduceAdd] at ch3; have cl3 := hA3.cl; simp only [Nat.reduceAdd] at cl3)
  go_end0
  exact ⟨rfl, hA3, hK3⟩
set_option maxRecDepth 100000 in
set_option maxHeartbeats 200000 in
theorem r_fast_82 (base b : Nat) (w : World) (S : St)  (hl : S.ops.length ≤ 800) (hA : RAt base w b S) :
    Calls Tryz.prog 45 #[.pointer (some ⟨b, 0, none⟩), .int .u8 82] w fun e w' => e = .returned (.tuple #[]) ∧ RAt base w' b ((St.fHalved 14 (St.fRetrig)) S) ∧ Kp 50 base b w w' := by
  refine (r_fast_82_v base b w S  hl hA).mono ?_
  rintro e w' ⟨he, hA', hK'⟩
  exact ⟨he, hA'.eq (by first | rfl | simp [St.fHalved, St.fRetrig]), hK'⟩
set_option maxRecDepth 100000 in
set_option maxHeartbeats 400000 in
theorem r_fast_84_v (base b : Nat) (w : World) (S : St)    (hl : S.ops.length ≤ 800) (hA : RAt base w b S) :
    Calls Tryz.prog 45 #[.pointer (some ⟨b, 0, none⟩), .int .u8 84] w fun e w' => e = .returned (.tuple #[]) ∧ RAt base w' b (((S).whole (15)).ask (20) (wrap64 (((S).whole (15)).h + 1)) (wrap64 (((S).whole (15)).l + 1))) ∧ Kp 50 base b w w' := by
  have ch := hA.ch
  simp only [Nat.reduceAdd] at ch
  have cl := hA.cl
  simp only [Nat.reduceAdd] at cl
  have hK0 := Kp.refl 50 base b w
  go_enter Tryz.func45, Tryz.ntmps45
  go_wp2_with (go_at_call 41; refine (rwhole base b _ (S) _ (by decide) (by decide) hA).mono ?_; clear hA; rintro e1 w1 ⟨rfl, hA1, hN1⟩; have hK1 := hK0.trans hN1; clear hN1 hK0; have ch1 := hA1.ch; simp only [Nat.reduceAdd] at ch1; have cl1 := hA1.cl; simp only [Nat.reduceAdd] at cl1)
  go_still_tail 11, (by kernel_rfl)
  change wpList _ _ _ _ _ w1.drew
  have hA2 := hA1.drew
  have hK2 := hK1.drew
  clear hA1 hK1
  generalize w1.drew = w2 at hA2 hK2 ⊢
  have ch2 := hA2.ch
  simp only [Nat.reduceAdd] at ch2
  have cl2 := hA2.cl
  simp only [Nat.reduceAdd] at cl2
  go_wp2_with (go_at_call 39; refine (rask base b _ ((S).whole (15)) _ _ _ hA2 (by first | omega | (simp only [St.ops_ask, St.ops_put, St.ops_whole, St.ops_halves, St.ops_low, St.ops_keep, List.length_append, List.length_cons, List.length_nil]; omega))).mono ?_; clear hA2; rintro e3 w3 ⟨rfl, hA3, hN3⟩; have hK3 := hK2.trans hN3; clear hN3 hK2; have ch3 := hA3.ch; simp only [Nat.reduceAdd] at ch3; have cl3 := hA3.cl; simp only [Nat.reduceAdd] at cl3)
  go_end0
  exact ⟨rfl, hA3, hK3⟩
set_option maxRecDepth 100000 in
set_option maxHeartbeats 200000 in
theorem r_fast_84 (base b : Nat) (w : World) (S : St)  (hl : S.ops.length ≤ 800) (hA : RAt base w b S) :
    Calls Tryz.prog 45 #[.pointer (some ⟨b, 0, none⟩), .int .u8 84] w fun e w' => e = .returned (.tuple #[]) ∧ RAt base w' b ((St.fWholly 15 (St.fTremor)) S) ∧ Kp 50 base b w w' := by
  refine (r_fast_84_v base b w S  hl hA).mono ?_
  rintro e w' ⟨he, hA', hK'⟩
  exact ⟨he, hA'.eq (by first | rfl | simp [St.fWholly, St.fTremor]), hK'⟩
set_option maxRecDepth 100000 in
set_option maxHeartbeats 400000 in
theorem r_fast_69_1 (base b : Nat) (w : World) (S : St) (hk : S.h = 1)   (hl : S.ops.length ≤ 800) (hA : RAt base w b S) :
    Calls Tryz.prog 45 #[.pointer (some ⟨b, 0, none⟩), .int .u8 69] w fun e w' => e = .returned (.tuple #[]) ∧ RAt base w' b (St.fByHigh tExtended ((S).low (8))) ∧ Kp 50 base b w w' := by
  have ch := hA.ch
  simp only [Nat.reduceAdd] at ch
  rw [hk] at ch
  have hK0 := Kp.refl 50 base b w
  go_enter Tryz.func45, Tryz.ntmps45
  go_wp2_with (first | (go_at_call 60; refine (rlow base b _ (S) _ (by decide) (by decide) hA).mono ?_; clear hA; rintro e1 w1 ⟨rfl, hA1, hN1⟩; have hK1 := hK0.trans hN1; clear hN1 hK0; have ch1 := hA1.ch; simp only [Nat.reduceAdd] at ch1) | (go_at_call 43; refine (r_four_69 base b _ ((S).low (8)) (by first | omega | (simp only [St.ops_ask, St.ops_put, St.ops_whole, St.ops_halves, St.ops_low, St.ops_keep, List.length_append, List.length_cons, List.length_nil]; omega)) hA1).mono ?_; clear hA1; rintro e2 w2 ⟨rfl, hA2, hN2⟩; have hK2 := hK1.trans hN2; clear hN2 hK1; have ch2 := hA2.ch; simp only [Nat.reduceAdd] at ch2))
  go_end0
  exact ⟨rfl, hA2, hK2⟩
set_option maxRecDepth 100000 in
set_option maxHeartbeats 400000 in
theorem r_fast_69_2 (base b : Nat) (w : World) (S : St) (hk : S.h = 2)   (hl : S.ops.length ≤ 800) (hA : RAt base w b S) :
    Calls Tryz.prog 45 #[.pointer (some ⟨b, 0, none⟩), .int .u8 69] w fun e w' => e = .returned (.tuple #[]) ∧ RAt base w' b (St.fByHigh tExtended ((S).low (9))) ∧ Kp 50 base b w w' := by
  have ch := hA.ch
  simp only [Nat.reduceAdd] at ch
  rw [hk] at ch
  have hK0 := Kp.refl 50 base b w
  go_enter Tryz.func45, Tryz.ntmps45
  go_wp2_with (first | (go_at_call 60; refine (rlow base b _ (S) _ (by decide) (by decide) hA).mono ?_; clear hA; rintro e1 w1 ⟨rfl, hA1, hN1⟩; have hK1 := hK0.trans hN1; clear hN1 hK0; have ch1 := hA1.ch; simp only [Nat.reduceAdd] at ch1) | (go_at_call 43; refine (r_four_69 base b _ ((S).low (9)) (by first | omega | (simp only [St.ops_ask, St.ops_put, St.ops_whole, St.ops_halves, St.ops_low, St.ops_keep, List.length_append, List.length_cons, List.length_nil]; omega)) hA1).mono ?_; clear hA1; rintro e2 w2 ⟨rfl, hA2, hN2⟩; have hK2 := hK1.trans hN2; clear hN2 hK1; have ch2 := hA2.ch; simp only [Nat.reduceAdd] at ch2))
  go_end0
  exact ⟨rfl, hA2, hK2⟩
set_option maxRecDepth 100000 in
set_option maxHeartbeats 400000 in
theorem r_fast_69_10 (base b : Nat) (w : World) (S : St) (hk : S.h = 10)   (hl : S.ops.length ≤ 800) (hA : RAt base w b S) :
    Calls Tryz.prog 45 #[.pointer (some ⟨b, 0, none⟩), .int .u8 69] w fun e w' => e = .returned (.tuple #[]) ∧ RAt base w' b (St.fByHigh tExtended ((S).low (10))) ∧ Kp 50 base b w w' := by
  have ch := hA.ch
  simp only [Nat.reduceAdd] at ch
  rw [hk] at ch
  have hK0 := Kp.refl 50 base b w
  go_enter Tryz.func45, Tryz.ntmps45
  go_wp2_with (first | (go_at_call 60; refine (rlow base b _ (S) _ (by decide) (by decide) hA).mono ?_; clear hA; rintro e1 w1 ⟨rfl, hA1, hN1⟩; have hK1 := hK0.trans hN1; clear hN1 hK0; have ch1 := hA1.ch; simp only [Nat.reduceAdd] at ch1) | (go_at_call 43; refine (r_four_69 base b _ ((S).low (10)) (by first | omega | (simp only [St.ops_ask, St.ops_put, St.ops_whole, St.ops_halves, St.ops_low, St.ops_keep, List.length_append, List.length_cons, List.length_nil]; omega)) hA1).mono ?_; clear hA1; rintro e2 w2 ⟨rfl, hA2, hN2⟩; have hK2 := hK1.trans hN2; clear hN2 hK1; have ch2 := hA2.ch; simp only [Nat.reduceAdd] at ch2))
  go_end0
  exact ⟨rfl, hA2, hK2⟩
set_option maxRecDepth 100000 in
set_option maxHeartbeats 400000 in
theorem r_fast_69_11 (base b : Nat) (w : World) (S : St) (hk : S.h = 11)   (hl : S.ops.length ≤ 800) (hA : RAt base w b S) :
    Calls Tryz.prog 45 #[.pointer (some ⟨b, 0, none⟩), .int .u8 69] w fun e w' => e = .returned (.tuple #[]) ∧ RAt base w' b (St.fByHigh tExtended ((S).low (11))) ∧ Kp 50 base b w w' := by
  have ch := hA.ch
  simp only [Nat.reduceAdd] at ch
  rw [hk] at ch
  have hK0 := Kp.refl 50 base b w
  go_enter Tryz.func45, Tryz.ntmps45
  go_wp2_with (first | (go_at_call 60; refine (rlow base b _ (S) _ (by decide) (by decide) hA).mono ?_; clear hA; rintro e1 w1 ⟨rfl, hA1, hN1⟩; have hK1 := hK0.trans hN1; clear hN1 hK0; have ch1 := hA1.ch; simp only [Nat.reduceAdd] at ch1) | (go_at_call 43; refine (r_four_69 base b _ ((S).low (11)) (by first | omega | (simp only [St.ops_ask, St.ops_put, St.ops_whole, St.ops_halves, St.ops_low, St.ops_keep, List.length_append, List.length_cons, List.length_nil]; omega)) hA1).mono ?_; clear hA1; rintro e2 w2 ⟨rfl, hA2, hN2⟩; have hK2 := hK1.trans hN2; clear hN2 hK1; have ch2 := hA2.ch; simp only [Nat.reduceAdd] at ch2))
  go_end0
  exact ⟨rfl, hA2, hK2⟩
set_option maxRecDepth 100000 in
set_option maxHeartbeats 400000 in
theorem r_fast_69_no (base b : Nat) (w : World) (S : St) (n1 : (S.h == 1) = false) (n2 : (S.h == 2) = false) (n10 : (S.h == 10) = false) (n11 : (S.h == 11) = false)   (hl : S.ops.length ≤ 800) (hA : RAt base w b S) :
    Calls Tryz.prog 45 #[.pointer (some ⟨b, 0, none⟩), .int .u8 69] w fun e w' => e = .returned (.tuple #[]) ∧ RAt base w' b (St.fByHigh tExtended (S)) ∧ Kp 50 base b w w' := by
  have ch := hA.ch
  simp only [Nat.reduceAdd] at ch
  have hK0 := Kp.refl 50 base b w
  go_enter Tryz.func45, Tryz.ntmps45
  go_wp2_with (go_at_call 43; refine (r_four_69 base b _ (S) (by first | omega | (simp only [St.ops_ask, St.ops_put, St.ops_whole, St.ops_halves, St.ops_low, St.ops_keep, List.length_append, List.length_cons, List.length_nil]; omega)) hA).mono ?_; clear hA; rintro e1 w1 ⟨rfl, hA1, hN1⟩; have hK1 := hK0.trans hN1; clear hN1 hK0; have ch1 := hA1.ch; simp only [Nat.reduceAdd] at ch1)
  go_end0
  exact ⟨rfl, hA1, hK1⟩
set_option maxRecDepth 100000 in
set_option maxHeartbeats 400000 in
theorem r_fast_69 (base b : Nat) (w : World) (S : St) (hl : S.ops.length ≤ 800) (hA : RAt base w b S) :
    Calls Tryz.prog 45 #[.pointer (some ⟨b, 0, none⟩), .int .u8 69] w fun e w' => e = .returned (.tuple #[]) ∧ RAt base w' b (St.fByHigh tFastE S) ∧ Kp 50 base b w w' := by
  by_cases e1 : S.h = 1
  · refine (r_fast_69_1 base b w S e1 hl hA).mono ?_
    rintro e w' ⟨he, hA', hK'⟩
    refine ⟨he, hA'.eq ?_, hK'⟩
    rw [byHigh_at (k := 1) (E := St.fLowHalf 4) (by rw [low_h]; exact e1) rfl, byHigh_at (k := 1) (E := St.fLowly 8 (St.fLowHalf 4)) e1 rfl]
    rfl
  by_cases e2 : S.h = 2
  · refine (r_fast_69_2 base b w S e2 hl hA).mono ?_
    rintro e w' ⟨he, hA', hK'⟩
    refine ⟨he, hA'.eq ?_, hK'⟩
    rw [byHigh_at (k := 2) (E := St.fLowHalf 5) (by rw [low_h]; exact e2) rfl, byHigh_at (k := 2) (E := St.fLowly 9 (St.fLowHalf 5)) e2 rfl]
    rfl
  by_cases e10 : S.h = 10
  · refine (r_fast_69_10 base b w S e10 hl hA).mono ?_
    rintro e w' ⟨he, hA', hK'⟩
    refine ⟨he, hA'.eq ?_, hK'⟩
    rw [byHigh_at (k := 10) (E := St.fLowHalf 13) (by rw [low_h]; exact e10) rfl, byHigh_at (k := 10) (E := St.fLowly 10 (St.fLowHalf 13)) e10 rfl]
    rfl
  by_cases e11 : S.h = 11
  · refine (r_fast_69_11 base b w S e11 hl hA).mono ?_
    rintro e w' ⟨he, hA', hK'⟩
    refine ⟨he, hA'.eq ?_, hK'⟩
    rw [byHigh_at (k := 11) (E := St.fLowHalf 14) (by rw [low_h]; exact e11) rfl, byHigh_at (k := 11) (E := St.fLowly 11 (St.fLowHalf 14)) e11 rfl]
    rfl
  refine (r_fast_69_no base b w S (by simp [e1]) (by simp [e2]) (by simp [e10]) (by simp [e11]) hl hA).mono ?_
  rintro e w' ⟨he, hA', hK'⟩
  refine ⟨he, hA'.eq (byHigh_eq ?_), hK'⟩
  simp [tFastE, tOverAll, k65, mset, e1, e2, e10, e11]
set_option maxRecDepth 100000 in
set_option maxHeartbeats 400000 in
theorem r_fast_88_1 (base b : Nat) (w : World) (S : St) (hk : S.h = 1)   (hl : S.ops.length ≤ 800) (hA : RAt base w b S) :
    Calls Tryz.prog 45 #[.pointer (some ⟨b, 0, none⟩), .int .u8 88] w fun e w' => e = .returned (.tuple #[]) ∧ RAt base w' b (((S).low (16)).ask (6) (((S).low (16)).l) (0)) ∧ Kp 50 base b w w' := by
  have ch := hA.ch
  simp only [Nat.reduceAdd] at ch
  have cl := hA.cl
  simp only [Nat.reduceAdd] at cl
  rw [hk] at ch
  have hK0 := Kp.refl 50 base b w
  go_enter Tryz.func45, Tryz.ntmps45
  go_wp2_with (first | (go_at_call 60; refine (rlow base b _ (S) _ (by decide) (by decide) hA).mono ?_; clear hA; rintro e1 w1 ⟨rfl, hA1, hN1⟩; have hK1 := hK0.trans hN1; clear hN1 hK0; have ch1 := hA1.ch; simp only [Nat.reduceAdd] at ch1; have cl1 := hA1.cl; simp only [Nat.reduceAdd] at cl1) | (go_at_call 39; refine (rask base b _ ((S).low (16)) _ _ _ hA1 (by first | omega | (simp only [St.ops_ask, St.ops_put, St.ops_whole, St.ops_halves, St.ops_low, St.ops_keep, List.length_append, List.length_cons, List.length_nil]; omega))).mono ?_; clear hA1; rintro e2 w2 ⟨rfl, hA2, hN2⟩; have hK2 := hK1.trans hN2; clear hN2 hK1; have ch2 := hA2.ch; simp only [Nat.reduceAdd] at ch2; have cl2 := hA2.cl; simp only [Nat.reduceAdd] at cl2))
  go_end0
  exact ⟨rfl, hA2, hK2⟩
set_option maxRecDepth 100000 in
set_option maxHeartbeats 400000 in
theorem r_fast_88_2 (base b : Nat) (w : World) (S : St) (hk : S.h = 2)   (hl : S.ops.length ≤ 800) (hA : RAt base w b S) :
    Calls Tryz.prog 45 #[.pointer (some ⟨b, 0, none⟩), .int .u8 88] w fun e w' => e = .returned (.tuple #[]) ∧ RAt base w' b (((S).low (17)).ask (7) (((S).low (17)).l) (0)) ∧ Kp 50 base b w w' := by
  have ch := hA.ch
  simp only [Nat.reduceAdd] at ch
  have cl := hA.cl
  simp only [Nat.reduceAdd] at cl
  rw [hk] at ch
  have hK0 := Kp.refl 50 base b w
  go_enter Tryz.func45, Tryz.ntmps45
  go_wp2_with (first | (go_at_call 60; refine (rlow base b _ (S) _ (by decide) (by decide) hA).mono ?_; clear hA; rintro e1 w1 ⟨rfl, hA1, hN1⟩; have hK1 := hK0.trans hN1; clear hN1 hK0; have ch1 := hA1.ch; simp only [Nat.reduceAdd] at ch1; have cl1 := hA1.cl; simp only [Nat.reduceAdd] at cl1) | (go_at_call 39; refine (rask base b _ ((S).low (17)) _ _ _ hA1 (by first | omega | (simp only [St.ops_ask, St.ops_put, St.ops_whole, St.ops_halves, St.ops_low, St.ops_keep, List.length_append, List.length_cons, List.length_nil]; omega))).mono ?_; clear hA1; rintro e2 w2 ⟨rfl, hA2, hN2⟩; have hK2 := hK1.trans hN2; clear hN2 hK1; have ch2 := hA2.ch; simp only [Nat.reduceAdd] at ch2; have cl2 := hA2.cl; simp only [Nat.reduceAdd] at cl2))
  go_end0
  exact ⟨rfl, hA2, hK2⟩
set_option maxRecDepth 100000 in
set_option maxHeartbeats 400000 in
theorem r_fast_88_no (base b : Nat) (w : World) (S : St) (n1 : (S.h == 1) = false) (n2 : (S.h == 2) = false)   (hl : S.ops.length ≤ 800) (hA : RAt base w b S) :
    Calls Tryz.prog 45 #[.pointer (some ⟨b, 0, none⟩), .int .u8 88] w fun e w' => e = .returned (.tuple #[]) ∧ RAt base w' b (S) ∧ Kp 50 base b w w' := by
  have ch := hA.ch
  simp only [Nat.reduceAdd] at ch
  have hK0 := Kp.refl 50 base b w
  go_enter Tryz.func45, Tryz.ntmps45
  go_wp2
  go_end0
  exact ⟨rfl, hA, hK0⟩
set_option maxRecDepth 100000 in
set_option maxHeartbeats 400000 in
theorem r_fast_88 (base b : Nat) (w : World) (S : St) (hl : S.ops.length ≤ 800) (hA : RAt base w b S) :
    Calls Tryz.prog 45 #[.pointer (some ⟨b, 0, none⟩), .int .u8 88] w fun e w' => e = .returned (.tuple #[]) ∧ RAt base w' b (St.fByHigh (mset (mset (fun _ => none) 1 (St.fExtra 16 6)) 2 (St.fExtra 17 7)) S) ∧ Kp 50 base b w w' := by
  by_cases e1 : S.h = 1
  · refine (r_fast_88_1 base b w S e1 hl hA).mono ?_
    rintro e w' ⟨he, hA', hK'⟩
    refine ⟨he, hA'.eq ?_, hK'⟩
    rw [byHigh_at (k := 1) (E := St.fExtra 16 6) e1 rfl]
    rfl
  by_cases e2 : S.h = 2
  · refine (r_fast_88_2 base b w S e2 hl hA).mono ?_
    rintro e w' ⟨he, hA', hK'⟩
    refine ⟨he, hA'.eq ?_, hK'⟩
    rw [byHigh_at (k := 2) (E := St.fExtra 17 7) e2 rfl]
    rfl
  refine (r_fast_88_no base b w S (by simp [e1]) (by simp [e2]) hl hA).mono ?_
  rintro e w' ⟨he, hA', hK'⟩
  refine ⟨he, hA'.eq (byHigh_no ?_).symm, hK'⟩
  simp [mset, e1, e2]
set_option maxRecDepth 100000 in
set_option maxHeartbeats 200000 in
theorem r_fast (base b : Nat) (w : World) (S : St) (c : Int) (F : St → St) (hc : c = 48 ∨ c = 49 ∨ c = 50 ∨ c = 51 ∨ c = 52 ∨ c = 53 ∨ c = 54 ∨ c = 55 ∨ c = 56 ∨ c = 57 ∨ c = 65 ∨ c = 66 ∨ c = 67 ∨ c = 68 ∨ c = 70 ∨ c = 71 ∨ c = 72 ∨ c = 75 ∨ c = 76 ∨ c = 80 ∨ c = 82 ∨ c = 84 ∨ c = 69 ∨ c = 88) (h : tFast c = some F) (hl : S.ops.length ≤ 800) (hA : RAt base w b S) :
    Calls Tryz.prog 45 #[.pointer (some ⟨b, 0, none⟩), .int .u8 c] w fun e w' => e = .returned (.tuple #[]) ∧ RAt base w' b (F S) ∧ Kp 50 base b w w' := by
  rcases hc with rfl | rfl | rfl | rfl | rfl | rfl | rfl | rfl | rfl | rfl | rfl | rfl | rfl | rfl | rfl | rfl | rfl | rfl | rfl | rfl | rfl | rfl | rfl | rfl
  · obtain rfl : (St.fUnless0 (St.fBoth 1)) = F := Option.some.inj ((show tFast 48 = some (St.fUnless0 (St.fBoth 1)) from rfl).symm.trans h)
    exact r_fast_48 base b w S hl hA
  · obtain rfl : (St.fWholly 5 (St.fParam 2)) = F := Option.some.inj ((show tFast 49 = some (St.fWholly 5 (St.fParam 2)) from rfl).symm.trans h)
    exact r_fast_49 base b w S hl hA
  · obtain rfl : (St.fWholly 6 (St.fParam 3)) = F := Option.some.inj ((show tFast 50 = some (St.fWholly 6 (St.fParam 3)) from rfl).symm.trans h)
    exact r_fast_50 base b w S hl hA
  · obtain rfl : (St.fWholly 1 (St.fParam 8)) = F := Option.some.inj ((show tFast 51 = some (St.fWholly 1 (St.fParam 8)) from rfl).symm.trans h)
    exact r_fast_51 base b w S hl hA
  · obtain rfl : (St.fHalved 2 (St.fBoth 9)) = F := Option.some.inj ((show tFast 52 = some (St.fHalved 2 (St.fBoth 9)) from rfl).symm.trans h)
    exact r_fast_52 base b w S hl hA
  · obtain rfl : (St.fWholly 7 (St.fFive)) = F := Option.some.inj ((show tFast 53 = some (St.fWholly 7 (St.fFive)) from rfl).symm.trans h)
    exact r_fast_53 base b w S hl hA
  · obtain rfl : (St.fWholly 7 (St.fSix)) = F := Option.some.inj ((show tFast 54 = some (St.fWholly 7 (St.fSix)) from rfl).symm.trans h)
    exact r_fast_54 base b w S hl hA
  · obtain rfl : (St.fHalved 3 (St.fBoth 11)) = F := Option.some.inj ((show tFast 55 = some (St.fHalved 3 (St.fBoth 11)) from rfl).symm.trans h)
    exact r_fast_55 base b w S hl hA
  · obtain rfl : (St.fPan) = F := Option.some.inj ((show tFast 56 = some (St.fPan) from rfl).symm.trans h)
    exact r_fast_56 base b w S hl hA
  · obtain rfl : (St.fWholly 4 (St.fOffset)) = F := Option.some.inj ((show tFast 57 = some (St.fWholly 4 (St.fOffset)) from rfl).symm.trans h)
    exact r_fast_57 base b w S hl hA
  · obtain rfl : (St.fWholly 7 (St.fBoth 12)) = F := Option.some.inj ((show tFast 65 = some (St.fWholly 7 (St.fBoth 12)) from rfl).symm.trans h)
    exact r_fast_65 base b w S hl hA
  · obtain rfl : (St.fParam 32) = F := Option.some.inj ((show tFast 66 = some (St.fParam 32) from rfl).symm.trans h)
    exact r_fast_66 base b w S hl hA
  · obtain rfl : (St.fVolume) = F := Option.some.inj ((show tFast 67 = some (St.fVolume) from rfl).symm.trans h)
    exact r_fast_67 base b w S hl hA
  · obtain rfl : (St.fDecimal) = F := Option.some.inj ((show tFast 68 = some (St.fDecimal) from rfl).symm.trans h)
    exact r_fast_68 base b w S hl hA
  · obtain rfl : (St.fSpeedOrTempo) = F := Option.some.inj ((show tFast 70 = some (St.fSpeedOrTempo) from rfl).symm.trans h)
    exact r_fast_70 base b w S hl hA
  · obtain rfl : (St.fDoubled 28 64) = F := Option.some.inj ((show tFast 71 = some (St.fDoubled 28 64) from rfl).symm.trans h)
    exact r_fast_71 base b w S hl hA
  · obtain rfl : (St.fWholly 12 (St.fBoth 29)) = F := Option.some.inj ((show tFast 72 = some (St.fWholly 12 (St.fBoth 29)) from rfl).symm.trans h)
    exact r_fast_72 base b w S hl hA
  · obtain rfl : (St.fParam 23) = F := Option.some.inj ((show tFast 75 = some (St.fParam 23) from rfl).symm.trans h)
    exact r_fast_75 base b w S hl hA
  · obtain rfl : (St.fParam 39) = F := Option.some.inj ((show tFast 76 = some (St.fParam 39) from rfl).symm.trans h)
    exact r_fast_76 base b w S hl hA
  · obtain rfl : (St.fWholly 13 (St.fBoth 17)) = F := Option.some.inj ((show tFast 80 = some (St.fWholly 13 (St.fBoth 17)) from rfl).symm.trans h)
    exact r_fast_80 base b w S hl hA
  · obtain rfl : (St.fHalved 14 (St.fRetrig)) = F := Option.some.inj ((show tFast 82 = some (St.fHalved 14 (St.fRetrig)) from rfl).symm.trans h)
    exact r_fast_82 base b w S hl hA
  · obtain rfl : (St.fWholly 15 (St.fTremor)) = F := Option.some.inj ((show tFast 84 = some (St.fWholly 15 (St.fTremor)) from rfl).symm.trans h)
    exact r_fast_84 base b w S hl hA
  · obtain rfl : (St.fByHigh tFastE) = F := Option.some.inj ((show tFast 69 = some (St.fByHigh tFastE) from rfl).symm.trans h)
    exact r_fast_69 base b w S hl hA
  · obtain rfl : (St.fByHigh (mset (mset (fun _ => none) 1 (St.fExtra 16 6)) 2 (St.fExtra 17 7))) = F := Option.some.inj ((show tFast 88 = some (St.fByHigh (mset (mset (fun _ => none) 1 (St.fExtra 16 6)) 2 (St.fExtra 17 7))) from rfl).symm.trans h)
    exact r_fast_88 base b w S hl hA
set_option maxRecDepth 100000 in
set_option maxHeartbeats 400000 in
theorem r_chip_48_v (base b : Nat) (w : World) (S : St)    (hl : S.ops.length ≤ 800) (hA : RAt base w b S) :
    Calls Tryz.prog 48 #[.pointer (some ⟨b, 0, none⟩), .int .u8 48] w fun e w' => e = .returned (.tuple #[]) ∧ RAt base w' b ((St.fUnless0 (St.fBoth 1)) (S)) ∧ Kp 50 base b w w' := by
  have hK0 := Kp.refl 50 base b w
  go_enter Tryz.func48, Tryz.ntmps48
  go_wp2_with (go_at_call 43; refine (r_four_48 base b _ (S) (by first | omega | (simp only [St.ops_ask, St.ops_put, St.ops_whole, St.ops_halves, St.ops_low, St.ops_keep, List.length_append, List.length_cons, List.length_nil]; omega)) hA).mono ?_; clear hA; rintro e1 w1 ⟨rfl, hA1, hN1⟩; have hK1 := hK0.trans hN1; clear hN1 hK0)
  go_end0
  exact ⟨rfl, hA1, hK1⟩
set_option maxRecDepth 100000 in
set_option maxHeartbeats 200000 in
theorem r_chip_48 (base b : Nat) (w : World) (S : St)  (hl : S.ops.length ≤ 800) (hA : RAt base w b S) :
    Calls Tryz.prog 48 #[.pointer (some ⟨b, 0, none⟩), .int .u8 48] w fun e w' => e = .returned (.tuple #[]) ∧ RAt base w' b ((St.fUnless0 (St.fBoth 1)) S) ∧ Kp 50 base b w w' := by
  refine (r_chip_48_v base b w S  hl hA).mono ?_
  rintro e w' ⟨he, hA', hK'⟩
  exact ⟨he, hA'.eq (by first | rfl | simp [St.fBoth, St.fUnless0]), hK'⟩
set_option maxRecDepth 100000 in
set_option maxHeartbeats 400000 in
theorem r_chip_66_v (base b : Nat) (w : World) (S : St)    (hl : S.ops.length ≤ 800) (hA : RAt base w b S) :
    Calls Tryz.prog 48 #[.pointer (some ⟨b, 0, none⟩), .int .u8 66] w fun e w' => e = .returned (.tuple #[]) ∧ RAt base w' b ((St.fParam 32) (S)) ∧ Kp 50 base b w w' := by
  have hK0 := Kp.refl 50 base b w
  go_enter Tryz.func48, Tryz.ntmps48
  go_wp2_with (go_at_call 43; refine (r_four_66 base b _ (S) (by first | omega | (simp only [St.ops_ask, St.ops_put, St.ops_whole, St.ops_halves, St.ops_low, St.ops_keep, List.length_append, List.length_cons, List.length_nil]; omega)) hA).mono ?_; clear hA; rintro e1 w1 ⟨rfl, hA1, hN1⟩; have hK1 := hK0.trans hN1; clear hN1 hK0)
  go_end0
  exact ⟨rfl, hA1, hK1⟩
set_option maxRecDepth 100000 in
set_option maxHeartbeats 200000 in
theorem r_chip_66 (base b : Nat) (w : World) (S : St)  (hl : S.ops.length ≤ 800) (hA : RAt base w b S) :
    Calls Tryz.prog 48 #[.pointer (some ⟨b, 0, none⟩), .int .u8 66] w fun e w' => e = .returned (.tuple #[]) ∧ RAt base w' b ((St.fParam 32) S) ∧ Kp 50 base b w w' := by
  refine (r_chip_66_v base b w S  hl hA).mono ?_
  rintro e w' ⟨he, hA', hK'⟩
  exact ⟨he, hA'.eq (by first | rfl | simp [St.fParam]), hK'⟩
set_option maxRecDepth 100000 in
set_option maxHeartbeats 400000 in
theorem r_chip_67_v (base b : Nat) (w : World) (S : St)    (hl : S.ops.length ≤ 800) (hA : RAt base w b S) :
    Calls Tryz.prog 48 #[.pointer (some ⟨b, 0, none⟩), .int .u8 67] w fun e w' => e = .returned (.tuple #[]) ∧ RAt base w' b ((St.fVolume) (S)) ∧ Kp 50 base b w w' := by
  have hK0 := Kp.refl 50 base b w
  go_enter Tryz.func48, Tryz.ntmps48
  go_wp2_with (go_at_call 43; refine (r_four_67 base b _ (S) (by first | omega | (simp only [St.ops_ask, St.ops_put, St.ops_whole, St.ops_halves, St.ops_low, St.ops_keep, List.length_append, List.length_cons, List.length_nil]; omega)) hA).mono ?_; clear hA; rintro e1 w1 ⟨rfl, hA1, hN1⟩; have hK1 := hK0.trans hN1; clear hN1 hK0)
  go_end0
  exact ⟨rfl, hA1, hK1⟩
set_option maxRecDepth 100000 in
set_option maxHeartbeats 200000 in
theorem r_chip_67 (base b : Nat) (w : World) (S : St)  (hl : S.ops.length ≤ 800) (hA : RAt base w b S) :
    Calls Tryz.prog 48 #[.pointer (some ⟨b, 0, none⟩), .int .u8 67] w fun e w' => e = .returned (.tuple #[]) ∧ RAt base w' b ((St.fVolume) S) ∧ Kp 50 base b w w' := by
  refine (r_chip_67_v base b w S  hl hA).mono ?_
  rintro e w' ⟨he, hA', hK'⟩
  exact ⟨he, hA'.eq (by first | rfl | simp [St.fVolume]), hK'⟩
set_option maxRecDepth 100000 in
set_option maxHeartbeats 400000 in
theorem r_chip_49_v (base b : Nat) (w : World) (S : St)    (hl : S.ops.length ≤ 800) (hA : RAt base w b S) :
    Calls Tryz.prog 48 #[.pointer (some ⟨b, 0, none⟩), .int .u8 49] w fun e w' => e = .returned (.tuple #[]) ∧ RAt base w' b (((S).whole (5)).ask (2) (((S).whole (5)).p) (0)) ∧ Kp 50 base b w w' := by
  have cp := hA.cp
  have hK0 := Kp.refl 50 base b w
  go_enter Tryz.func48, Tryz.ntmps48
  go_wp2_with (first | (go_at_call 41; refine (rwhole base b _ (S) _ (by decide) (by decide) hA).mono ?_; clear hA; rintro e1 w1 ⟨rfl, hA1, hN1⟩; have hK1 := hK0.trans hN1; clear hN1 hK0; have cp1 := hA1.cp) | (go_at_call 39; refine (rask base b _ ((S).whole (5)) _ _ _ hA1 (by first | omega | (simp only [St.ops_ask, St.ops_put, St.ops_whole, St.ops_halves, St.ops_low, St.ops_keep, List.length_append, List.length_cons, List.length_nil]; omega))).mono ?_; clear hA1; rintro e2 w2 ⟨rfl, hA2, hN2⟩; have hK2 := hK1.trans hN2; clear hN2 hK1; have cp2 := hA2.cp))
  go_end0
  exact ⟨rfl, hA2, hK2⟩
set_option maxRecDepth 100000 in
set_option maxHeartbeats 200000 in
theorem r_chip_49 (base b : Nat) (w : World) (S : St)  (hl : S.ops.length ≤ 800) (hA : RAt base w b S) :
    Calls Tryz.prog 48 #[.pointer (some ⟨b, 0, none⟩), .int .u8 49] w fun e w' => e = .returned (.tuple #[]) ∧ RAt base w' b ((St.fWholly 5 (St.fParam 2)) S) ∧ Kp 50 base b w w' := by
  refine (r_chip_49_v base b w S  hl hA).mono ?_
  rintro e w' ⟨he, hA', hK'⟩
  exact ⟨he, hA'.eq (by first | rfl | simp [St.fParam, St.fWholly]), hK'⟩
set_option maxRecDepth 100000 in
set_option maxHeartbeats 400000 in
theorem r_chip_50_v (base b : Nat) (w : World) (S : St)    (hl : S.ops.length ≤ 800) (hA : RAt base w b S) :
    Calls Tryz.prog 48 #[.pointer (some ⟨b, 0, none⟩), .int .u8 50] w fun e w' => e = .returned (.tuple #[]) ∧ RAt base w' b (((S).whole (6)).ask (3) (((S).whole (6)).p) (0)) ∧ Kp 50 base b w w' := by
  have cp := hA.cp
  have hK0 := Kp.refl 50 base b w
  go_enter Tryz.func48, Tryz.ntmps48
  go_wp2_with (first | (go_at_call 41; refine (rwhole base b _ (S) _ (by decide) (by decide) hA).mono ?_; clear hA; rintro e1 w1 ⟨rfl, hA1, hN1⟩; have hK1 := hK0.trans hN1; clear hN1 hK0; have cp1 := hA1.cp) | (go_at_call 39; refine (rask base b _ ((S).whole (6)) _ _ _ hA1 (by first | omega | (simp only [St.ops_ask, St.ops_put, St.ops_whole, St.ops_halves, St.ops_low, St.ops_keep, List.length_append, List.length_cons, List.length_nil]; omega))).mono ?_; clear hA1; rintro e2 w2 ⟨rfl, hA2, hN2⟩; have hK2 := hK1.trans hN2; clear hN2 hK1; have cp2 := hA2.cp))
  go_end0
  exact ⟨rfl, hA2, hK2⟩
set_option maxRecDepth 100000 in
set_option maxHeartbeats 200000 in
theorem r_chip_50 (base b : Nat) (w : World) (S : St)  (hl : S.ops.length ≤ 800) (hA : RAt base w b S) :
    Calls Tryz.prog 48 #[.pointer (some ⟨b, 0, none⟩), .int .u8 50] w fun e w' => e = .returned (.tuple #[]) ∧ RAt base w' b ((St.fWholly 6 (St.fParam 3)) S) ∧ Kp 50 base b w w' := by
  refine (r_chip_50_v base b w S  hl hA).mono ?_
  rintro e w' ⟨he, hA', hK'⟩
  exact ⟨he, hA'.eq (by first | rfl | simp [St.fParam, St.fWholly]), hK'⟩
set_option maxRecDepth 100000 in
set_option maxHeartbeats 400000 in
theorem r_chip_51_v (base b : Nat) (w : World) (S : St)    (hl : S.ops.length ≤ 800) (hA : RAt base w b S) :
    Calls Tryz.prog 48 #[.pointer (some ⟨b, 0, none⟩), .int .u8 51] w fun e w' => e = .returned (.tuple #[]) ∧ RAt base w' b (((S).whole (1)).ask (8) (((S).whole (1)).p) (0)) ∧ Kp 50 base b w w' := by
  have cp := hA.cp
  have hK0 := Kp.refl 50 base b w
  go_enter Tryz.func48, Tryz.ntmps48
  go_wp2_with (first | (go_at_call 41; refine (rwhole base b _ (S) _ (by decide) (by decide) hA).mono ?_; clear hA; rintro e1 w1 ⟨rfl, hA1, hN1⟩; have hK1 := hK0.trans hN1; clear hN1 hK0; have cp1 := hA1.cp) | (go_at_call 39; refine (rask base b _ ((S).whole (1)) _ _ _ hA1 (by first | omega | (simp only [St.ops_ask, St.ops_put, St.ops_whole, St.ops_halves, St.ops_low, St.ops_keep, List.length_append, List.length_cons, List.length_nil]; omega))).mono ?_; clear hA1; rintro e2 w2 ⟨rfl, hA2, hN2⟩; have hK2 := hK1.trans hN2; clear hN2 hK1; have cp2 := hA2.cp))
  go_end0
  exact ⟨rfl, hA2, hK2⟩
set_option maxRecDepth 100000 in
set_option maxHeartbeats 200000 in
theorem r_chip_51 (base b : Nat) (w : World) (S : St)  (hl : S.ops.length ≤ 800) (hA : RAt base w b S) :
    Calls Tryz.prog 48 #[.pointer (some ⟨b, 0, none⟩), .int .u8 51] w fun e w' => e = .returned (.tuple #[]) ∧ RAt base w' b ((St.fWholly 1 (St.fParam 8)) S) ∧ Kp 50 base b w w' := by
  refine (r_chip_51_v base b w S  hl hA).mono ?_
  rintro e w' ⟨he, hA', hK'⟩
  exact ⟨he, hA'.eq (by first | rfl | simp [St.fParam, St.fWholly]), hK'⟩
set_option maxRecDepth 100000 in
set_option maxHeartbeats 400000 in
theorem r_chip_52_v (base b : Nat) (w : World) (S : St)    (hl : S.ops.length ≤ 800) (hA : RAt base w b S) :
    Calls Tryz.prog 48 #[.pointer (some ⟨b, 0, none⟩), .int .u8 52] w fun e w' => e = .returned (.tuple #[]) ∧ RAt base w' b (((S).halves (2)).ask (9) (((S).halves (2)).h) (((S).halves (2)).l)) ∧ Kp 50 base b w w' := by
  have ch := hA.ch
  simp only [Nat.reduceAdd] at ch
  have cl := hA.cl
  simp only [Nat.reduceAdd] at cl
  have hK0 := Kp.refl 50 base b w
  go_enter Tryz.func48, Tryz.ntmps48
  go_wp2_with (go_at_call 42; refine (rhalves base b _ (S) _ (by decide) (by decide) hA).mono ?_; clear hA; rintro e1 w1 ⟨rfl, hA1, hN1⟩; have hK1 := hK0.trans hN1; clear hN1 hK0; have ch1 := hA1.ch; simp only [Nat.reduceAdd] at ch1; have cl1 := hA1.cl; simp only [Nat.reduceAdd] at cl1)
  go_still_tail 9, (by kernel_rfl)
  change wpList _ _ _ _ _ w1.drew
  have hA2 := hA1.drew
  have hK2 := hK1.drew
  clear hA1 hK1
  generalize w1.drew = w2 at hA2 hK2 ⊢
  have ch2 := hA2.ch
  simp only [Nat.reduceAdd] at ch2
  have cl2 := hA2.cl
  simp only [Nat.reduceAdd] at cl2
  go_wp2_with (go_at_call 39; refine (rask base b _ ((S).halves (2)) _ _ _ hA2 (by first | omega | (simp only [St.ops_ask, St.ops_put, St.ops_whole, St.ops_halves, St.ops_low, St.ops_keep, List.length_append, List.length_cons, List.length_nil]; omega))).mono ?_; clear hA2; rintro e3 w3 ⟨rfl, hA3, hN3⟩; have hK3 := hK2.trans hN3; clear hN3 hK2; have ch3 := hA3.ch; simp only [Nat.reduceAdd] at ch3; have cl3 := hA3.cl; simp only [Nat.reduceAdd] at cl3)
  go_end0
  exact ⟨rfl, hA3, hK3⟩
set_option maxRecDepth 100000 in
set_option maxHeartbeats 200000 in
theorem r_chip_52 (base b : Nat) (w : World) (S : St)  (hl : S.ops.length ≤ 800) (hA : RAt base w b S) :
    Calls Tryz.prog 48 #[.pointer (some ⟨b, 0, none⟩), .int .u8 52] w fun e w' => e = .returned (.tuple #[]) ∧ RAt base w' b ((St.fHalved 2 (St.fBoth 9)) S) ∧ Kp 50 base b w w' := by
  refine (r_chip_52_v base b w S  hl hA).mono ?_
  rintro e w' ⟨he, hA', hK'⟩
  exact ⟨he, hA'.eq (by first | rfl | simp [St.fBoth, St.fHalved]), hK'⟩
set_option maxRecDepth 100000 in
set_option maxHeartbeats 400000 in
theorem r_chip_65_v (base b : Nat) (w : World) (S : St)    (hl : S.ops.length ≤ 800) (hA : RAt base w b S) :
    Calls Tryz.prog 48 #[.pointer (some ⟨b, 0, none⟩), .int .u8 65] w fun e w' => e = .returned (.tuple #[]) ∧ RAt base w' b (((S).whole (7)).ask (12) (((S).whole (7)).h) (((S).whole (7)).l)) ∧ Kp 50 base b w w' := by
  have ch := hA.ch
  simp only [Nat.reduceAdd] at ch
  have cl := hA.cl
  simp only [Nat.reduceAdd] at cl
  have hK0 := Kp.refl 50 base b w
  go_enter Tryz.func48, Tryz.ntmps48
  go_wp2_with (go_at_call 41; refine (rwhole base b _ (S) _ (by decide) (by decide) hA).mono ?_; clear hA; rintro e1 w1 ⟨rfl, hA1, hN1⟩; have hK1 := hK0.trans hN1; clear hN1 hK0; have ch1 := hA1.ch; simp only [Nat.reduceAdd] at ch1; have cl1 := hA1.cl; simp only [Nat.reduceAdd] at cl1)
  go_still_tail 9, (by kernel_rfl)
  change wpList _ _ _ _ _ w1.drew
  have hA2 := hA1.drew
  have hK2 := hK1.drew
  clear hA1 hK1
  generalize w1.drew = w2 at hA2 hK2 ⊢
  have ch2 := hA2.ch
  simp only [Nat.reduceAdd] at ch2
  have cl2 := hA2.cl
  simp only [Nat.reduceAdd] at cl2
  go_wp2_with (go_at_call 39; refine (rask base b _ ((S).whole (7)) _ _ _ hA2 (by first | omega | (simp only [St.ops_ask, St.ops_put, St.ops_whole, St.ops_halves, St.ops_low, St.ops_keep, List.length_append, List.length_cons, List.length_nil]; omega))).mono ?_; clear hA2; rintro e3 w3 ⟨rfl, hA3, hN3⟩; have hK3 := hK2.trans hN3; clear hN3 hK2; have ch3 := hA3.ch; simp only [Nat.reduceAdd] at ch3; have cl3 := hA3.cl; simp only [Nat.reduceAdd] at cl3)
  go_end0
  exact ⟨rfl, hA3, hK3⟩
set_option maxRecDepth 100000 in
set_option maxHeartbeats 200000 in
theorem r_chip_65 (base b : Nat) (w : World) (S : St)  (hl : S.ops.length ≤ 800) (hA : RAt base w b S) :
    Calls Tryz.prog 48 #[.pointer (some ⟨b, 0, none⟩), .int .u8 65] w fun e w' => e = .returned (.tuple #[]) ∧ RAt base w' b ((St.fWholly 7 (St.fBoth 12)) S) ∧ Kp 50 base b w w' := by
  refine (r_chip_65_v base b w S  hl hA).mono ?_
  rintro e w' ⟨he, hA', hK'⟩
  exact ⟨he, hA'.eq (by first | rfl | simp [St.fBoth, St.fWholly]), hK'⟩
set_option maxRecDepth 100000 in
set_option maxHeartbeats 400000 in
theorem r_chip_68_v (base b : Nat) (w : World) (S : St)    (hl : S.ops.length ≤ 800) (hA : RAt base w b S) :
    Calls Tryz.prog 48 #[.pointer (some ⟨b, 0, none⟩), .int .u8 68] w fun e w' => e = .returned (.tuple #[]) ∧ RAt base w' b ((S).ask (33) ((S).p) (0)) ∧ Kp 50 base b w w' := by
  have cp := hA.cp
  have hK0 := Kp.refl 50 base b w
  go_enter Tryz.func48, Tryz.ntmps48
  go_wp2_with (go_at_call 39; refine (rask base b _ (S) _ _ _ hA (by first | omega | (simp only [St.ops_ask, St.ops_put, St.ops_whole, St.ops_halves, St.ops_low, St.ops_keep, List.length_append, List.length_cons, List.length_nil]; omega))).mono ?_; clear hA; rintro e1 w1 ⟨rfl, hA1, hN1⟩; have hK1 := hK0.trans hN1; clear hN1 hK0; have cp1 := hA1.cp)
  go_end0
  exact ⟨rfl, hA1, hK1⟩
set_option maxRecDepth 100000 in
set_option maxHeartbeats 200000 in
theorem r_chip_68 (base b : Nat) (w : World) (S : St)  (hl : S.ops.length ≤ 800) (hA : RAt base w b S) :
    Calls Tryz.prog 48 #[.pointer (some ⟨b, 0, none⟩), .int .u8 68] w fun e w' => e = .returned (.tuple #[]) ∧ RAt base w' b ((St.fParam 33) S) ∧ Kp 50 base b w w' := by
  refine (r_chip_68_v base b w S  hl hA).mono ?_
  rintro e w' ⟨he, hA', hK'⟩
  exact ⟨he, hA'.eq (by first | rfl | simp [St.fParam]), hK'⟩
set_option maxRecDepth 100000 in
set_option maxHeartbeats 400000 in
theorem r_chip_70_v (base b : Nat) (w : World) (S : St)    (hl : S.ops.length ≤ 800) (hA : RAt base w b S) :
    Calls Tryz.prog 48 #[.pointer (some ⟨b, 0, none⟩), .int .u8 70] w fun e w' => e = .returned (.tuple #[]) ∧ RAt base w' b (St.fUnless0 (St.fParam 36) (S)) ∧ Kp 50 base b w w' := by
  have hK0 := Kp.refl 50 base b w
  go_enter Tryz.func48, Tryz.ntmps48
  go_wp2_with (go_at_call 56; refine (r_speed base b _ (S) (by first | omega | (simp only [St.ops_ask, St.ops_put, St.ops_whole, St.ops_halves, St.ops_low, St.ops_keep, List.length_append, List.length_cons, List.length_nil]; omega)) hA).mono ?_; clear hA; rintro e1 w1 ⟨rfl, hA1, hN1⟩; have hK1 := hK0.trans hN1; clear hN1 hK0)
  go_end0
  exact ⟨rfl, hA1, hK1⟩
set_option maxRecDepth 100000 in
set_option maxHeartbeats 200000 in
theorem r_chip_70 (base b : Nat) (w : World) (S : St)  (hl : S.ops.length ≤ 800) (hA : RAt base w b S) :
    Calls Tryz.prog 48 #[.pointer (some ⟨b, 0, none⟩), .int .u8 70] w fun e w' => e = .returned (.tuple #[]) ∧ RAt base w' b ((St.fUnless0 (St.fParam 36)) S) ∧ Kp 50 base b w w' := by
  refine (r_chip_70_v base b w S  hl hA).mono ?_
  rintro e w' ⟨he, hA', hK'⟩
  exact ⟨he, hA'.eq (by first | rfl | simp [St.fParam, St.fUnless0]), hK'⟩
set_option maxRecDepth 100000 in
set_option maxHeartbeats 400000 in
theorem r_chip_78_v (base b : Nat) (w : World) (S : St)    (hl : S.ops.length ≤ 800) (hA : RAt base w b S) :
    Calls Tryz.prog 48 #[.pointer (some ⟨b, 0, none⟩), .int .u8 78] w fun e w' => e = .returned (.tuple #[]) ∧ RAt base w' b ((S).ask (47) ((S).p.tmod 32) (0)) ∧ Kp 50 base b w w' := by
  have cp := hA.cp
  have hK0 := Kp.refl 50 base b w
  go_enter Tryz.func48, Tryz.ntmps48
  go_wp2_with (go_at_call 39; refine (rask base b _ (S) _ _ _ hA (by first | omega | (simp only [St.ops_ask, St.ops_put, St.ops_whole, St.ops_halves, St.ops_low, St.ops_keep, List.length_append, List.length_cons, List.length_nil]; omega))).mono ?_; clear hA; rintro e1 w1 ⟨rfl, hA1, hN1⟩; have hK1 := hK0.trans hN1; clear hN1 hK0; have cp1 := hA1.cp)
  go_end0
  exact ⟨rfl, hA1, hK1⟩
set_option maxRecDepth 100000 in
set_option maxHeartbeats 200000 in
theorem r_chip_78 (base b : Nat) (w : World) (S : St)  (hl : S.ops.length ≤ 800) (hA : RAt base w b S) :
    Calls Tryz.prog 48 #[.pointer (some ⟨b, 0, none⟩), .int .u8 78] w fun e w' => e = .returned (.tuple #[]) ∧ RAt base w' b ((St.fNoise) S) ∧ Kp 50 base b w w' := by
  refine (r_chip_78_v base b w S  hl hA).mono ?_
  rintro e w' ⟨he, hA', hK'⟩
  exact ⟨he, hA'.eq (by first | rfl | simp [St.fNoise]), hK'⟩
set_option maxRecDepth 100000 in
set_option maxHeartbeats 400000 in
theorem r_chip_83_v (base b : Nat) (w : World) (S : St)    (hl : S.ops.length ≤ 800) (hA : RAt base w b S) :
    Calls Tryz.prog 48 #[.pointer (some ⟨b, 0, none⟩), .int .u8 83] w fun e w' => e = .returned (.tuple #[]) ∧ RAt base w' b ((S).ask (48) ((S).p.tmod 16) (0)) ∧ Kp 50 base b w w' := by
  have cp := hA.cp
  have hK0 := Kp.refl 50 base b w
  go_enter Tryz.func48, Tryz.ntmps48
  go_wp2_with (go_at_call 39; refine (rask base b _ (S) _ _ _ hA (by first | omega | (simp only [St.ops_ask, St.ops_put, St.ops_whole, St.ops_halves, St.ops_low, St.ops_keep, List.length_append, List.length_cons, List.length_nil]; omega))).mono ?_; clear hA; rintro e1 w1 ⟨rfl, hA1, hN1⟩; have hK1 := hK0.trans hN1; clear hN1 hK0; have cp1 := hA1.cp)
  go_end0
  exact ⟨rfl, hA1, hK1⟩
set_option maxRecDepth 100000 in
set_option maxHeartbeats 200000 in
theorem r_chip_83 (base b : Nat) (w : World) (S : St)  (hl : S.ops.length ≤ 800) (hA : RAt base w b S) :
    Calls Tryz.prog 48 #[.pointer (some ⟨b, 0, none⟩), .int .u8 83] w fun e w' => e = .returned (.tuple #[]) ∧ RAt base w' b ((St.fShape) S) ∧ Kp 50 base b w w' := by
  refine (r_chip_83_v base b w S  hl hA).mono ?_
  rintro e w' ⟨he, hA', hK'⟩
  exact ⟨he, hA'.eq (by first | rfl | simp [St.fShape]), hK'⟩
set_option maxRecDepth 100000 in
set_option maxHeartbeats 400000 in
theorem r_chip_69_a (base b : Nat) (w : World) (S : St)   (t0 : (S.h == 6) = true) (hl : S.ops.length ≤ 800) (hA : RAt base w b S) :
    Calls Tryz.prog 48 #[.pointer (some ⟨b, 0, none⟩), .int .u8 69] w fun e w' => e = .returned (.tuple #[]) ∧ RAt base w' b (St.fByHigh tExtended (S)) ∧ Kp 50 base b w w' := by
  have ch := hA.ch
  simp only [Nat.reduceAdd] at ch
  have hK0 := Kp.refl 50 base b w
  go_enter Tryz.func48, Tryz.ntmps48
  go_wp2_with (go_at_call 55; refine (r_extended base b _ (S) (by first | omega | (simp only [St.ops_ask, St.ops_put, St.ops_whole, St.ops_halves, St.ops_low, St.ops_keep, List.length_append, List.length_cons, List.length_nil]; omega)) hA).mono ?_; clear hA; rintro e1 w1 ⟨rfl, hA1, hN1⟩; have hK1 := hK0.trans hN1; clear hN1 hK0; have ch1 := hA1.ch; simp only [Nat.reduceAdd] at ch1)
  go_end0
  exact ⟨rfl, hA1, hK1⟩
set_option maxRecDepth 100000 in
set_option maxHeartbeats 400000 in
theorem r_chip_69_b (base b : Nat) (w : World) (S : St)   (t0 : (S.h == 6) = false) (t1 : 12 ≤ S.h) (hl : S.ops.length ≤ 800) (hA : RAt base w b S) :
    Calls Tryz.prog 48 #[.pointer (some ⟨b, 0, none⟩), .int .u8 69] w fun e w' => e = .returned (.tuple #[]) ∧ RAt base w' b (St.fByHigh tExtended (S)) ∧ Kp 50 base b w w' := by
  have ch := hA.ch
  simp only [Nat.reduceAdd] at ch
  have hK0 := Kp.refl 50 base b w
  go_enter Tryz.func48, Tryz.ntmps48
  go_wp2_with (go_at_call 55; refine (r_extended base b _ (S) (by first | omega | (simp only [St.ops_ask, St.ops_put, St.ops_whole, St.ops_halves, St.ops_low, St.ops_keep, List.length_append, List.length_cons, List.length_nil]; omega)) hA).mono ?_; clear hA; rintro e1 w1 ⟨rfl, hA1, hN1⟩; have hK1 := hK0.trans hN1; clear hN1 hK0; have ch1 := hA1.ch; simp only [Nat.reduceAdd] at ch1)
  go_end0
  exact ⟨rfl, hA1, hK1⟩
set_option maxRecDepth 100000 in
set_option maxHeartbeats 400000 in
theorem r_chip_69_c (base b : Nat) (w : World) (S : St)   (t0 : (S.h == 6) = false) (t1 : S.h < 12) (hl : S.ops.length ≤ 800) (hA : RAt base w b S) :
    Calls Tryz.prog 48 #[.pointer (some ⟨b, 0, none⟩), .int .u8 69] w fun e w' => e = .returned (.tuple #[]) ∧ RAt base w' b (S) ∧ Kp 50 base b w w' := by
  have ch := hA.ch
  simp only [Nat.reduceAdd] at ch
  have hK0 := Kp.refl 50 base b w
  go_enter Tryz.func48, Tryz.ntmps48
  go_wp2
  go_end0
  exact ⟨rfl, hA, hK0⟩
set_option maxRecDepth 100000 in
set_option maxHeartbeats 400000 in
theorem r_chip_69 (base b : Nat) (w : World) (S : St) (hl : S.ops.length ≤ 800) (hA : RAt base w b S) :
    Calls Tryz.prog 48 #[.pointer (some ⟨b, 0, none⟩), .int .u8 69] w fun e w' => e = .returned (.tuple #[]) ∧ RAt base w' b (St.fByHigh (tTimed 6) S) ∧ Kp 50 base b w w' := by
  by_cases e6 : S.h = 6
  · refine (r_chip_69_a base b w S (by simp [e6]) hl hA).mono ?_
    rintro e w' ⟨he, hA', hK'⟩
    refine ⟨he, hA'.eq (byHigh_eq ?_), hK'⟩
    simp [tExtended, mset, e6]
  by_cases e12 : 12 ≤ S.h
  · refine (r_chip_69_b base b w S (by simp [e6]) e12 hl hA).mono ?_
    rintro e w' ⟨he, hA', hK'⟩
    refine ⟨he, hA'.eq (byHigh_eq ?_), hK'⟩
    have f : ∀ k : Int, k < 12 → ¬ S.h = k := fun k hk e => by omega
    unfold tExtended
    rw [mset_ne (f 11 (by omega)), mset_ne (f 10 (by omega)), mset_ne (f 9 (by omega)), mset_ne (f 8 (by omega)), mset_ne (f 5 (by omega)), mset_ne (f 7 (by omega)), mset_ne (f 4 (by omega)), mset_ne (f 3 (by omega)), mset_ne (f 2 (by omega)), mset_ne (f 1 (by omega))]
  · refine (r_chip_69_c base b w S (by simp [e6]) (by omega) hl hA).mono ?_
    rintro e w' ⟨he, hA', hK'⟩
    refine ⟨he, hA'.eq (byHigh_no ?_).symm, hK'⟩
    unfold tTimed
    rw [if_neg (by omega), if_neg (by omega), if_neg (by omega), if_neg e6]
set_option maxRecDepth 100000 in
set_option maxHeartbeats 200000 in
theorem r_chip (base b : Nat) (w : World) (S : St) (c : Int) (F : St → St) (hc : c = 48 ∨ c = 66 ∨ c = 67 ∨ c = 49 ∨ c = 50 ∨ c = 51 ∨ c = 52 ∨ c = 65 ∨ c = 68 ∨ c = 70 ∨ c = 78 ∨ c = 83 ∨ c = 69) (h : tChip c = some F) (hl : S.ops.length ≤ 800) (hA : RAt base w b S) :
    Calls Tryz.prog 48 #[.pointer (some ⟨b, 0, none⟩), .int .u8 c] w fun e w' => e = .returned (.tuple #[]) ∧ RAt base w' b (F S) ∧ Kp 50 base b w w' := by
  rcases hc with rfl | rfl | rfl | rfl | rfl | rfl | rfl | rfl | rfl | rfl | rfl | rfl | rfl
  · obtain rfl : (St.fUnless0 (St.fBoth 1)) = F := Option.some.inj ((show tChip 48 = some (St.fUnless0 (St.fBoth 1)) from rfl).symm.trans h)
    exact r_chip_48 base b w S hl hA
  · obtain rfl : (St.fParam 32) = F := Option.some.inj ((show tChip 66 = some (St.fParam 32) from rfl).symm.trans h)
    exact r_chip_66 base b w S hl hA
  · obtain rfl : (St.fVolume) = F := Option.some.inj ((show tChip 67 = some (St.fVolume) from rfl).symm.trans h)
    exact r_chip_67 base b w S hl hA
  · obtain rfl : (St.fWholly 5 (St.fParam 2)) = F := Option.some.inj ((show tChip 49 = some (St.fWholly 5 (St.fParam 2)) from rfl).symm.trans h)
    exact r_chip_49 base b w S hl hA
  · obtain rfl : (St.fWholly 6 (St.fParam 3)) = F := Option.some.inj ((show tChip 50 = some (St.fWholly 6 (St.fParam 3)) from rfl).symm.trans h)
    exact r_chip_50 base b w S hl hA
  · obtain rfl : (St.fWholly 1 (St.fParam 8)) = F := Option.some.inj ((show tChip 51 = some (St.fWholly 1 (St.fParam 8)) from rfl).symm.trans h)
    exact r_chip_51 base b w S hl hA
  · obtain rfl : (St.fHalved 2 (St.fBoth 9)) = F := Option.some.inj ((show tChip 52 = some (St.fHalved 2 (St.fBoth 9)) from rfl).symm.trans h)
    exact r_chip_52 base b w S hl hA
  · obtain rfl : (St.fWholly 7 (St.fBoth 12)) = F := Option.some.inj ((show tChip 65 = some (St.fWholly 7 (St.fBoth 12)) from rfl).symm.trans h)
    exact r_chip_65 base b w S hl hA
  · obtain rfl : (St.fParam 33) = F := Option.some.inj ((show tChip 68 = some (St.fParam 33) from rfl).symm.trans h)
    exact r_chip_68 base b w S hl hA
  · obtain rfl : (St.fUnless0 (St.fParam 36)) = F := Option.some.inj ((show tChip 70 = some (St.fUnless0 (St.fParam 36)) from rfl).symm.trans h)
    exact r_chip_70 base b w S hl hA
  · obtain rfl : (St.fNoise) = F := Option.some.inj ((show tChip 78 = some (St.fNoise) from rfl).symm.trans h)
    exact r_chip_78 base b w S hl hA
  · obtain rfl : (St.fShape) = F := Option.some.inj ((show tChip 83 = some (St.fShape) from rfl).symm.trans h)
    exact r_chip_83 base b w S hl hA
  · obtain rfl : (St.fByHigh (tTimed 6)) = F := Option.some.inj ((show tChip 69 = some (St.fByHigh (tTimed 6)) from rfl).symm.trans h)
    exact r_chip_69 base b w S hl hA
def St.rCompose (c : Int) (S : St) : St := if S.p = 0 ∧ ¬ c = 51 then S else match tCompose c with | some F => F S | none => S
set_option maxRecDepth 100000 in
set_option maxHeartbeats 400000 in
theorem r_comp_48_a (base b : Nat) (w : World) (S : St)   (t0 : (S.p == 0) = false) (hl : S.ops.length ≤ 800) (hA : RAt base w b S) :
    Calls Tryz.prog 47 #[.pointer (some ⟨b, 0, none⟩), .int .u8 48] w fun e w' => e = .returned (.tuple #[]) ∧ RAt base w' b ((S).ask (2) ((S).p) (0)) ∧ Kp 50 base b w w' := by
  have cp := hA.cp
  have cp := hA.cp
  have hK0 := Kp.refl 50 base b w
  go_enter Tryz.func47, Tryz.ntmps47
  go_wp2_with (go_at_call 39; refine (rask base b _ (S) _ _ _ hA (by first | omega | (simp only [St.ops_ask, St.ops_put, St.ops_whole, St.ops_halves, St.ops_low, St.ops_keep, List.length_append, List.length_cons, List.length_nil]; omega))).mono ?_; clear hA; rintro e1 w1 ⟨rfl, hA1, hN1⟩; have hK1 := hK0.trans hN1; clear hN1 hK0; have cp1 := hA1.cp; have cp1 := hA1.cp)
  go_end0
  exact ⟨rfl, hA1, hK1⟩
set_option maxRecDepth 100000 in
set_option maxHeartbeats 400000 in
theorem r_comp_48_b (base b : Nat) (w : World) (S : St)   (t0 : (S.p == 0) = true) (hl : S.ops.length ≤ 800) (hA : RAt base w b S) :
    Calls Tryz.prog 47 #[.pointer (some ⟨b, 0, none⟩), .int .u8 48] w fun e w' => e = .returned (.tuple #[]) ∧ RAt base w' b (S) ∧ Kp 50 base b w w' := by
  have cp := hA.cp
  have hK0 := Kp.refl 50 base b w
  go_enter Tryz.func47, Tryz.ntmps47
  go_wp2
  exact bodyPost_ret (results_none Tryz.results47 _ _ _) rfl ⟨rfl, hA, hK0⟩
set_option maxRecDepth 100000 in
set_option maxHeartbeats 400000 in
theorem r_comp_49_a (base b : Nat) (w : World) (S : St)   (t0 : (S.p == 0) = false) (hl : S.ops.length ≤ 800) (hA : RAt base w b S) :
    Calls Tryz.prog 47 #[.pointer (some ⟨b, 0, none⟩), .int .u8 49] w fun e w' => e = .returned (.tuple #[]) ∧ RAt base w' b ((S).ask (3) ((S).p) (0)) ∧ Kp 50 base b w w' := by
  have cp := hA.cp
  have cp := hA.cp
  have hK0 := Kp.refl 50 base b w
  go_enter Tryz.func47, Tryz.ntmps47
  go_wp2_with (go_at_call 39; refine (rask base b _ (S) _ _ _ hA (by first | omega | (simp only [St.ops_ask, St.ops_put, St.ops_whole, St.ops_halves, St.ops_low, St.ops_keep, List.length_append, List.length_cons, List.length_nil]; omega))).mono ?_; clear hA; rintro e1 w1 ⟨rfl, hA1, hN1⟩; have hK1 := hK0.trans hN1; clear hN1 hK0; have cp1 := hA1.cp; have cp1 := hA1.cp)
  go_end0
  exact ⟨rfl, hA1, hK1⟩
set_option maxRecDepth 100000 in
set_option maxHeartbeats 400000 in
theorem r_comp_49_b (base b : Nat) (w : World) (S : St)   (t0 : (S.p == 0) = true) (hl : S.ops.length ≤ 800) (hA : RAt base w b S) :
    Calls Tryz.prog 47 #[.pointer (some ⟨b, 0, none⟩), .int .u8 49] w fun e w' => e = .returned (.tuple #[]) ∧ RAt base w' b (S) ∧ Kp 50 base b w w' := by
  have cp := hA.cp
  have hK0 := Kp.refl 50 base b w
  go_enter Tryz.func47, Tryz.ntmps47
  go_wp2
  exact bodyPost_ret (results_none Tryz.results47 _ _ _) rfl ⟨rfl, hA, hK0⟩
set_option maxRecDepth 100000 in
set_option maxHeartbeats 400000 in
theorem r_comp_50_a (base b : Nat) (w : World) (S : St)   (t0 : (S.p == 0) = false) (hl : S.ops.length ≤ 800) (hA : RAt base w b S) :
    Calls Tryz.prog 47 #[.pointer (some ⟨b, 0, none⟩), .int .u8 50] w fun e w' => e = .returned (.tuple #[]) ∧ RAt base w' b ((S).ask (8) ((S).p) (0)) ∧ Kp 50 base b w w' := by
  have cp := hA.cp
  have cp := hA.cp
  have hK0 := Kp.refl 50 base b w
  go_enter Tryz.func47, Tryz.ntmps47
  go_wp2_with (go_at_call 39; refine (rask base b _ (S) _ _ _ hA (by first | omega | (simp only [St.ops_ask, St.ops_put, St.ops_whole, St.ops_halves, St.ops_low, St.ops_keep, List.length_append, List.length_cons, List.length_nil]; omega))).mono ?_; clear hA; rintro e1 w1 ⟨rfl, hA1, hN1⟩; have hK1 := hK0.trans hN1; clear hN1 hK0; have cp1 := hA1.cp; have cp1 := hA1.cp)
  go_end0
  exact ⟨rfl, hA1, hK1⟩
set_option maxRecDepth 100000 in
set_option maxHeartbeats 400000 in
theorem r_comp_50_b (base b : Nat) (w : World) (S : St)   (t0 : (S.p == 0) = true) (hl : S.ops.length ≤ 800) (hA : RAt base w b S) :
    Calls Tryz.prog 47 #[.pointer (some ⟨b, 0, none⟩), .int .u8 50] w fun e w' => e = .returned (.tuple #[]) ∧ RAt base w' b (S) ∧ Kp 50 base b w w' := by
  have cp := hA.cp
  have hK0 := Kp.refl 50 base b w
  go_enter Tryz.func47, Tryz.ntmps47
  go_wp2
  exact bodyPost_ret (results_none Tryz.results47 _ _ _) rfl ⟨rfl, hA, hK0⟩
set_option maxRecDepth 100000 in
set_option maxHeartbeats 400000 in
theorem r_comp_52_a (base b : Nat) (w : World) (S : St)   (t0 : (S.p == 0) = false) (hl : S.ops.length ≤ 800) (hA : RAt base w b S) :
    Calls Tryz.prog 47 #[.pointer (some ⟨b, 0, none⟩), .int .u8 52] w fun e w' => e = .returned (.tuple #[]) ∧ RAt base w' b ((S).ask (9) ((S).h) ((S).l)) ∧ Kp 50 base b w w' := by
  have cp := hA.cp
  have ch := hA.ch
  simp only [Nat.reduceAdd] at ch
  have cl := hA.cl
  simp only [Nat.reduceAdd] at cl
  have hK0 := Kp.refl 50 base b w
  go_enter Tryz.func47, Tryz.ntmps47
  go_wp2_with fail
  go_still_tail 9, (by kernel_rfl)
  change wpList _ _ _ _ _ w.drew
  have hA1 := hA.drew
  have hK1 := hK0.drew
  clear hA hK0
  generalize w.drew = w1 at hA1 hK1 ⊢
  have cp1 := hA1.cp
  have ch1 := hA1.ch
  simp only [Nat.reduceAdd] at ch1
  have cl1 := hA1.cl
  simp only [Nat.reduceAdd] at cl1
  go_wp2_with (go_at_call 39; refine (rask base b _ (S) _ _ _ hA1 (by first | omega | (simp only [St.ops_ask, St.ops_put, St.ops_whole, St.ops_halves, St.ops_low, St.ops_keep, List.length_append, List.length_cons, List.length_nil]; omega))).mono ?_; clear hA1; rintro e2 w2 ⟨rfl, hA2, hN2⟩; have hK2 := hK1.trans hN2; clear hN2 hK1; have cp2 := hA2.cp; have ch2 := hA2.ch; simp only [Nat.reduceAdd] at ch2; have cl2 := hA2.cl; simp only [Nat.reduceAdd] at cl2)
  go_end0
  exact ⟨rfl, hA2, hK2⟩
set_option maxRecDepth 100000 in
set_option maxHeartbeats 400000 in
theorem r_comp_52_b (base b : Nat) (w : World) (S : St)   (t0 : (S.p == 0) = true) (hl : S.ops.length ≤ 800) (hA : RAt base w b S) :
    Calls Tryz.prog 47 #[.pointer (some ⟨b, 0, none⟩), .int .u8 52] w fun e w' => e = .returned (.tuple #[]) ∧ RAt base w' b (S) ∧ Kp 50 base b w w' := by
  have cp := hA.cp
  have hK0 := Kp.refl 50 base b w
  go_enter Tryz.func47, Tryz.ntmps47
  go_wp2
  exact bodyPost_ret (results_none Tryz.results47 _ _ _) rfl ⟨rfl, hA, hK0⟩
set_option maxRecDepth 100000 in
set_option maxHeartbeats 400000 in
theorem r_comp_53_a (base b : Nat) (w : World) (S : St)   (t0 : (S.p == 0) = false) (hl : S.ops.length ≤ 800) (hA : RAt base w b S) :
    Calls Tryz.prog 47 #[.pointer (some ⟨b, 0, none⟩), .int .u8 53] w fun e w' => e = .returned (.tuple #[]) ∧ RAt base w' b ((S).ask (36) ((S).p) (0)) ∧ Kp 50 base b w w' := by
  have cp := hA.cp
  have cp := hA.cp
  have hK0 := Kp.refl 50 base b w
  go_enter Tryz.func47, Tryz.ntmps47
  go_wp2_with (go_at_call 39; refine (rask base b _ (S) _ _ _ hA (by first | omega | (simp only [St.ops_ask, St.ops_put, St.ops_whole, St.ops_halves, St.ops_low, St.ops_keep, List.length_append, List.length_cons, List.length_nil]; omega))).mono ?_; clear hA; rintro e1 w1 ⟨rfl, hA1, hN1⟩; have hK1 := hK0.trans hN1; clear hN1 hK0; have cp1 := hA1.cp; have cp1 := hA1.cp)
  go_end0
  exact ⟨rfl, hA1, hK1⟩
set_option maxRecDepth 100000 in
set_option maxHeartbeats 400000 in
theorem r_comp_53_b (base b : Nat) (w : World) (S : St)   (t0 : (S.p == 0) = true) (hl : S.ops.length ≤ 800) (hA : RAt base w b S) :
    Calls Tryz.prog 47 #[.pointer (some ⟨b, 0, none⟩), .int .u8 53] w fun e w' => e = .returned (.tuple #[]) ∧ RAt base w' b (S) ∧ Kp 50 base b w w' := by
  have cp := hA.cp
  have hK0 := Kp.refl 50 base b w
  go_enter Tryz.func47, Tryz.ntmps47
  go_wp2
  exact bodyPost_ret (results_none Tryz.results47 _ _ _) rfl ⟨rfl, hA, hK0⟩
set_option maxRecDepth 100000 in
set_option maxHeartbeats 400000 in
theorem r_comp_51_a (base b : Nat) (w : World) (S : St)   (t0 : (S.p == 0) = false) (hl : S.ops.length ≤ 800) (hA : RAt base w b S) :
    Calls Tryz.prog 47 #[.pointer (some ⟨b, 0, none⟩), .int .u8 51] w fun e w' => e = .returned (.tuple #[]) ∧ RAt base w' b ((S).ask (4) ((S).l) (0)) ∧ Kp 50 base b w w' := by
  have cp := hA.cp
  have cl := hA.cl
  simp only [Nat.reduceAdd] at cl
  have hK0 := Kp.refl 50 base b w
  go_enter Tryz.func47, Tryz.ntmps47
  go_wp2_with (go_at_call 39; refine (rask base b _ (S) _ _ _ hA (by first | omega | (simp only [St.ops_ask, St.ops_put, St.ops_whole, St.ops_halves, St.ops_low, St.ops_keep, List.length_append, List.length_cons, List.length_nil]; omega))).mono ?_; clear hA; rintro e1 w1 ⟨rfl, hA1, hN1⟩; have hK1 := hK0.trans hN1; clear hN1 hK0; have cp1 := hA1.cp; have cl1 := hA1.cl; simp only [Nat.reduceAdd] at cl1)
  go_end0
  exact ⟨rfl, hA1, hK1⟩
set_option maxRecDepth 100000 in
set_option maxHeartbeats 400000 in
theorem r_comp_no_a (base b : Nat) (w : World) (S : St) (c : Int) (n48 : (c == 48) = false) (n49 : (c == 49) = false) (n50 : (c == 50) = false) (n51 : (c == 51) = false) (n52 : (c == 52) = false) (n53 : (c == 53) = false)  (t0 : (S.p == 0) = false) (hl : S.ops.length ≤ 800) (hA : RAt base w b S) :
    Calls Tryz.prog 47 #[.pointer (some ⟨b, 0, none⟩), .int .u8 c] w fun e w' => e = .returned (.tuple #[]) ∧ RAt base w' b (S) ∧ Kp 50 base b w w' := by
  have cp := hA.cp
  have hK0 := Kp.refl 50 base b w
  go_enter Tryz.func47, Tryz.ntmps47
  go_wp2
  go_end0
  exact ⟨rfl, hA, hK0⟩
set_option maxRecDepth 100000 in
set_option maxHeartbeats 400000 in
theorem r_comp_51_b (base b : Nat) (w : World) (S : St)   (t0 : (S.p == 0) = true) (hl : S.ops.length ≤ 800) (hA : RAt base w b S) :
    Calls Tryz.prog 47 #[.pointer (some ⟨b, 0, none⟩), .int .u8 51] w fun e w' => e = .returned (.tuple #[]) ∧ RAt base w' b ((S).ask (4) ((S).l) (0)) ∧ Kp 50 base b w w' := by
  have cp := hA.cp
  have cl := hA.cl
  simp only [Nat.reduceAdd] at cl
  have hK0 := Kp.refl 50 base b w
  go_enter Tryz.func47, Tryz.ntmps47
  go_wp2_with (go_at_call 39; refine (rask base b _ (S) _ _ _ hA (by first | omega | (simp only [St.ops_ask, St.ops_put, St.ops_whole, St.ops_halves, St.ops_low, St.ops_keep, List.length_append, List.length_cons, List.length_nil]; omega))).mono ?_; clear hA; rintro e1 w1 ⟨rfl, hA1, hN1⟩; have hK1 := hK0.trans hN1; clear hN1 hK0; have cp1 := hA1.cp; have cl1 := hA1.cl; simp only [Nat.reduceAdd] at cl1)
  go_end0
  exact ⟨rfl, hA1, hK1⟩
set_option maxRecDepth 100000 in
set_option maxHeartbeats 400000 in
theorem r_comp_no_b (base b : Nat) (w : World) (S : St) (c : Int) (n48 : (c == 48) = false) (n49 : (c == 49) = false) (n50 : (c == 50) = false) (n51 : (c == 51) = false) (n52 : (c == 52) = false) (n53 : (c == 53) = false)  (t0 : (S.p == 0) = true) (t1 : (c != 51) = true) (hl : S.ops.length ≤ 800) (hA : RAt base w b S) :
    Calls Tryz.prog 47 #[.pointer (some ⟨b, 0, none⟩), .int .u8 c] w fun e w' => e = .returned (.tuple #[]) ∧ RAt base w' b (S) ∧ Kp 50 base b w w' := by
  have cp := hA.cp
  have hK0 := Kp.refl 50 base b w
  go_enter Tryz.func47, Tryz.ntmps47
  go_wp2
  exact bodyPost_ret (results_none Tryz.results47 _ _ _) rfl ⟨rfl, hA, hK0⟩
set_option maxRecDepth 100000 in
set_option maxHeartbeats 400000 in
theorem r_compose (base b : Nat) (w : World) (S : St) (c : Int) (hl : S.ops.length ≤ 800) (hA : RAt base w b S) :
    Calls Tryz.prog 47 #[.pointer (some ⟨b, 0, none⟩), .int .u8 c] w fun e w' => e = .returned (.tuple #[]) ∧ RAt base w' b (St.rCompose c S) ∧ Kp 50 base b w w' := by
  by_cases p0 : S.p = 0
  · by_cases e48 : c = 48
    · subst e48
      refine (r_comp_48_b base b w S (by simp [p0]) hl hA).mono ?_
      rintro e w' ⟨he, hA', hK'⟩
      exact ⟨he, hA'.eq (by simp [St.rCompose, p0, tCompose, mset, St.fParam, St.fBoth, St.fLowHalf, St.fUnless0]), hK'⟩
    by_cases e49 : c = 49
    · subst e49
      refine (r_comp_49_b base b w S (by simp [p0]) hl hA).mono ?_
      rintro e w' ⟨he, hA', hK'⟩
      exact ⟨he, hA'.eq (by simp [St.rCompose, p0, tCompose, mset, St.fParam, St.fBoth, St.fLowHalf, St.fUnless0]), hK'⟩
    by_cases e50 : c = 50
    · subst e50
      refine (r_comp_50_b base b w S (by simp [p0]) hl hA).mono ?_
      rintro e w' ⟨he, hA', hK'⟩
      exact ⟨he, hA'.eq (by simp [St.rCompose, p0, tCompose, mset, St.fParam, St.fBoth, St.fLowHalf, St.fUnless0]), hK'⟩
    by_cases e51 : c = 51
    · subst e51
      refine (r_comp_51_b base b w S (by simp [p0]) hl hA).mono ?_
      rintro e w' ⟨he, hA', hK'⟩
      exact ⟨he, hA'.eq (by simp [St.rCompose, p0, tCompose, mset, St.fParam, St.fBoth, St.fLowHalf, St.fUnless0]), hK'⟩
    by_cases e52 : c = 52
    · subst e52
      refine (r_comp_52_b base b w S (by simp [p0]) hl hA).mono ?_
      rintro e w' ⟨he, hA', hK'⟩
      exact ⟨he, hA'.eq (by simp [St.rCompose, p0, tCompose, mset, St.fParam, St.fBoth, St.fLowHalf, St.fUnless0]), hK'⟩
    by_cases e53 : c = 53
    · subst e53
      refine (r_comp_53_b base b w S (by simp [p0]) hl hA).mono ?_
      rintro e w' ⟨he, hA', hK'⟩
      exact ⟨he, hA'.eq (by simp [St.rCompose, p0, tCompose, mset, St.fParam, St.fBoth, St.fLowHalf, St.fUnless0]), hK'⟩
    refine (r_comp_no_b base b w S c (by simp [e48]) (by simp [e49]) (by simp [e50]) (by simp [e51]) (by simp [e52]) (by simp [e53]) (by simp [p0]) (by simp [e51]) hl hA).mono ?_
    rintro e w' ⟨he, hA', hK'⟩
    exact ⟨he, hA'.eq (by simp [St.rCompose, p0, tCompose, mset, e48, e49, e50, e51, e52, e53]), hK'⟩
  · by_cases e48 : c = 48
    · subst e48
      refine (r_comp_48_a base b w S (by simp [p0]) hl hA).mono ?_
      rintro e w' ⟨he, hA', hK'⟩
      exact ⟨he, hA'.eq (by simp [St.rCompose, p0, tCompose, mset, St.fParam, St.fBoth, St.fLowHalf, St.fUnless0]), hK'⟩
    by_cases e49 : c = 49
    · subst e49
      refine (r_comp_49_a base b w S (by simp [p0]) hl hA).mono ?_
      rintro e w' ⟨he, hA', hK'⟩
      exact ⟨he, hA'.eq (by simp [St.rCompose, p0, tCompose, mset, St.fParam, St.fBoth, St.fLowHalf, St.fUnless0]), hK'⟩
    by_cases e50 : c = 50
    · subst e50
      refine (r_comp_50_a base b w S (by simp [p0]) hl hA).mono ?_
      rintro e w' ⟨he, hA', hK'⟩
      exact ⟨he, hA'.eq (by simp [St.rCompose, p0, tCompose, mset, St.fParam, St.fBoth, St.fLowHalf, St.fUnless0]), hK'⟩
    by_cases e51 : c = 51
    · subst e51
      refine (r_comp_51_a base b w S (by simp [p0]) hl hA).mono ?_
      rintro e w' ⟨he, hA', hK'⟩
      exact ⟨he, hA'.eq (by simp [St.rCompose, p0, tCompose, mset, St.fParam, St.fBoth, St.fLowHalf, St.fUnless0]), hK'⟩
    by_cases e52 : c = 52
    · subst e52
      refine (r_comp_52_a base b w S (by simp [p0]) hl hA).mono ?_
      rintro e w' ⟨he, hA', hK'⟩
      exact ⟨he, hA'.eq (by simp [St.rCompose, p0, tCompose, mset, St.fParam, St.fBoth, St.fLowHalf, St.fUnless0]), hK'⟩
    by_cases e53 : c = 53
    · subst e53
      refine (r_comp_53_a base b w S (by simp [p0]) hl hA).mono ?_
      rintro e w' ⟨he, hA', hK'⟩
      exact ⟨he, hA'.eq (by simp [St.rCompose, p0, tCompose, mset, St.fParam, St.fBoth, St.fLowHalf, St.fUnless0]), hK'⟩
    refine (r_comp_no_a base b w S c (by simp [e48]) (by simp [e49]) (by simp [e50]) (by simp [e51]) (by simp [e52]) (by simp [e53]) (by simp [p0]) hl hA).mono ?_
    rintro e w' ⟨he, hA', hK'⟩
    exact ⟨he, hA'.eq (by simp [St.rCompose, p0, tCompose, mset, e48, e49, e50, e51, e52, e53]), hK'⟩

end Go.Proofs.YtappnglfmidjoaaGreat.D
