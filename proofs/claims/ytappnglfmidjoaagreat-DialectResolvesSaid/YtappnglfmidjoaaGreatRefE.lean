/- The reference: impulse. -/
import Derived.Test.YtappnglfmidjoaaGreatRefD
set_option linter.unusedVariables false
set_option linter.unusedSimpArgs false
namespace Go.Proofs.YtappnglfmidjoaaGreat.D
open Go Go.RowKit
open Go.Proofs.YtappnglfmidjoaaGreat.DB
set_option maxRecDepth 100000 in
set_option maxHeartbeats 400000 in
theorem r_impulse_65_v (base b : Nat) (w : World) (S : St)    (hl : S.ops.length ≤ 800) (hA : RAt base w b S) :
    Calls Tryz.prog 46 #[.pointer (some ⟨b, 0, none⟩), .int .u8 65] w fun e w' => e = .returned (.tuple #[]) ∧ RAt base w' b (St.fUnless0 (St.fParam 36) (S)) ∧ Kp 50 base b w w' := by
  have hK0 := Kp.refl 50 base b w
  go_enter Tryz.func46, Tryz.ntmps46
  go_wp2_with (go_at_call 56; refine (r_speed base b _ (S) (by first | omega | (simp only [St.ops_ask, St.ops_put, St.ops_whole, St.ops_halves, St.ops_low, St.ops_keep, List.length_append, List.length_cons, List.length_nil]; omega)) hA).mono ?_; clear hA; rintro e1 w1 ⟨rfl, hA1, hN1⟩; have hK1 := hK0.trans hN1; clear hN1 hK0)
  go_end0
  exact ⟨rfl, hA1, hK1⟩
set_option maxRecDepth 100000 in
set_option maxHeartbeats 200000 in
theorem r_impulse_65 (base b : Nat) (w : World) (S : St)  (hl : S.ops.length ≤ 800) (hA : RAt base w b S) :
    Calls Tryz.prog 46 #[.pointer (some ⟨b, 0, none⟩), .int .u8 65] w fun e w' => e = .returned (.tuple #[]) ∧ RAt base w' b ((St.fUnless0 (St.fParam 36)) S) ∧ Kp 50 base b w w' := by
  refine (r_impulse_65_v base b w S  hl hA).mono ?_
  rintro e w' ⟨he, hA', hK'⟩
  exact ⟨he, hA'.eq (by first | rfl | simp [St.fParam, St.fUnless0]), hK'⟩
set_option maxRecDepth 100000 in
set_option maxHeartbeats 400000 in
theorem r_impulse_66_v (base b : Nat) (w : World) (S : St)    (hl : S.ops.length ≤ 800) (hA : RAt base w b S) :
    Calls Tryz.prog 46 #[.pointer (some ⟨b, 0, none⟩), .int .u8 66] w fun e w' => e = .returned (.tuple #[]) ∧ RAt base w' b ((S).ask (32) ((S).p) (0)) ∧ Kp 50 base b w w' := by
  have cp := hA.cp
  have hK0 := Kp.refl 50 base b w
  go_enter Tryz.func46, Tryz.ntmps46
  go_wp2_with (go_at_call 39; refine (rask base b _ (S) _ _ _ hA (by first | omega | (simp only [St.ops_ask, St.ops_put, St.ops_whole, St.ops_halves, St.ops_low, St.ops_keep, List.length_append, List.length_cons, List.length_nil]; omega))).mono ?_; clear hA; rintro e1 w1 ⟨rfl, hA1, hN1⟩; have hK1 := hK0.trans hN1; clear hN1 hK0; have cp1 := hA1.cp)
  go_end0
  exact ⟨rfl, hA1, hK1⟩
set_option maxRecDepth 100000 in
set_option maxHeartbeats 200000 in
theorem r_impulse_66 (base b : Nat) (w : World) (S : St)  (hl : S.ops.length ≤ 800) (hA : RAt base w b S) :
    Calls Tryz.prog 46 #[.pointer (some ⟨b, 0, none⟩), .int .u8 66] w fun e w' => e = .returned (.tuple #[]) ∧ RAt base w' b ((St.fParam 32) S) ∧ Kp 50 base b w w' := by
  refine (r_impulse_66_v base b w S  hl hA).mono ?_
  rintro e w' ⟨he, hA', hK'⟩
  exact ⟨he, hA'.eq (by first | rfl | simp [St.fParam]), hK'⟩
set_option maxRecDepth 100000 in
set_option maxHeartbeats 400000 in
theorem r_impulse_67_v (base b : Nat) (w : World) (S : St)    (hl : S.ops.length ≤ 800) (hA : RAt base w b S) :
    Calls Tryz.prog 46 #[.pointer (some ⟨b, 0, none⟩), .int .u8 67] w fun e w' => e = .returned (.tuple #[]) ∧ RAt base w' b ((S).ask (33) ((S).p) (0)) ∧ Kp 50 base b w w' := by
  have cp := hA.cp
  have hK0 := Kp.refl 50 base b w
  go_enter Tryz.func46, Tryz.ntmps46
  go_wp2_with (go_at_call 39; refine (rask base b _ (S) _ _ _ hA (by first | omega | (simp only [St.ops_ask, St.ops_put, St.ops_whole, St.ops_halves, St.ops_low, St.ops_keep, List.length_append, List.length_cons, List.length_nil]; omega))).mono ?_; clear hA; rintro e1 w1 ⟨rfl, hA1, hN1⟩; have hK1 := hK0.trans hN1; clear hN1 hK0; have cp1 := hA1.cp)
  go_end0
  exact ⟨rfl, hA1, hK1⟩
set_option maxRecDepth 100000 in
set_option maxHeartbeats 200000 in
theorem r_impulse_67 (base b : Nat) (w : World) (S : St)  (hl : S.ops.length ≤ 800) (hA : RAt base w b S) :
    Calls Tryz.prog 46 #[.pointer (some ⟨b, 0, none⟩), .int .u8 67] w fun e w' => e = .returned (.tuple #[]) ∧ RAt base w' b ((St.fParam 33) S) ∧ Kp 50 base b w w' := by
  refine (r_impulse_67_v base b w S  hl hA).mono ?_
  rintro e w' ⟨he, hA', hK'⟩
  exact ⟨he, hA'.eq (by first | rfl | simp [St.fParam]), hK'⟩
set_option maxRecDepth 100000 in
set_option maxHeartbeats 400000 in
theorem r_impulse_68_v (base b : Nat) (w : World) (S : St)    (hl : S.ops.length ≤ 800) (hA : RAt base w b S) :
    Calls Tryz.prog 46 #[.pointer (some ⟨b, 0, none⟩), .int .u8 68] w fun e w' => e = .returned (.tuple #[]) ∧ RAt base w' b (((S).whole (1)).slide) ∧ Kp 50 base b w w' := by
  have hK0 := Kp.refl 50 base b w
  go_enter Tryz.func46, Tryz.ntmps46
  go_wp2_with (first | (go_at_call 41; refine (rwhole base b _ (S) _ (by decide) (by decide) hA).mono ?_; clear hA; rintro e1 w1 ⟨rfl, hA1, hN1⟩; have hK1 := hK0.trans hN1; clear hN1 hK0) | (go_at_call 57; refine (rslide base b _ ((S).whole (1)) (by first | omega | (simp only [St.ops_ask, St.ops_put, St.ops_whole, St.ops_halves, St.ops_low, St.ops_keep, List.length_append, List.length_cons, List.length_nil]; omega)) hA1).mono ?_; clear hA1; rintro e2 w2 ⟨rfl, hA2, hN2⟩; have hK2 := hK1.trans hN2; clear hN2 hK1))
  go_end0
  exact ⟨rfl, hA2, hK2⟩
set_option maxRecDepth 100000 in
set_option maxHeartbeats 200000 in
theorem r_impulse_68 (base b : Nat) (w : World) (S : St)  (hl : S.ops.length ≤ 800) (hA : RAt base w b S) :
    Calls Tryz.prog 46 #[.pointer (some ⟨b, 0, none⟩), .int .u8 68] w fun e w' => e = .returned (.tuple #[]) ∧ RAt base w' b ((St.fWholly 1 (St.slide)) S) ∧ Kp 50 base b w w' := by
  refine (r_impulse_68_v base b w S  hl hA).mono ?_
  rintro e w' ⟨he, hA', hK'⟩
  exact ⟨he, hA'.eq (by first | rfl | simp [St.fWholly]), hK'⟩
set_option maxRecDepth 100000 in
set_option maxHeartbeats 400000 in
theorem r_impulse_69_v (base b : Nat) (w : World) (S : St)    (hl : S.ops.length ≤ 800) (hA : RAt base w b S) :
    Calls Tryz.prog 46 #[.pointer (some ⟨b, 0, none⟩), .int .u8 69] w fun e w' => e = .returned (.tuple #[]) ∧ RAt base w' b (((S).whole (5)).bend (5) (7) (3)) ∧ Kp 50 base b w w' := by
  have hK0 := Kp.refl 50 base b w
  go_enter Tryz.func46, Tryz.ntmps46
  go_wp2_with (first | (go_at_call 41; refine (rwhole base b _ (S) _ (by decide) (by decide) hA).mono ?_; clear hA; rintro e1 w1 ⟨rfl, hA1, hN1⟩; have hK1 := hK0.trans hN1; clear hN1 hK0) | (go_at_call 58; refine (rbend base b _ ((S).whole (5)) _ _ _ (by first | omega | (simp only [St.ops_ask, St.ops_put, St.ops_whole, St.ops_halves, St.ops_low, St.ops_keep, List.length_append, List.length_cons, List.length_nil]; omega)) hA1).mono ?_; clear hA1; rintro e2 w2 ⟨rfl, hA2, hN2⟩; have hK2 := hK1.trans hN2; clear hN2 hK1))
  go_end0
  exact ⟨rfl, hA2, hK2⟩
set_option maxRecDepth 100000 in
set_option maxHeartbeats 200000 in
theorem r_impulse_69 (base b : Nat) (w : World) (S : St)  (hl : S.ops.length ≤ 800) (hA : RAt base w b S) :
    Calls Tryz.prog 46 #[.pointer (some ⟨b, 0, none⟩), .int .u8 69] w fun e w' => e = .returned (.tuple #[]) ∧ RAt base w' b ((St.fWholly 5 (St.fDown)) S) ∧ Kp 50 base b w w' := by
  refine (r_impulse_69_v base b w S  hl hA).mono ?_
  rintro e w' ⟨he, hA', hK'⟩
  exact ⟨he, hA'.eq (by first | rfl | simp [St.fWholly, St.fDown]), hK'⟩
set_option maxRecDepth 100000 in
set_option maxHeartbeats 400000 in
theorem r_impulse_70_v (base b : Nat) (w : World) (S : St)    (hl : S.ops.length ≤ 800) (hA : RAt base w b S) :
    Calls Tryz.prog 46 #[.pointer (some ⟨b, 0, none⟩), .int .u8 70] w fun e w' => e = .returned (.tuple #[]) ∧ RAt base w' b (((S).whole (5)).bend (4) (6) (2)) ∧ Kp 50 base b w w' := by
  have hK0 := Kp.refl 50 base b w
  go_enter Tryz.func46, Tryz.ntmps46
  go_wp2_with (first | (go_at_call 41; refine (rwhole base b _ (S) _ (by decide) (by decide) hA).mono ?_; clear hA; rintro e1 w1 ⟨rfl, hA1, hN1⟩; have hK1 := hK0.trans hN1; clear hN1 hK0) | (go_at_call 58; refine (rbend base b _ ((S).whole (5)) _ _ _ (by first | omega | (simp only [St.ops_ask, St.ops_put, St.ops_whole, St.ops_halves, St.ops_low, St.ops_keep, List.length_append, List.length_cons, List.length_nil]; omega)) hA1).mono ?_; clear hA1; rintro e2 w2 ⟨rfl, hA2, hN2⟩; have hK2 := hK1.trans hN2; clear hN2 hK1))
  go_end0
  exact ⟨rfl, hA2, hK2⟩
set_option maxRecDepth 100000 in
set_option maxHeartbeats 200000 in
theorem r_impulse_70 (base b : Nat) (w : World) (S : St)  (hl : S.ops.length ≤ 800) (hA : RAt base w b S) :
    Calls Tryz.prog 46 #[.pointer (some ⟨b, 0, none⟩), .int .u8 70] w fun e w' => e = .returned (.tuple #[]) ∧ RAt base w' b ((St.fWholly 5 (St.fUp)) S) ∧ Kp 50 base b w w' := by
  refine (r_impulse_70_v base b w S  hl hA).mono ?_
  rintro e w' ⟨he, hA', hK'⟩
  exact ⟨he, hA'.eq (by first | rfl | simp [St.fWholly, St.fUp]), hK'⟩
set_option maxRecDepth 100000 in
set_option maxHeartbeats 400000 in
theorem r_impulse_71_v (base b : Nat) (w : World) (S : St)    (hl : S.ops.length ≤ 800) (hA : RAt base w b S) :
    Calls Tryz.prog 46 #[.pointer (some ⟨b, 0, none⟩), .int .u8 71] w fun e w' => e = .returned (.tuple #[]) ∧ RAt base w' b (((S).whole (2)).ask (8) (((S).whole (2)).p) (0)) ∧ Kp 50 base b w w' := by
  have cp := hA.cp
  have hK0 := Kp.refl 50 base b w
  go_enter Tryz.func46, Tryz.ntmps46
  go_wp2_with (first | (go_at_call 41; refine (rwhole base b _ (S) _ (by decide) (by decide) hA).mono ?_; clear hA; rintro e1 w1 ⟨rfl, hA1, hN1⟩; have hK1 := hK0.trans hN1; clear hN1 hK0; have cp1 := hA1.cp) | (go_at_call 39; refine (rask base b _ ((S).whole (2)) _ _ _ hA1 (by first | omega | (simp only [St.ops_ask, St.ops_put, St.ops_whole, St.ops_halves, St.ops_low, St.ops_keep, List.length_append, List.length_cons, List.length_nil]; omega))).mono ?_; clear hA1; rintro e2 w2 ⟨rfl, hA2, hN2⟩; have hK2 := hK1.trans hN2; clear hN2 hK1; have cp2 := hA2.cp))
  go_end0
  exact ⟨rfl, hA2, hK2⟩
set_option maxRecDepth 100000 in
set_option maxHeartbeats 200000 in
theorem r_impulse_71 (base b : Nat) (w : World) (S : St)  (hl : S.ops.length ≤ 800) (hA : RAt base w b S) :
    Calls Tryz.prog 46 #[.pointer (some ⟨b, 0, none⟩), .int .u8 71] w fun e w' => e = .returned (.tuple #[]) ∧ RAt base w' b ((St.fWholly 2 (St.fParam 8)) S) ∧ Kp 50 base b w w' := by
  refine (r_impulse_71_v base b w S  hl hA).mono ?_
  rintro e w' ⟨he, hA', hK'⟩
  exact ⟨he, hA'.eq (by first | rfl | simp [St.fParam, St.fWholly]), hK'⟩
set_option maxRecDepth 100000 in
set_option maxHeartbeats 400000 in
theorem r_impulse_72_v (base b : Nat) (w : World) (S : St)    (hl : S.ops.length ≤ 800) (hA : RAt base w b S) :
    Calls Tryz.prog 46 #[.pointer (some ⟨b, 0, none⟩), .int .u8 72] w fun e w' => e = .returned (.tuple #[]) ∧ RAt base w' b (((S).halves (3)).ask (9) (((S).halves (3)).h) (((S).halves (3)).l)) ∧ Kp 50 base b w w' := by
  have ch := hA.ch
  simp only [Nat.reduceAdd] at ch
  have cl := hA.cl
  simp only [Nat.reduceAdd] at cl
  have hK0 := Kp.refl 50 base b w
  go_enter Tryz.func46, Tryz.ntmps46
  go_wp2_with (go_at_call 42; refine (rhalves base b _ (S) _ (by decide) (by decide) hA).mono ?_; clear hA; rintro e1 w1 ⟨rfl, hA1, hN1⟩; have hK1 := hK0.trans hN1; clear hN1 hK0; have ch1 := hA1.ch; simp only [Nat.reduceAdd] at ch1; have cl1 := hA1.cl; simp only [Nat.reduceAdd] at cl1)
  go_still_tail 9, (by kernel_rfl)
  change wpList _ _ _ _ _ w1.drew
  have hA2 := hA1.drew
  have hK2 := hK1.drew
  clear hA1 hK1
  generalize w1.drew = w2 at hA2 hK2 ⊢
  have ch2 := hA2.ch
  simp only [Nat.reduceAdd] at ch2
  have cl2 := hA2.cl
  simp only [Nat.reduceAdd] at cl2
  go_wp2_with (go_at_call 39; refine (rask base b _ ((S).halves (3)) _ _ _ hA2 (by first | omega | (simp only [St.ops_ask, St.ops_put, St.ops_whole, St.ops_halves, St.ops_low, St.ops_keep, List.length_append, List.length_cons, List.length_nil]; omega))).mono ?_; clear hA2; rintro e3 w3 ⟨rfl, hA3, hN3⟩; have hK3 := hK2.trans hN3; clear hN3 hK2; have ch3 := hA3.ch; simp only [Nat.reduceAdd] at ch3; have cl3 := hA3.cl; simp only [Nat.reduceAdd] at cl3)
  go_end0
  exact ⟨rfl, hA3, hK3⟩
set_option maxRecDepth 100000 in
set_option maxHeartbeats 200000 in
theorem r_impulse_72 (base b : Nat) (w : World) (S : St)  (hl : S.ops.length ≤ 800) (hA : RAt base w b S) :
    Calls Tryz.prog 46 #[.pointer (some ⟨b, 0, none⟩), .int .u8 72] w fun e w' => e = .returned (.tuple #[]) ∧ RAt base w' b ((St.fHalved 3 (St.fBoth 9)) S) ∧ Kp 50 base b w w' := by
  refine (r_impulse_72_v base b w S  hl hA).mono ?_
  rintro e w' ⟨he, hA', hK'⟩
  exact ⟨he, hA'.eq (by first | rfl | simp [St.fBoth, St.fHalved]), hK'⟩
set_option maxRecDepth 100000 in
set_option maxHeartbeats 400000 in
theorem r_impulse_73_v (base b : Nat) (w : World) (S : St)    (hl : S.ops.length ≤ 800) (hA : RAt base w b S) :
    Calls Tryz.prog 46 #[.pointer (some ⟨b, 0, none⟩), .int .u8 73] w fun e w' => e = .returned (.tuple #[]) ∧ RAt base w' b (((S).whole (6)).ask (20) (wrap64 (((S).whole (6)).h + 1)) (wrap64 (((S).whole (6)).l + 1))) ∧ Kp 50 base b w w' := by
  have ch := hA.ch
  simp only [Nat.reduceAdd] at ch
  have cl := hA.cl
  simp only [Nat.reduceAdd] at cl
  have hK0 := Kp.refl 50 base b w
  go_enter Tryz.func46, Tryz.ntmps46
  go_wp2_with (go_at_call 41; refine (rwhole base b _ (S) _ (by decide) (by decide) hA).mono ?_; clear hA; rintro e1 w1 ⟨rfl, hA1, hN1⟩; have hK1 := hK0.trans hN1; clear hN1 hK0; have ch1 := hA1.ch; simp only [Nat.reduceAdd] at ch1; have cl1 := hA1.cl; simp only [Nat.reduceAdd] at cl1)
  go_still_tail 11, (by kernel_rfl)
  change wpList _ _ _ _ _ w1.drew
  have hA2 := hA1.drew
  have hK2 := hK1.drew
  clear hA1 hK1
  generalize w1.drew = w2 at hA2 hK2 ⊢
  have ch2 := hA2.ch
  simp only [Nat.reduceAdd] at ch2
  have cl2 := hA2.cl
  simp only [Nat.reduceAdd] at cl2
  go_wp2_with (go_at_call 39; refine (rask base b _ ((S).whole (6)) _ _ _ hA2 (by first | omega | (simp only [St.ops_ask, St.ops_put, St.ops_whole, St.ops_halves, St.ops_low, St.ops_keep, List.length_append, List.length_cons, List.length_nil]; omega))).mono ?_; clear hA2; rintro e3 w3 ⟨rfl, hA3, hN3⟩; have hK3 := hK2.trans hN3; clear hN3 hK2; have ch3 := hA3.ch; simp only [Nat.reduceAdd] at ch3; have cl3 := hA3.cl; simp only [Nat.reduceAdd] at cl3)
  go_end0
  exact ⟨rfl, hA3, hK3⟩
set_option maxRecDepth 100000 in
set_option maxHeartbeats 200000 in
theorem r_impulse_73 (base b : Nat) (w : World) (S : St)  (hl : S.ops.length ≤ 800) (hA : RAt base w b S) :
    Calls Tryz.prog 46 #[.pointer (some ⟨b, 0, none⟩), .int .u8 73] w fun e w' => e = .returned (.tuple #[]) ∧ RAt base w' b ((St.fWholly 6 (St.fTremor)) S) ∧ Kp 50 base b w w' := by
  refine (r_impulse_73_v base b w S  hl hA).mono ?_
  rintro e w' ⟨he, hA', hK'⟩
  exact ⟨he, hA'.eq (by first | rfl | simp [St.fWholly, St.fTremor]), hK'⟩
set_option maxRecDepth 100000 in
set_option maxHeartbeats 400000 in
theorem r_impulse_74_v (base b : Nat) (w : World) (S : St)    (hl : S.ops.length ≤ 800) (hA : RAt base w b S) :
    Calls Tryz.prog 46 #[.pointer (some ⟨b, 0, none⟩), .int .u8 74] w fun e w' => e = .returned (.tuple #[]) ∧ RAt base w' b (((S).whole (7)).ask (1) (((S).whole (7)).h) (((S).whole (7)).l)) ∧ Kp 50 base b w w' := by
  have ch := hA.ch
  simp only [Nat.reduceAdd] at ch
  have cl := hA.cl
  simp only [Nat.reduceAdd] at cl
  have hK0 := Kp.refl 50 base b w
  go_enter Tryz.func46, Tryz.ntmps46
  go_wp2_with (go_at_call 41; refine (rwhole base b _ (S) _ (by decide) (by decide) hA).mono ?_; clear hA; rintro e1 w1 ⟨rfl, hA1, hN1⟩; have hK1 := hK0.trans hN1; clear hN1 hK0; have ch1 := hA1.ch; simp only [Nat.reduceAdd] at ch1; have cl1 := hA1.cl; simp only [Nat.reduceAdd] at cl1)
  go_still_tail 9, (by kernel_rfl)
  change wpList _ _ _ _ _ w1.drew
  have hA2 := hA1.drew
  have hK2 := hK1.drew
  clear hA1 hK1
  generalize w1.drew = w2 at hA2 hK2 ⊢
  have ch2 := hA2.ch
  simp only [Nat.reduceAdd] at ch2
  have cl2 := hA2.cl
  simp only [Nat.reduceAdd] at cl2
  go_wp2_with (go_at_call 39; refine (rask base b _ ((S).whole (7)) _ _ _ hA2 (by first | omega | (simp only [St.ops_ask, St.ops_put, St.ops_whole, St.ops_halves, St.ops_low, St.ops_keep, List.length_append, List.length_cons, List.length_nil]; omega))).mono ?_; clear hA2; rintro e3 w3 ⟨rfl, hA3, hN3⟩; have hK3 := hK2.trans hN3; clear hN3 hK2; have ch3 := hA3.ch; simp only [Nat.reduceAdd] at ch3; have cl3 := hA3.cl; simp only [Nat.reduceAdd] at cl3)
  go_end0
  exact ⟨rfl, hA3, hK3⟩
set_option maxRecDepth 100000 in
set_option maxHeartbeats 200000 in
theorem r_impulse_74 (base b : Nat) (w : World) (S : St)  (hl : S.ops.length ≤ 800) (hA : RAt base w b S) :
    Calls Tryz.prog 46 #[.pointer (some ⟨b, 0, none⟩), .int .u8 74] w fun e w' => e = .returned (.tuple #[]) ∧ RAt base w' b ((St.fWholly 7 (St.fBoth 1)) S) ∧ Kp 50 base b w w' := by
  refine (r_impulse_74_v base b w S  hl hA).mono ?_
  rintro e w' ⟨he, hA', hK'⟩
  exact ⟨he, hA'.eq (by first | rfl | simp [St.fBoth, St.fWholly]), hK'⟩
set_option maxRecDepth 100000 in
set_option maxHeartbeats 400000 in
theorem r_impulse_75_v (base b : Nat) (w : World) (S : St)    (hl : S.ops.length ≤ 800) (hA : RAt base w b S) :
    Calls Tryz.prog 46 #[.pointer (some ⟨b, 0, none⟩), .int .u8 75] w fun e w' => e = .returned (.tuple #[]) ∧ RAt base w' b ((((S).whole (1)).ask (9) (wrap64 ((((S).whole (1)).slot 3).tdiv 16)) ((((S).whole (1)).slot 3).tmod 16)).slide) ∧ Kp 50 base b w w' := by
  have cs3 := hA.slot 3 (by decide)
  simp only [List.getD_eq_getElem?_getD] at cs3
  have hK0 := Kp.refl 50 base b w
  go_enter Tryz.func46, Tryz.ntmps46
  go_wp2_with (go_at_call 41; refine (rwhole base b _ (S) _ (by decide) (by decide) hA).mono ?_; clear hA; rintro e1 w1 ⟨rfl, hA1, hN1⟩; have hK1 := hK0.trans hN1; clear hN1 hK0; have cs31 := hA1.slot 3 (by decide); simp only [List.getD_eq_getElem?_getD] at cs31)
  go_still_tail 15, (by kernel_rfl)
  change wpList _ _ _ _ _ w1.drew
  have hA2 := hA1.drew
  have hK2 := hK1.drew
  clear hA1 hK1
  generalize w1.drew = w2 at hA2 hK2 ⊢
  have cs32 := hA2.slot 3 (by decide)
  simp only [List.getD_eq_getElem?_getD] at cs32
  go_wp2_with (first | (go_at_call 39; refine (rask base b _ ((S).whole (1)) _ _ _ hA2 (by first | omega | (simp only [St.ops_ask, St.ops_put, St.ops_whole, St.ops_halves, St.ops_low, St.ops_keep, List.length_append, List.length_cons, List.length_nil]; omega))).mono ?_; clear hA2; rintro e3 w3 ⟨rfl, hA3, hN3⟩; have hK3 := hK2.trans hN3; clear hN3 hK2; have cs33 := hA3.slot 3 (by decide); simp only [List.getD_eq_getElem?_getD] at cs33) | (go_at_call 57; refine (rslide base b _ (((S).whole (1)).ask (9) (wrap64 ((((S).whole (1)).slot 3).tdiv 16)) ((((S).whole (1)).slot 3).tmod 16)) (by first | omega | (simp only [St.ops_ask, St.ops_put, St.ops_whole, St.ops_halves, St.ops_low, St.ops_keep, List.length_append, List.length_cons, List.length_nil]; omega)) hA3).mono ?_; clear hA3; rintro e4 w4 ⟨rfl, hA4, hN4⟩; have hK4 := hK3.trans hN4; clear hN4 hK3; have cs34 := hA4.slot 3 (by decide); simp only [List.getD_eq_getElem?_getD] at cs34))
  go_end0
  exact ⟨rfl, hA4, hK4⟩
set_option maxRecDepth 100000 in
set_option maxHeartbeats 200000 in
theorem r_impulse_75 (base b : Nat) (w : World) (S : St)  (hl : S.ops.length ≤ 800) (hA : RAt base w b S) :
    Calls Tryz.prog 46 #[.pointer (some ⟨b, 0, none⟩), .int .u8 75] w fun e w' => e = .returned (.tuple #[]) ∧ RAt base w' b ((St.fWholly 1 (St.fVibratoSlide)) S) ∧ Kp 50 base b w w' := by
  refine (r_impulse_75_v base b w S  hl hA).mono ?_
  rintro e w' ⟨he, hA', hK'⟩
  exact ⟨he, hA'.eq (by first | rfl | simp [St.fWholly, St.fVibratoSlide]), hK'⟩
set_option maxRecDepth 100000 in
set_option maxHeartbeats 400000 in
theorem r_impulse_76_v (base b : Nat) (w : World) (S : St)    (hl : S.ops.length ≤ 800) (hA : RAt base w b S) :
    Calls Tryz.prog 46 #[.pointer (some ⟨b, 0, none⟩), .int .u8 76] w fun e w' => e = .returned (.tuple #[]) ∧ RAt base w' b ((((S).whole (1)).ask (8) (((S).whole (1)).slot 2) (0)).slide) ∧ Kp 50 base b w w' := by
  have cs2 := hA.slot 2 (by decide)
  simp only [List.getD_eq_getElem?_getD] at cs2
  have hK0 := Kp.refl 50 base b w
  go_enter Tryz.func46, Tryz.ntmps46
  go_wp2_with (first | (go_at_call 41; refine (rwhole base b _ (S) _ (by decide) (by decide) hA).mono ?_; clear hA; rintro e1 w1 ⟨rfl, hA1, hN1⟩; have hK1 := hK0.trans hN1; clear hN1 hK0; have cs21 := hA1.slot 2 (by decide); simp only [List.getD_eq_getElem?_getD] at cs21) | (go_at_call 39; refine (rask base b _ ((S).whole (1)) _ _ _ hA1 (by first | omega | (simp only [St.ops_ask, St.ops_put, St.ops_whole, St.ops_halves, St.ops_low, St.ops_keep, List.length_append, List.length_cons, List.length_nil]; omega))).mono ?_; clear hA1; rintro e2 w2 ⟨rfl, hA2, hN2⟩; have hK2 := hK1.trans hN2; clear hN2 hK1; have cs22 := hA2.slot 2 (by decide); simp only [List.getD_eq_getElem?_getD] at cs22) | (go_at_call 57; refine (rslide base b _ (((S).whole (1)).ask (8) (((S).whole (1)).slot 2) (0)) (by first | omega | (simp only [St.ops_ask, St.ops_put, St.ops_whole, St.ops_halves, St.ops_low, St.ops_keep, List.length_append, List.length_cons, List.length_nil]; omega)) hA2).mono ?_; clear hA2; rintro e3 w3 ⟨rfl, hA3, hN3⟩; have hK3 := hK2.trans hN3; clear hN3 hK2; have cs23 := hA3.slot 2 (by decide); simp only [List.getD_eq_getElem?_getD] at cs23))
  go_end0
  exact ⟨rfl, hA3, hK3⟩
set_option maxRecDepth 100000 in
set_option maxHeartbeats 200000 in
theorem r_impulse_76 (base b : Nat) (w : World) (S : St)  (hl : S.ops.length ≤ 800) (hA : RAt base w b S) :
    Calls Tryz.prog 46 #[.pointer (some ⟨b, 0, none⟩), .int .u8 76] w fun e w' => e = .returned (.tuple #[]) ∧ RAt base w' b ((St.fWholly 1 (St.fToneSlide)) S) ∧ Kp 50 base b w w' := by
  refine (r_impulse_76_v base b w S  hl hA).mono ?_
  rintro e w' ⟨he, hA', hK'⟩
  exact ⟨he, hA'.eq (by first | rfl | simp [St.fWholly, St.fToneSlide]), hK'⟩
set_option maxRecDepth 100000 in
set_option maxHeartbeats 400000 in
theorem r_impulse_77_v0 (base b : Nat) (w : World) (S : St)   (t0 : decide ((S).p ≤ 64) = true) (hl : S.ops.length ≤ 800) (hA : RAt base w b S) :
    Calls Tryz.prog 46 #[.pointer (some ⟨b, 0, none⟩), .int .u8 77] w fun e w' => e = .returned (.tuple #[]) ∧ RAt base w' b ((S).ask (30) ((S).p) (0)) ∧ Kp 50 base b w w' := by
  have cp := hA.cp
  have hK0 := Kp.refl 50 base b w
  go_enter Tryz.func46, Tryz.ntmps46
  go_wp2_with (go_at_call 39; refine (rask base b _ (S) _ _ _ hA (by first | omega | (simp only [St.ops_ask, St.ops_put, St.ops_whole, St.ops_halves, St.ops_low, St.ops_keep, List.length_append, List.length_cons, List.length_nil]; omega))).mono ?_; clear hA; rintro e1 w1 ⟨rfl, hA1, hN1⟩; have hK1 := hK0.trans hN1; clear hN1 hK0; have cp1 := hA1.cp)
  go_end0
  exact ⟨rfl, hA1, hK1⟩
set_option maxRecDepth 100000 in
set_option maxHeartbeats 400000 in
theorem r_impulse_77_v1 (base b : Nat) (w : World) (S : St)   (t0 : decide ((S).p ≤ 64) = false) (hl : S.ops.length ≤ 800) (hA : RAt base w b S) :
    Calls Tryz.prog 46 #[.pointer (some ⟨b, 0, none⟩), .int .u8 77] w fun e w' => e = .returned (.tuple #[]) ∧ RAt base w' b (S) ∧ Kp 50 base b w w' := by
  have cp := hA.cp
  have hK0 := Kp.refl 50 base b w
  go_enter Tryz.func46, Tryz.ntmps46
  go_wp2
  go_end0
  exact ⟨rfl, hA, hK0⟩
set_option maxRecDepth 100000 in
set_option maxHeartbeats 200000 in
theorem r_impulse_77 (base b : Nat) (w : World) (S : St)  (hl : S.ops.length ≤ 800) (hA : RAt base w b S) :
    Calls Tryz.prog 46 #[.pointer (some ⟨b, 0, none⟩), .int .u8 77] w fun e w' => e = .returned (.tuple #[]) ∧ RAt base w' b ((St.fUpTo 64 (St.fParam 30)) S) ∧ Kp 50 base b w w' := by
  by_cases z0 : ((S).p ≤ 64)
  · refine (r_impulse_77_v0 base b w S  (by first | omega | (simp; omega) | (simp [*]; done) | simpa using ‹_›) hl hA).mono ?_
    rintro e w' ⟨he, hA', hK'⟩
    exact ⟨he, hA'.eq (by first | (simp [St.fParam, St.fUpTo, St.fUp, z0]; done) | (simp [St.fParam, St.fUpTo, St.fUp, z0, Int.min_def]; done) | (simp [St.fParam, St.fUpTo, St.fUp, z0, Int.min_def]; omega) | (have hmin := Int.min_def; simp only [St.fParam, St.fUpTo, St.fUp, Int.min_def]; split <;> first | rfl | omega)), hK'⟩
  · refine (r_impulse_77_v1 base b w S  (by first | omega | (simp; omega) | (simp [*]; done) | simpa using ‹_›) hl hA).mono ?_
    rintro e w' ⟨he, hA', hK'⟩
    exact ⟨he, hA'.eq (by first | (simp [St.fParam, St.fUpTo, St.fUp, z0]; done) | (simp [St.fParam, St.fUpTo, St.fUp, z0, Int.min_def]; done) | (simp [St.fParam, St.fUpTo, St.fUp, z0, Int.min_def]; omega) | (have hmin := Int.min_def; simp only [St.fParam, St.fUpTo, St.fUp, Int.min_def]; split <;> first | rfl | omega)), hK'⟩
set_option maxRecDepth 100000 in
set_option maxHeartbeats 400000 in
theorem r_impulse_78_v (base b : Nat) (w : World) (S : St)    (hl : S.ops.length ≤ 800) (hA : RAt base w b S) :
    Calls Tryz.prog 46 #[.pointer (some ⟨b, 0, none⟩), .int .u8 78] w fun e w' => e = .returned (.tuple #[]) ∧ RAt base w' b (((S).whole (8)).ask (31) (((S).whole (8)).h) (((S).whole (8)).l)) ∧ Kp 50 base b w w' := by
  have ch := hA.ch
  simp only [Nat.reduceAdd] at ch
  have cl := hA.cl
  simp only [Nat.reduceAdd] at cl
  have hK0 := Kp.refl 50 base b w
  go_enter Tryz.func46, Tryz.ntmps46
  go_wp2_with (go_at_call 41; refine (rwhole base b _ (S) _ (by decide) (by decide) hA).mono ?_; clear hA; rintro e1 w1 ⟨rfl, hA1, hN1⟩; have hK1 := hK0.trans hN1; clear hN1 hK0; have ch1 := hA1.ch; simp only [Nat.reduceAdd] at ch1; have cl1 := hA1.cl; simp only [Nat.reduceAdd] at cl1)
  go_still_tail 9, (by kernel_rfl)
  change wpList _ _ _ _ _ w1.drew
  have hA2 := hA1.drew
  have hK2 := hK1.drew
  clear hA1 hK1
  generalize w1.drew = w2 at hA2 hK2 ⊢
  have ch2 := hA2.ch
  simp only [Nat.reduceAdd] at ch2
  have cl2 := hA2.cl
  simp only [Nat.reduceAdd] at cl2
  go_wp2_with (go_at_call 39; refine (rask base b _ ((S).whole (8)) _ _ _ hA2 (by first | omega | (simp only [St.ops_ask, St.ops_put, St.ops_whole, St.ops_halves, St.ops_low, St.ops_keep, List.length_append, List.length_cons, List.length_nil]; omega))).mono ?_; clear hA2; rintro e3 w3 ⟨rfl, hA3, hN3⟩; have hK3 := hK2.trans hN3; clear hN3 hK2; have ch3 := hA3.ch; simp only [Nat.reduceAdd] at ch3; have cl3 := hA3.cl; simp only [Nat.reduceAdd] at cl3)
  go_end0
  exact ⟨rfl, hA3, hK3⟩
set_option maxRecDepth 100000 in
set_option maxHeartbeats 200000 in
theorem r_impulse_78 (base b : Nat) (w : World) (S : St)  (hl : S.ops.length ≤ 800) (hA : RAt base w b S) :
    Calls Tryz.prog 46 #[.pointer (some ⟨b, 0, none⟩), .int .u8 78] w fun e w' => e = .returned (.tuple #[]) ∧ RAt base w' b ((St.fWholly 8 (St.fBoth 31)) S) ∧ Kp 50 base b w w' := by
  refine (r_impulse_78_v base b w S  hl hA).mono ?_
  rintro e w' ⟨he, hA', hK'⟩
  exact ⟨he, hA'.eq (by first | rfl | simp [St.fBoth, St.fWholly]), hK'⟩
set_option maxRecDepth 100000 in
set_option maxHeartbeats 400000 in
theorem r_impulse_79_v (base b : Nat) (w : World) (S : St)    (hl : S.ops.length ≤ 800) (hA : RAt base w b S) :
    Calls Tryz.prog 46 #[.pointer (some ⟨b, 0, none⟩), .int .u8 79] w fun e w' => e = .returned (.tuple #[]) ∧ RAt base w' b (((S).whole (4)).ask (18) (wrap64 (256 * ((S).whole (4)).p)) (0)) ∧ Kp 50 base b w w' := by
  have cp := hA.cp
  have hK0 := Kp.refl 50 base b w
  go_enter Tryz.func46, Tryz.ntmps46
  go_wp2_with (first | (go_at_call 41; refine (rwhole base b _ (S) _ (by decide) (by decide) hA).mono ?_; clear hA; rintro e1 w1 ⟨rfl, hA1, hN1⟩; have hK1 := hK0.trans hN1; clear hN1 hK0; have cp1 := hA1.cp) | (go_at_call 39; refine (rask base b _ ((S).whole (4)) _ _ _ hA1 (by first | omega | (simp only [St.ops_ask, St.ops_put, St.ops_whole, St.ops_halves, St.ops_low, St.ops_keep, List.length_append, List.length_cons, List.length_nil]; omega))).mono ?_; clear hA1; rintro e2 w2 ⟨rfl, hA2, hN2⟩; have hK2 := hK1.trans hN2; clear hN2 hK1; have cp2 := hA2.cp))
  go_end0
  exact ⟨rfl, hA2, hK2⟩
set_option maxRecDepth 100000 in
set_option maxHeartbeats 200000 in
theorem r_impulse_79 (base b : Nat) (w : World) (S : St)  (hl : S.ops.length ≤ 800) (hA : RAt base w b S) :
    Calls Tryz.prog 46 #[.pointer (some ⟨b, 0, none⟩), .int .u8 79] w fun e w' => e = .returned (.tuple #[]) ∧ RAt base w' b ((St.fWholly 4 (St.fOffset)) S) ∧ Kp 50 base b w w' := by
  refine (r_impulse_79_v base b w S  hl hA).mono ?_
  rintro e w' ⟨he, hA', hK'⟩
  exact ⟨he, hA'.eq (by first | rfl | simp [St.fWholly, St.fOffset]), hK'⟩
set_option maxRecDepth 100000 in
set_option maxHeartbeats 400000 in
theorem r_impulse_80_v (base b : Nat) (w : World) (S : St)    (hl : S.ops.length ≤ 800) (hA : RAt base w b S) :
    Calls Tryz.prog 46 #[.pointer (some ⟨b, 0, none⟩), .int .u8 80] w fun e w' => e = .returned (.tuple #[]) ∧ RAt base w' b (((S).whole (9)).ask (17) (((S).whole (9)).l) (((S).whole (9)).h)) ∧ Kp 50 base b w w' := by
  have ch := hA.ch
  simp only [Nat.reduceAdd] at ch
  have cl := hA.cl
  simp only [Nat.reduceAdd] at cl
  have hK0 := Kp.refl 50 base b w
  go_enter Tryz.func46, Tryz.ntmps46
  go_wp2_with (go_at_call 41; refine (rwhole base b _ (S) _ (by decide) (by decide) hA).mono ?_; clear hA; rintro e1 w1 ⟨rfl, hA1, hN1⟩; have hK1 := hK0.trans hN1; clear hN1 hK0; have ch1 := hA1.ch; simp only [Nat.reduceAdd] at ch1; have cl1 := hA1.cl; simp only [Nat.reduceAdd] at cl1)
  go_still_tail 9, (by kernel_rfl)
  change wpList _ _ _ _ _ w1.drew
  have hA2 := hA1.drew
  have hK2 := hK1.drew
  clear hA1 hK1
  generalize w1.drew = w2 at hA2 hK2 ⊢
  have ch2 := hA2.ch
  simp only [Nat.reduceAdd] at ch2
  have cl2 := hA2.cl
  simp only [Nat.reduceAdd] at cl2
  go_wp2_with (go_at_call 39; refine (rask base b _ ((S).whole (9)) _ _ _ hA2 (by first | omega | (simp only [St.ops_ask, St.ops_put, St.ops_whole, St.ops_halves, St.ops_low, St.ops_keep, List.length_append, List.length_cons, List.length_nil]; omega))).mono ?_; clear hA2; rintro e3 w3 ⟨rfl, hA3, hN3⟩; have hK3 := hK2.trans hN3; clear hN3 hK2; have ch3 := hA3.ch; simp only [Nat.reduceAdd] at ch3; have cl3 := hA3.cl; simp only [Nat.reduceAdd] at cl3)
  go_end0
  exact ⟨rfl, hA3, hK3⟩
set_option maxRecDepth 100000 in
set_option maxHeartbeats 200000 in
theorem r_impulse_80 (base b : Nat) (w : World) (S : St)  (hl : S.ops.length ≤ 800) (hA : RAt base w b S) :
    Calls Tryz.prog 46 #[.pointer (some ⟨b, 0, none⟩), .int .u8 80] w fun e w' => e = .returned (.tuple #[]) ∧ RAt base w' b ((St.fWholly 9 (St.fPanSlide)) S) ∧ Kp 50 base b w w' := by
  refine (r_impulse_80_v base b w S  hl hA).mono ?_
  rintro e w' ⟨he, hA', hK'⟩
  exact ⟨he, hA'.eq (by first | rfl | simp [St.fWholly, St.fPanSlide, St.fPan]), hK'⟩
set_option maxRecDepth 100000 in
set_option maxHeartbeats 400000 in
theorem r_impulse_81_v (base b : Nat) (w : World) (S : St)    (hl : S.ops.length ≤ 800) (hA : RAt base w b S) :
    Calls Tryz.prog 46 #[.pointer (some ⟨b, 0, none⟩), .int .u8 81] w fun e w' => e = .returned (.tuple #[]) ∧ RAt base w' b (((S).whole (10)).ask (19) (((S).whole (10)).l) (((S).whole (10)).h)) ∧ Kp 50 base b w w' := by
  have ch := hA.ch
  simp only [Nat.reduceAdd] at ch
  have cl := hA.cl
  simp only [Nat.reduceAdd] at cl
  have hK0 := Kp.refl 50 base b w
  go_enter Tryz.func46, Tryz.ntmps46
  go_wp2_with (go_at_call 41; refine (rwhole base b _ (S) _ (by decide) (by decide) hA).mono ?_; clear hA; rintro e1 w1 ⟨rfl, hA1, hN1⟩; have hK1 := hK0.trans hN1; clear hN1 hK0; have ch1 := hA1.ch; simp only [Nat.reduceAdd] at ch1; have cl1 := hA1.cl; simp only [Nat.reduceAdd] at cl1)
  go_still_tail 9, (by kernel_rfl)
  change wpList _ _ _ _ _ w1.drew
  have hA2 := hA1.drew
  have hK2 := hK1.drew
  clear hA1 hK1
  generalize w1.drew = w2 at hA2 hK2 ⊢
  have ch2 := hA2.ch
  simp only [Nat.reduceAdd] at ch2
  have cl2 := hA2.cl
  simp only [Nat.reduceAdd] at cl2
  go_wp2_with (go_at_call 39; refine (rask base b _ ((S).whole (10)) _ _ _ hA2 (by first | omega | (simp only [St.ops_ask, St.ops_put, St.ops_whole, St.ops_halves, St.ops_low, St.ops_keep, List.length_append, List.length_cons, List.length_nil]; omega))).mono ?_; clear hA2; rintro e3 w3 ⟨rfl, hA3, hN3⟩; have hK3 := hK2.trans hN3; clear hN3 hK2; have ch3 := hA3.ch; simp only [Nat.reduceAdd] at ch3; have cl3 := hA3.cl; simp only [Nat.reduceAdd] at cl3)
  go_end0
  exact ⟨rfl, hA3, hK3⟩
set_option maxRecDepth 100000 in
set_option maxHeartbeats 200000 in
theorem r_impulse_81 (base b : Nat) (w : World) (S : St)  (hl : S.ops.length ≤ 800) (hA : RAt base w b S) :
    Calls Tryz.prog 46 #[.pointer (some ⟨b, 0, none⟩), .int .u8 81] w fun e w' => e = .returned (.tuple #[]) ∧ RAt base w' b ((St.fWholly 10 (St.fRetrig)) S) ∧ Kp 50 base b w w' := by
  refine (r_impulse_81_v base b w S  hl hA).mono ?_
  rintro e w' ⟨he, hA', hK'⟩
  exact ⟨he, hA'.eq (by first | rfl | simp [St.fWholly, St.fRetrig]), hK'⟩
set_option maxRecDepth 100000 in
set_option maxHeartbeats 400000 in
theorem r_impulse_82_v (base b : Nat) (w : World) (S : St)    (hl : S.ops.length ≤ 800) (hA : RAt base w b S) :
    Calls Tryz.prog 46 #[.pointer (some ⟨b, 0, none⟩), .int .u8 82] w fun e w' => e = .returned (.tuple #[]) ∧ RAt base w' b (((S).halves (11)).ask (11) (((S).halves (11)).h) (((S).halves (11)).l)) ∧ Kp 50 base b w w' := by
  have ch := hA.ch
  simp only [Nat.reduceAdd] at ch
  have cl := hA.cl
  simp only [Nat.reduceAdd] at cl
  have hK0 := Kp.refl 50 base b w
  go_enter Tryz.func46, Tryz.ntmps46
  go_wp2_with (go_at_call 42; refine (rhalves base b _ (S) _ (by decide) (by decide) hA).mono ?_; clear hA; rintro e1 w1 ⟨rfl, hA1, hN1⟩; have hK1 := hK0.trans hN1; clear hN1 hK0; have ch1 := hA1.ch; simp only [Nat.reduceAdd] at ch1; have cl1 := hA1.cl; simp only [Nat.reduceAdd] at cl1)
  go_still_tail 9, (by kernel_rfl)
  change wpList _ _ _ _ _ w1.drew
  have hA2 := hA1.drew
  have hK2 := hK1.drew
  clear hA1 hK1
  generalize w1.drew = w2 at hA2 hK2 ⊢
  have ch2 := hA2.ch
  simp only [Nat.reduceAdd] at ch2
  have cl2 := hA2.cl
  simp only [Nat.reduceAdd] at cl2
  go_wp2_with (go_at_call 39; refine (rask base b _ ((S).halves (11)) _ _ _ hA2 (by first | omega | (simp only [St.ops_ask, St.ops_put, St.ops_whole, St.ops_halves, St.ops_low, St.ops_keep, List.length_append, List.length_cons, List.length_nil]; omega))).mono ?_; clear hA2; rintro e3 w3 ⟨rfl, hA3, hN3⟩; have hK3 := hK2.trans hN3; clear hN3 hK2; have ch3 := hA3.ch; simp only [Nat.reduceAdd] at ch3; have cl3 := hA3.cl; simp only [Nat.reduceAdd] at cl3)
  go_end0
  exact ⟨rfl, hA3, hK3⟩
set_option maxRecDepth 100000 in
set_option maxHeartbeats 200000 in
theorem r_impulse_82 (base b : Nat) (w : World) (S : St)  (hl : S.ops.length ≤ 800) (hA : RAt base w b S) :
    Calls Tryz.prog 46 #[.pointer (some ⟨b, 0, none⟩), .int .u8 82] w fun e w' => e = .returned (.tuple #[]) ∧ RAt base w' b ((St.fHalved 11 (St.fBoth 11)) S) ∧ Kp 50 base b w w' := by
  refine (r_impulse_82_v base b w S  hl hA).mono ?_
  rintro e w' ⟨he, hA', hK'⟩
  exact ⟨he, hA'.eq (by first | rfl | simp [St.fBoth, St.fHalved]), hK'⟩
set_option maxRecDepth 100000 in
set_option maxHeartbeats 400000 in
theorem r_impulse_83_v (base b : Nat) (w : World) (S : St)    (hl : S.ops.length ≤ 800) (hA : RAt base w b S) :
    Calls Tryz.prog 46 #[.pointer (some ⟨b, 0, none⟩), .int .u8 83] w fun e w' => e = .returned (.tuple #[]) ∧ RAt base w' b (St.fByHigh tSpecial ((S).whole (12))) ∧ Kp 50 base b w w' := by
  have hK0 := Kp.refl 50 base b w
  go_enter Tryz.func46, Tryz.ntmps46
  go_wp2_with (first | (go_at_call 41; refine (rwhole base b _ (S) _ (by decide) (by decide) hA).mono ?_; clear hA; rintro e1 w1 ⟨rfl, hA1, hN1⟩; have hK1 := hK0.trans hN1; clear hN1 hK0) | (go_at_call 61; refine (r_special base b _ ((S).whole (12)) (by first | omega | (simp only [St.ops_ask, St.ops_put, St.ops_whole, St.ops_halves, St.ops_low, St.ops_keep, List.length_append, List.length_cons, List.length_nil]; omega)) hA1).mono ?_; clear hA1; rintro e2 w2 ⟨rfl, hA2, hN2⟩; have hK2 := hK1.trans hN2; clear hN2 hK1))
  go_end0
  exact ⟨rfl, hA2, hK2⟩
set_option maxRecDepth 100000 in
set_option maxHeartbeats 200000 in
theorem r_impulse_83 (base b : Nat) (w : World) (S : St)  (hl : S.ops.length ≤ 800) (hA : RAt base w b S) :
    Calls Tryz.prog 46 #[.pointer (some ⟨b, 0, none⟩), .int .u8 83] w fun e w' => e = .returned (.tuple #[]) ∧ RAt base w' b ((St.fWholly 12 (St.fByHigh tSpecial)) S) ∧ Kp 50 base b w w' := by
  refine (r_impulse_83_v base b w S  hl hA).mono ?_
  rintro e w' ⟨he, hA', hK'⟩
  exact ⟨he, hA'.eq (by first | rfl | simp [St.fWholly]), hK'⟩
set_option maxRecDepth 100000 in
set_option maxHeartbeats 400000 in
theorem r_impulse_84_v0 (base b : Nat) (w : World) (S : St)   (t0 : ((S).whole 13).p < 16) (hl : S.ops.length ≤ 800) (hA : RAt base w b S) :
    Calls Tryz.prog 46 #[.pointer (some ⟨b, 0, none⟩), .int .u8 84] w fun e w' => e = .returned (.tuple #[]) ∧ RAt base w' b (((S).whole (13)).ask (38) (wrap64 (-((S).whole (13)).l)) (0)) ∧ Kp 50 base b w w' := by
  have cp := hA.cp
  have cl := hA.cl
  simp only [Nat.reduceAdd] at cl
  have hK0 := Kp.refl 50 base b w
  go_enter Tryz.func46, Tryz.ntmps46
  go_wp2_with (first | (go_at_call 41; refine (rwhole base b _ (S) _ (by decide) (by decide) hA).mono ?_; clear hA; rintro e1 w1 ⟨rfl, hA1, hN1⟩; have hK1 := hK0.trans hN1; clear hN1 hK0; have cp1 := hA1.cp; have cl1 := hA1.cl; simp only [Nat.reduceAdd] at cl1) | (go_at_call 39; refine (rask base b _ ((S).whole (13)) _ _ _ hA1 (by first | omega | (simp only [St.ops_ask, St.ops_put, St.ops_whole, St.ops_halves, St.ops_low, St.ops_keep, List.length_append, List.length_cons, List.length_nil]; omega))).mono ?_; clear hA1; rintro e2 w2 ⟨rfl, hA2, hN2⟩; have hK2 := hK1.trans hN2; clear hN2 hK1; have cp2 := hA2.cp; have cl2 := hA2.cl; simp only [Nat.reduceAdd] at cl2))
  go_end0
  exact ⟨rfl, hA2, hK2⟩
set_option maxRecDepth 100000 in
set_option maxHeartbeats 400000 in
theorem r_impulse_84_v1 (base b : Nat) (w : World) (S : St)   (t0 : 16 ≤ ((S).whole 13).p) (t1 : ((S).whole 13).p < 32) (hl : S.ops.length ≤ 800) (hA : RAt base w b S) :
    Calls Tryz.prog 46 #[.pointer (some ⟨b, 0, none⟩), .int .u8 84] w fun e w' => e = .returned (.tuple #[]) ∧ RAt base w' b (((S).whole (13)).ask (38) (((S).whole (13)).l) (0)) ∧ Kp 50 base b w w' := by
  have cp := hA.cp
  have cl := hA.cl
  simp only [Nat.reduceAdd] at cl
  have hK0 := Kp.refl 50 base b w
  go_enter Tryz.func46, Tryz.ntmps46
  go_wp2_with (first | (go_at_call 41; refine (rwhole base b _ (S) _ (by decide) (by decide) hA).mono ?_; clear hA; rintro e1 w1 ⟨rfl, hA1, hN1⟩; have hK1 := hK0.trans hN1; clear hN1 hK0; have cp1 := hA1.cp; have cl1 := hA1.cl; simp only [Nat.reduceAdd] at cl1) | (go_at_call 39; refine (rask base b _ ((S).whole (13)) _ _ _ hA1 (by first | omega | (simp only [St.ops_ask, St.ops_put, St.ops_whole, St.ops_halves, St.ops_low, St.ops_keep, List.length_append, List.length_cons, List.length_nil]; omega))).mono ?_; clear hA1; rintro e2 w2 ⟨rfl, hA2, hN2⟩; have hK2 := hK1.trans hN2; clear hN2 hK1; have cp2 := hA2.cp; have cl2 := hA2.cl; simp only [Nat.reduceAdd] at cl2))
  go_end0
  exact ⟨rfl, hA2, hK2⟩
set_option maxRecDepth 100000 in
set_option maxHeartbeats 400000 in
theorem r_impulse_84_v2 (base b : Nat) (w : World) (S : St)   (t0 : 16 ≤ ((S).whole 13).p) (t1 : 32 ≤ ((S).whole 13).p) (hl : S.ops.length ≤ 800) (hA : RAt base w b S) :
    Calls Tryz.prog 46 #[.pointer (some ⟨b, 0, none⟩), .int .u8 84] w fun e w' => e = .returned (.tuple #[]) ∧ RAt base w' b (((S).whole (13)).ask (37) (((S).whole (13)).p) (0)) ∧ Kp 50 base b w w' := by
  have cp := hA.cp
  have cl := hA.cl
  simp only [Nat.reduceAdd] at cl
  have hK0 := Kp.refl 50 base b w
  go_enter Tryz.func46, Tryz.ntmps46
  go_wp2_with (first | (go_at_call 41; refine (rwhole base b _ (S) _ (by decide) (by decide) hA).mono ?_; clear hA; rintro e1 w1 ⟨rfl, hA1, hN1⟩; have hK1 := hK0.trans hN1; clear hN1 hK0; have cp1 := hA1.cp; have cl1 := hA1.cl; simp only [Nat.reduceAdd] at cl1) | (go_at_call 39; refine (rask base b _ ((S).whole (13)) _ _ _ hA1 (by first | omega | (simp only [St.ops_ask, St.ops_put, St.ops_whole, St.ops_halves, St.ops_low, St.ops_keep, List.length_append, List.length_cons, List.length_nil]; omega))).mono ?_; clear hA1; rintro e2 w2 ⟨rfl, hA2, hN2⟩; have hK2 := hK1.trans hN2; clear hN2 hK1; have cp2 := hA2.cp; have cl2 := hA2.cl; simp only [Nat.reduceAdd] at cl2))
  go_end0
  exact ⟨rfl, hA2, hK2⟩
set_option maxRecDepth 100000 in
set_option maxHeartbeats 200000 in
theorem r_impulse_84 (base b : Nat) (w : World) (S : St)  (hl : S.ops.length ≤ 800) (hA : RAt base w b S) :
    Calls Tryz.prog 46 #[.pointer (some ⟨b, 0, none⟩), .int .u8 84] w fun e w' => e = .returned (.tuple #[]) ∧ RAt base w' b ((St.fWholly 13 (St.fTempo)) S) ∧ Kp 50 base b w w' := by
  by_cases z0 : ((S).whole 13).p < 16
  · refine (r_impulse_84_v0 base b w S  (by first | omega | (simp; omega) | (simp [*]; done) | simpa using ‹_›) hl hA).mono ?_
    rintro e w' ⟨he, hA', hK'⟩
    exact ⟨he, hA'.eq (by first | (simp [St.fWholly, St.fTempo, z0]; done) | (simp [St.fWholly, St.fTempo, z0, Int.min_def]; done) | (simp [St.fWholly, St.fTempo, z0, Int.min_def]; omega) | (have hmin := Int.min_def; simp only [St.fWholly, St.fTempo, Int.min_def]; split <;> first | rfl | omega)), hK'⟩
  · by_cases z1 : ((S).whole 13).p < 32
    · refine (r_impulse_84_v1 base b w S  (by first | omega | (simp; omega) | (simp [*]; done) | simpa using ‹_›) (by first | omega | (simp; omega) | (simp [*]; done) | simpa using ‹_›) hl hA).mono ?_
      rintro e w' ⟨he, hA', hK'⟩
      exact ⟨he, hA'.eq (by first | (simp [St.fWholly, St.fTempo, z0, z1]; done) | (simp [St.fWholly, St.fTempo, z0, z1, Int.min_def]; done) | (simp [St.fWholly, St.fTempo, z0, z1, Int.min_def]; omega) | (have hmin := Int.min_def; simp only [St.fWholly, St.fTempo, Int.min_def]; split <;> first | rfl | omega)), hK'⟩
    · refine (r_impulse_84_v2 base b w S  (by first | omega | (simp; omega) | (simp [*]; done) | simpa using ‹_›) (by first | omega | (simp; omega) | (simp [*]; done) | simpa using ‹_›) hl hA).mono ?_
      rintro e w' ⟨he, hA', hK'⟩
      exact ⟨he, hA'.eq (by first | (simp [St.fWholly, St.fTempo, z0, z1]; done) | (simp [St.fWholly, St.fTempo, z0, z1, Int.min_def]; done) | (simp [St.fWholly, St.fTempo, z0, z1, Int.min_def]; omega) | (have hmin := Int.min_def; simp only [St.fWholly, St.fTempo, Int.min_def]; split <;> first | rfl | omega)), hK'⟩
set_option maxRecDepth 100000 in
set_option maxHeartbeats 400000 in
theorem r_impulse_85_v (base b : Nat) (w : World) (S : St)    (hl : S.ops.length ≤ 800) (hA : RAt base w b S) :
    Calls Tryz.prog 46 #[.pointer (some ⟨b, 0, none⟩), .int .u8 85] w fun e w' => e = .returned (.tuple #[]) ∧ RAt base w' b (((S).halves (3)).ask (10) (((S).halves (3)).h) (((S).halves (3)).l)) ∧ Kp 50 base b w w' := by
  have ch := hA.ch
  simp only [Nat.reduceAdd] at ch
  have cl := hA.cl
  simp only [Nat.reduceAdd] at cl
  have hK0 := Kp.refl 50 base b w
  go_enter Tryz.func46, Tryz.ntmps46
  go_wp2_with (go_at_call 42; refine (rhalves base b _ (S) _ (by decide) (by decide) hA).mono ?_; clear hA; rintro e1 w1 ⟨rfl, hA1, hN1⟩; have hK1 := hK0.trans hN1; clear hN1 hK0; have ch1 := hA1.ch; simp only [Nat.reduceAdd] at ch1; have cl1 := hA1.cl; simp only [Nat.reduceAdd] at cl1)
  go_still_tail 9, (by kernel_rfl)
  change wpList _ _ _ _ _ w1.drew
  have hA2 := hA1.drew
  have hK2 := hK1.drew
  clear hA1 hK1
  generalize w1.drew = w2 at hA2 hK2 ⊢
  have ch2 := hA2.ch
  simp only [Nat.reduceAdd] at ch2
  have cl2 := hA2.cl
  simp only [Nat.reduceAdd] at cl2
  go_wp2_with (go_at_call 39; refine (rask base b _ ((S).halves (3)) _ _ _ hA2 (by first | omega | (simp only [St.ops_ask, St.ops_put, St.ops_whole, St.ops_halves, St.ops_low, St.ops_keep, List.length_append, List.length_cons, List.length_nil]; omega))).mono ?_; clear hA2; rintro e3 w3 ⟨rfl, hA3, hN3⟩; have hK3 := hK2.trans hN3; clear hN3 hK2; have ch3 := hA3.ch; simp only [Nat.reduceAdd] at ch3; have cl3 := hA3.cl; simp only [Nat.reduceAdd] at cl3)
  go_end0
  exact ⟨rfl, hA3, hK3⟩
set_option maxRecDepth 100000 in
set_option maxHeartbeats 200000 in
theorem r_impulse_85 (base b : Nat) (w : World) (S : St)  (hl : S.ops.length ≤ 800) (hA : RAt base w b S) :
    Calls Tryz.prog 46 #[.pointer (some ⟨b, 0, none⟩), .int .u8 85] w fun e w' => e = .returned (.tuple #[]) ∧ RAt base w' b ((St.fHalved 3 (St.fBoth 10)) S) ∧ Kp 50 base b w w' := by
  refine (r_impulse_85_v base b w S  hl hA).mono ?_
  rintro e w' ⟨he, hA', hK'⟩
  exact ⟨he, hA'.eq (by first | rfl | simp [St.fBoth, St.fHalved]), hK'⟩
set_option maxRecDepth 100000 in
set_option maxHeartbeats 400000 in
theorem r_impulse_86_v0 (base b : Nat) (w : World) (S : St)   (t0 : decide ((S).p ≤ 128) = true) (hl : S.ops.length ≤ 800) (hA : RAt base w b S) :
    Calls Tryz.prog 46 #[.pointer (some ⟨b, 0, none⟩), .int .u8 86] w fun e w' => e = .returned (.tuple #[]) ∧ RAt base w' b ((S).ask (28) ((S).p) (0)) ∧ Kp 50 base b w w' := by
  have cp := hA.cp
  have hK0 := Kp.refl 50 base b w
  go_enter Tryz.func46, Tryz.ntmps46
  go_wp2_with (go_at_call 39; refine (rask base b _ (S) _ _ _ hA (by first | omega | (simp only [St.ops_ask, St.ops_put, St.ops_whole, St.ops_halves, St.ops_low, St.ops_keep, List.length_append, List.length_cons, List.length_nil]; omega))).mono ?_; clear hA; rintro e1 w1 ⟨rfl, hA1, hN1⟩; have hK1 := hK0.trans hN1; clear hN1 hK0; have cp1 := hA1.cp)
  go_end0
  exact ⟨rfl, hA1, hK1⟩
set_option maxRecDepth 100000 in
set_option maxHeartbeats 400000 in
theorem r_impulse_86_v1 (base b : Nat) (w : World) (S : St)   (t0 : decide ((S).p ≤ 128) = false) (hl : S.ops.length ≤ 800) (hA : RAt base w b S) :
    Calls Tryz.prog 46 #[.pointer (some ⟨b, 0, none⟩), .int .u8 86] w fun e w' => e = .returned (.tuple #[]) ∧ RAt base w' b (S) ∧ Kp 50 base b w w' := by
  have cp := hA.cp
  have hK0 := Kp.refl 50 base b w
  go_enter Tryz.func46, Tryz.ntmps46
  go_wp2
  go_end0
  exact ⟨rfl, hA, hK0⟩
set_option maxRecDepth 100000 in
set_option maxHeartbeats 200000 in
theorem r_impulse_86 (base b : Nat) (w : World) (S : St)  (hl : S.ops.length ≤ 800) (hA : RAt base w b S) :
    Calls Tryz.prog 46 #[.pointer (some ⟨b, 0, none⟩), .int .u8 86] w fun e w' => e = .returned (.tuple #[]) ∧ RAt base w' b ((St.fUpTo 128 (St.fParam 28)) S) ∧ Kp 50 base b w w' := by
  by_cases z0 : ((S).p ≤ 128)
  · refine (r_impulse_86_v0 base b w S  (by first | omega | (simp; omega) | (simp [*]; done) | simpa using ‹_›) hl hA).mono ?_
    rintro e w' ⟨he, hA', hK'⟩
    exact ⟨he, hA'.eq (by first | (simp [St.fParam, St.fUpTo, St.fUp, z0]; done) | (simp [St.fParam, St.fUpTo, St.fUp, z0, Int.min_def]; done) | (simp [St.fParam, St.fUpTo, St.fUp, z0, Int.min_def]; omega) | (have hmin := Int.min_def; simp only [St.fParam, St.fUpTo, St.fUp, Int.min_def]; split <;> first | rfl | omega)), hK'⟩
  · refine (r_impulse_86_v1 base b w S  (by first | omega | (simp; omega) | (simp [*]; done) | simpa using ‹_›) hl hA).mono ?_
    rintro e w' ⟨he, hA', hK'⟩
    exact ⟨he, hA'.eq (by first | (simp [St.fParam, St.fUpTo, St.fUp, z0]; done) | (simp [St.fParam, St.fUpTo, St.fUp, z0, Int.min_def]; done) | (simp [St.fParam, St.fUpTo, St.fUp, z0, Int.min_def]; omega) | (have hmin := Int.min_def; simp only [St.fParam, St.fUpTo, St.fUp, Int.min_def]; split <;> first | rfl | omega)), hK'⟩
set_option maxRecDepth 100000 in
set_option maxHeartbeats 400000 in
theorem r_impulse_87_v (base b : Nat) (w : World) (S : St)    (hl : S.ops.length ≤ 800) (hA : RAt base w b S) :
    Calls Tryz.prog 46 #[.pointer (some ⟨b, 0, none⟩), .int .u8 87] w fun e w' => e = .returned (.tuple #[]) ∧ RAt base w' b (((S).whole (14)).ask (29) (((S).whole (14)).h) (((S).whole (14)).l)) ∧ Kp 50 base b w w' := by
  have ch := hA.ch
  simp only [Nat.reduceAdd] at ch
  have cl := hA.cl
  simp only [Nat.reduceAdd] at cl
  have hK0 := Kp.refl 50 base b w
  go_enter Tryz.func46, Tryz.ntmps46
  go_wp2_with (go_at_call 41; refine (rwhole base b _ (S) _ (by decide) (by decide) hA).mono ?_; clear hA; rintro e1 w1 ⟨rfl, hA1, hN1⟩; have hK1 := hK0.trans hN1; clear hN1 hK0; have ch1 := hA1.ch; simp only [Nat.reduceAdd] at ch1; have cl1 := hA1.cl; simp only [Nat.reduceAdd] at cl1)
  go_still_tail 9, (by kernel_rfl)
  change wpList _ _ _ _ _ w1.drew
  have hA2 := hA1.drew
  have hK2 := hK1.drew
  clear hA1 hK1
  generalize w1.drew = w2 at hA2 hK2 ⊢
  have ch2 := hA2.ch
  simp only [Nat.reduceAdd] at ch2
  have cl2 := hA2.cl
  simp only [Nat.reduceAdd] at cl2
  go_wp2_with (go_at_call 39; refine (rask base b _ ((S).whole (14)) _ _ _ hA2 (by first | omega | (simp only [St.ops_ask, St.ops_put, St.ops_whole, St.ops_halves, St.ops_low, St.ops_keep, List.length_append, List.length_cons, List.length_nil]; omega))).mono ?_; clear hA2; rintro e3 w3 ⟨rfl, hA3, hN3⟩; have hK3 := hK2.trans hN3; clear hN3 hK2; have ch3 := hA3.ch; simp only [Nat.reduceAdd] at ch3; have cl3 := hA3.cl; simp only [Nat.reduceAdd] at cl3)
  go_end0
  exact ⟨rfl, hA3, hK3⟩
set_option maxRecDepth 100000 in
set_option maxHeartbeats 200000 in
theorem r_impulse_87 (base b : Nat) (w : World) (S : St)  (hl : S.ops.length ≤ 800) (hA : RAt base w b S) :
    Calls Tryz.prog 46 #[.pointer (some ⟨b, 0, none⟩), .int .u8 87] w fun e w' => e = .returned (.tuple #[]) ∧ RAt base w' b ((St.fWholly 14 (St.fBoth 29)) S) ∧ Kp 50 base b w w' := by
  refine (r_impulse_87_v base b w S  hl hA).mono ?_
  rintro e w' ⟨he, hA', hK'⟩
  exact ⟨he, hA'.eq (by first | rfl | simp [St.fBoth, St.fWholly]), hK'⟩
set_option maxRecDepth 100000 in
set_option maxHeartbeats 400000 in
theorem r_impulse_88_v (base b : Nat) (w : World) (S : St)    (hl : S.ops.length ≤ 800) (hA : RAt base w b S) :
    Calls Tryz.prog 46 #[.pointer (some ⟨b, 0, none⟩), .int .u8 88] w fun e w' => e = .returned (.tuple #[]) ∧ RAt base w' b ((S).ask (16) (wrap64 ((S).p + wrap64 ((S).p.tdiv 128))) (0)) ∧ Kp 50 base b w w' := by
  have cp := hA.cp
  have hK0 := Kp.refl 50 base b w
  go_enter Tryz.func46, Tryz.ntmps46
  go_wp2_with (first | (go_at_call 54; refine (rpan _ _).mono ?_; rintro _ wq ⟨rfl, rfl⟩) | (go_at_call 39; refine (rask base b _ (S) _ _ _ hA (by first | omega | (simp only [St.ops_ask, St.ops_put, St.ops_whole, St.ops_halves, St.ops_low, St.ops_keep, List.length_append, List.length_cons, List.length_nil]; omega))).mono ?_; clear hA; rintro e1 w1 ⟨rfl, hA1, hN1⟩; have hK1 := hK0.trans hN1; clear hN1 hK0; have cp1 := hA1.cp))
  go_end0
  exact ⟨rfl, hA1, hK1⟩
set_option maxRecDepth 100000 in
set_option maxHeartbeats 200000 in
theorem r_impulse_88 (base b : Nat) (w : World) (S : St)  (hl : S.ops.length ≤ 800) (hA : RAt base w b S) :
    Calls Tryz.prog 46 #[.pointer (some ⟨b, 0, none⟩), .int .u8 88] w fun e w' => e = .returned (.tuple #[]) ∧ RAt base w' b ((St.fPan) S) ∧ Kp 50 base b w w' := by
  refine (r_impulse_88_v base b w S  hl hA).mono ?_
  rintro e w' ⟨he, hA', hK'⟩
  exact ⟨he, hA'.eq (by first | rfl | simp [St.fPan]), hK'⟩
set_option maxRecDepth 100000 in
set_option maxHeartbeats 400000 in
theorem r_impulse_89_v (base b : Nat) (w : World) (S : St)    (hl : S.ops.length ≤ 800) (hA : RAt base w b S) :
    Calls Tryz.prog 46 #[.pointer (some ⟨b, 0, none⟩), .int .u8 89] w fun e w' => e = .returned (.tuple #[]) ∧ RAt base w' b (((S).halves (15)).ask (46) (((S).halves (15)).h) (((S).halves (15)).l)) ∧ Kp 50 base b w w' := by
  have ch := hA.ch
  simp only [Nat.reduceAdd] at ch
  have cl := hA.cl
  simp only [Nat.reduceAdd] at cl
  have hK0 := Kp.refl 50 base b w
  go_enter Tryz.func46, Tryz.ntmps46
  go_wp2_with (go_at_call 42; refine (rhalves base b _ (S) _ (by decide) (by decide) hA).mono ?_; clear hA; rintro e1 w1 ⟨rfl, hA1, hN1⟩; have hK1 := hK0.trans hN1; clear hN1 hK0; have ch1 := hA1.ch; simp only [Nat.reduceAdd] at ch1; have cl1 := hA1.cl; simp only [Nat.reduceAdd] at cl1)
  go_still_tail 9, (by kernel_rfl)
  change wpList _ _ _ _ _ w1.drew
  have hA2 := hA1.drew
  have hK2 := hK1.drew
  clear hA1 hK1
  generalize w1.drew = w2 at hA2 hK2 ⊢
  have ch2 := hA2.ch
  simp only [Nat.reduceAdd] at ch2
  have cl2 := hA2.cl
  simp only [Nat.reduceAdd] at cl2
  go_wp2_with (go_at_call 39; refine (rask base b _ ((S).halves (15)) _ _ _ hA2 (by first | omega | (simp only [St.ops_ask, St.ops_put, St.ops_whole, St.ops_halves, St.ops_low, St.ops_keep, List.length_append, List.length_cons, List.length_nil]; omega))).mono ?_; clear hA2; rintro e3 w3 ⟨rfl, hA3, hN3⟩; have hK3 := hK2.trans hN3; clear hN3 hK2; have ch3 := hA3.ch; simp only [Nat.reduceAdd] at ch3; have cl3 := hA3.cl; simp only [Nat.reduceAdd] at cl3)
  go_end0
  exact ⟨rfl, hA3, hK3⟩
set_option maxRecDepth 100000 in
set_option maxHeartbeats 200000 in
theorem r_impulse_89 (base b : Nat) (w : World) (S : St)  (hl : S.ops.length ≤ 800) (hA : RAt base w b S) :
    Calls Tryz.prog 46 #[.pointer (some ⟨b, 0, none⟩), .int .u8 89] w fun e w' => e = .returned (.tuple #[]) ∧ RAt base w' b ((St.fHalved 15 (St.fBoth 46)) S) ∧ Kp 50 base b w w' := by
  refine (r_impulse_89_v base b w S  hl hA).mono ?_
  rintro e w' ⟨he, hA', hK'⟩
  exact ⟨he, hA'.eq (by first | rfl | simp [St.fBoth, St.fHalved]), hK'⟩
set_option maxRecDepth 100000 in
set_option maxHeartbeats 400000 in
theorem r_impulse_90_v0 (base b : Nat) (w : World) (S : St)   (t0 : (S).p < 128) (hl : S.ops.length ≤ 800) (hA : RAt base w b S) :
    Calls Tryz.prog 46 #[.pointer (some ⟨b, 0, none⟩), .int .u8 90] w fun e w' => e = .returned (.tuple #[]) ∧ RAt base w' b ((S).ask (42) ((S).p) (0)) ∧ Kp 50 base b w w' := by
  have cp := hA.cp
  have hK0 := Kp.refl 50 base b w
  go_enter Tryz.func46, Tryz.ntmps46
  go_wp2_with (go_at_call 39; refine (rask base b _ (S) _ _ _ hA (by first | omega | (simp only [St.ops_ask, St.ops_put, St.ops_whole, St.ops_halves, St.ops_low, St.ops_keep, List.length_append, List.length_cons, List.length_nil]; omega))).mono ?_; clear hA; rintro e1 w1 ⟨rfl, hA1, hN1⟩; have hK1 := hK0.trans hN1; clear hN1 hK0; have cp1 := hA1.cp)
  go_end0
  exact ⟨rfl, hA1, hK1⟩
set_option maxRecDepth 100000 in
set_option maxHeartbeats 400000 in
theorem r_impulse_90_v1 (base b : Nat) (w : World) (S : St)   (t0 : 128 ≤ (S).p) (t1 : (S).p < 144) (hl : S.ops.length ≤ 800) (hA : RAt base w b S) :
    Calls Tryz.prog 46 #[.pointer (some ⟨b, 0, none⟩), .int .u8 90] w fun e w' => e = .returned (.tuple #[]) ∧ RAt base w' b ((S).ask (43) (8 * ((S).p - 128)) (0)) ∧ Kp 50 base b w w' := by
  have cp := hA.cp
  have hK0 := Kp.refl 50 base b w
  go_enter Tryz.func46, Tryz.ntmps46
  go_wp2_with (go_at_call 39; refine (rask base b _ (S) _ _ _ hA (by first | omega | (simp only [St.ops_ask, St.ops_put, St.ops_whole, St.ops_halves, St.ops_low, St.ops_keep, List.length_append, List.length_cons, List.length_nil]; omega))).mono ?_; clear hA; rintro e1 w1 ⟨rfl, hA1, hN1⟩; have hK1 := hK0.trans hN1; clear hN1 hK0; have cp1 := hA1.cp)
  go_end0
  exact ⟨rfl, hA1, hK1⟩
set_option maxRecDepth 100000 in
set_option maxHeartbeats 400000 in
theorem r_impulse_90_v2 (base b : Nat) (w : World) (S : St)   (t0 : 144 ≤ (S).p) (hl : S.ops.length ≤ 800) (hA : RAt base w b S) :
    Calls Tryz.prog 46 #[.pointer (some ⟨b, 0, none⟩), .int .u8 90] w fun e w' => e = .returned (.tuple #[]) ∧ RAt base w' b (S) ∧ Kp 50 base b w w' := by
  have cp := hA.cp
  have hK0 := Kp.refl 50 base b w
  go_enter Tryz.func46, Tryz.ntmps46
  go_wp2
  go_end0
  exact ⟨rfl, hA, hK0⟩
set_option maxRecDepth 100000 in
set_option maxHeartbeats 200000 in
theorem r_impulse_90 (base b : Nat) (w : World) (S : St)  (hl : S.ops.length ≤ 800) (hA : RAt base w b S) :
    Calls Tryz.prog 46 #[.pointer (some ⟨b, 0, none⟩), .int .u8 90] w fun e w' => e = .returned (.tuple #[]) ∧ RAt base w' b ((St.fFilter) S) ∧ Kp 50 base b w w' := by
  by_cases z0 : (S).p < 128
  · refine (r_impulse_90_v0 base b w S  (by first | omega | (simp; omega) | (simp [*]; done) | simpa using ‹_›) hl hA).mono ?_
    rintro e w' ⟨he, hA', hK'⟩
    exact ⟨he, hA'.eq (by first | (simp [St.fFilter, z0]; done) | (simp [St.fFilter, z0, Int.min_def]; done) | (simp [St.fFilter, z0, Int.min_def]; omega) | (have hmin := Int.min_def; simp only [St.fFilter, Int.min_def]; split <;> first | rfl | omega)), hK'⟩
  · by_cases z1 : (S).p < 144
    · refine (r_impulse_90_v1 base b w S  (by first | omega | (simp; omega) | (simp [*]; done) | simpa using ‹_›) (by first | omega | (simp; omega) | (simp [*]; done) | simpa using ‹_›) hl hA).mono ?_
      rintro e w' ⟨he, hA', hK'⟩
      exact ⟨he, hA'.eq (by first | (simp [St.fFilter, z0, z1]; done) | (simp [St.fFilter, z0, z1, Int.min_def]; done) | (simp [St.fFilter, z0, z1, Int.min_def]; omega) | (have hmin := Int.min_def; simp only [St.fFilter, Int.min_def]; split <;> first | rfl | omega)), hK'⟩
    · refine (r_impulse_90_v2 base b w S  (by first | omega | (simp; omega) | (simp [*]; done) | simpa using ‹_›) hl hA).mono ?_
      rintro e w' ⟨he, hA', hK'⟩
      exact ⟨he, hA'.eq (by first | (simp [St.fFilter, z0, z1]; done) | (simp [St.fFilter, z0, z1, Int.min_def]; done) | (simp [St.fFilter, z0, z1, Int.min_def]; omega) | (have hmin := Int.min_def; simp only [St.fFilter, Int.min_def]; split <;> first | rfl | omega)), hK'⟩
set_option maxRecDepth 100000 in
set_option maxHeartbeats 200000 in
theorem r_impulse (base b : Nat) (w : World) (S : St) (c : Int) (F : St → St) (hc : c = 65 ∨ c = 66 ∨ c = 67 ∨ c = 68 ∨ c = 69 ∨ c = 70 ∨ c = 71 ∨ c = 72 ∨ c = 73 ∨ c = 74 ∨ c = 75 ∨ c = 76 ∨ c = 77 ∨ c = 78 ∨ c = 79 ∨ c = 80 ∨ c = 81 ∨ c = 82 ∨ c = 83 ∨ c = 84 ∨ c = 85 ∨ c = 86 ∨ c = 87 ∨ c = 88 ∨ c = 89 ∨ c = 90) (h : tImpulse c = some F) (hl : S.ops.length ≤ 800) (hA : RAt base w b S) :
    Calls Tryz.prog 46 #[.pointer (some ⟨b, 0, none⟩), .int .u8 c] w fun e w' => e = .returned (.tuple #[]) ∧ RAt base w' b (F S) ∧ Kp 50 base b w w' := by
  rcases hc with rfl | rfl | rfl | rfl | rfl | rfl | rfl | rfl | rfl | rfl | rfl | rfl | rfl | rfl | rfl | rfl | rfl | rfl | rfl | rfl | rfl | rfl | rfl | rfl | rfl | rfl
  · obtain rfl : (St.fUnless0 (St.fParam 36)) = F := Option.some.inj ((show tImpulse 65 = some (St.fUnless0 (St.fParam 36)) from rfl).symm.trans h)
    exact r_impulse_65 base b w S hl hA
  · obtain rfl : (St.fParam 32) = F := Option.some.inj ((show tImpulse 66 = some (St.fParam 32) from rfl).symm.trans h)
    exact r_impulse_66 base b w S hl hA
  · obtain rfl : (St.fParam 33) = F := Option.some.inj ((show tImpulse 67 = some (St.fParam 33) from rfl).symm.trans h)
    exact r_impulse_67 base b w S hl hA
  · obtain rfl : (St.fWholly 1 (St.slide)) = F := Option.some.inj ((show tImpulse 68 = some (St.fWholly 1 (St.slide)) from rfl).symm.trans h)
    exact r_impulse_68 base b w S hl hA
  · obtain rfl : (St.fWholly 5 (St.fDown)) = F := Option.some.inj ((show tImpulse 69 = some (St.fWholly 5 (St.fDown)) from rfl).symm.trans h)
    exact r_impulse_69 base b w S hl hA
  · obtain rfl : (St.fWholly 5 (St.fUp)) = F := Option.some.inj ((show tImpulse 70 = some (St.fWholly 5 (St.fUp)) from rfl).symm.trans h)
    exact r_impulse_70 base b w S hl hA
  · obtain rfl : (St.fWholly 2 (St.fParam 8)) = F := Option.some.inj ((show tImpulse 71 = some (St.fWholly 2 (St.fParam 8)) from rfl).symm.trans h)
    exact r_impulse_71 base b w S hl hA
  · obtain rfl : (St.fHalved 3 (St.fBoth 9)) = F := Option.some.inj ((show tImpulse 72 = some (St.fHalved 3 (St.fBoth 9)) from rfl).symm.trans h)
    exact r_impulse_72 base b w S hl hA
  · obtain rfl : (St.fWholly 6 (St.fTremor)) = F := Option.some.inj ((show tImpulse 73 = some (St.fWholly 6 (St.fTremor)) from rfl).symm.trans h)
    exact r_impulse_73 base b w S hl hA
  · obtain rfl : (St.fWholly 7 (St.fBoth 1)) = F := Option.some.inj ((show tImpulse 74 = some (St.fWholly 7 (St.fBoth 1)) from rfl).symm.trans h)
    exact r_impulse_74 base b w S hl hA
  · obtain rfl : (St.fWholly 1 (St.fVibratoSlide)) = F := Option.some.inj ((show tImpulse 75 = some (St.fWholly 1 (St.fVibratoSlide)) from rfl).symm.trans h)
    exact r_impulse_75 base b w S hl hA
  · obtain rfl : (St.fWholly 1 (St.fToneSlide)) = F := Option.some.inj ((show tImpulse 76 = some (St.fWholly 1 (St.fToneSlide)) from rfl).symm.trans h)
    exact r_impulse_76 base b w S hl hA
  · obtain rfl : (St.fUpTo 64 (St.fParam 30)) = F := Option.some.inj ((show tImpulse 77 = some (St.fUpTo 64 (St.fParam 30)) from rfl).symm.trans h)
    exact r_impulse_77 base b w S hl hA
  · obtain rfl : (St.fWholly 8 (St.fBoth 31)) = F := Option.some.inj ((show tImpulse 78 = some (St.fWholly 8 (St.fBoth 31)) from rfl).symm.trans h)
    exact r_impulse_78 base b w S hl hA
  · obtain rfl : (St.fWholly 4 (St.fOffset)) = F := Option.some.inj ((show tImpulse 79 = some (St.fWholly 4 (St.fOffset)) from rfl).symm.trans h)
    exact r_impulse_79 base b w S hl hA
  · obtain rfl : (St.fWholly 9 (St.fPanSlide)) = F := Option.some.inj ((show tImpulse 80 = some (St.fWholly 9 (St.fPanSlide)) from rfl).symm.trans h)
    exact r_impulse_80 base b w S hl hA
  · obtain rfl : (St.fWholly 10 (St.fRetrig)) = F := Option.some.inj ((show tImpulse 81 = some (St.fWholly 10 (St.fRetrig)) from rfl).symm.trans h)
    exact r_impulse_81 base b w S hl hA
  · obtain rfl : (St.fHalved 11 (St.fBoth 11)) = F := Option.some.inj ((show tImpulse 82 = some (St.fHalved 11 (St.fBoth 11)) from rfl).symm.trans h)
    exact r_impulse_82 base b w S hl hA
  · obtain rfl : (St.fWholly 12 (St.fByHigh tSpecial)) = F := Option.some.inj ((show tImpulse 83 = some (St.fWholly 12 (St.fByHigh tSpecial)) from rfl).symm.trans h)
    exact r_impulse_83 base b w S hl hA
  · obtain rfl : (St.fWholly 13 (St.fTempo)) = F := Option.some.inj ((show tImpulse 84 = some (St.fWholly 13 (St.fTempo)) from rfl).symm.trans h)
    exact r_impulse_84 base b w S hl hA
  · obtain rfl : (St.fHalved 3 (St.fBoth 10)) = F := Option.some.inj ((show tImpulse 85 = some (St.fHalved 3 (St.fBoth 10)) from rfl).symm.trans h)
    exact r_impulse_85 base b w S hl hA
  · obtain rfl : (St.fUpTo 128 (St.fParam 28)) = F := Option.some.inj ((show tImpulse 86 = some (St.fUpTo 128 (St.fParam 28)) from rfl).symm.trans h)
    exact r_impulse_86 base b w S hl hA
  · obtain rfl : (St.fWholly 14 (St.fBoth 29)) = F := Option.some.inj ((show tImpulse 87 = some (St.fWholly 14 (St.fBoth 29)) from rfl).symm.trans h)
    exact r_impulse_87 base b w S hl hA
  · obtain rfl : (St.fPan) = F := Option.some.inj ((show tImpulse 88 = some (St.fPan) from rfl).symm.trans h)
    exact r_impulse_88 base b w S hl hA
  · obtain rfl : (St.fHalved 15 (St.fBoth 46)) = F := Option.some.inj ((show tImpulse 89 = some (St.fHalved 15 (St.fBoth 46)) from rfl).symm.trans h)
    exact r_impulse_89 base b w S hl hA
  · obtain rfl : (St.fFilter) = F := Option.some.inj ((show tImpulse 90 = some (St.fFilter) from rfl).symm.trans h)
    exact r_impulse_90 base b w S hl hA

end Go.Proofs.YtappnglfmidjoaaGreat.D
