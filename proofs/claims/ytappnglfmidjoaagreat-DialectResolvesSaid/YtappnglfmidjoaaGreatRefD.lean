/- The reference: special, scream. -/
import Derived.Test.YtappnglfmidjoaaGreatRefC
import Derived.Test.YtappnglfmidjoaaGreatCellD
set_option linter.unusedVariables false
set_option linter.unusedSimpArgs false
namespace Go.Proofs.YtappnglfmidjoaaGreat.D
open Go Go.RowKit
open Go.Proofs.YtappnglfmidjoaaGreat.DB
theorem rhas_v {c : Int} {v : Bool} (h : hasB [68, 69, 70, 73, 74, 75, 76, 81, 82, 83] c = v) (w : World) : Calls Tryz.prog 27 #[.string { data := #[68, 69, 70, 73, 74, 75, 76, 81, 82, 83] }, .int .u8 c] w fun e w' => e = .returned (.bool v) ∧ w = w' := (rhas { data := #[68, 69, 70, 73, 74, 75, 76, 81, 82, 83] } c w (by decide)).mono fun _ _ ⟨h1, h2⟩ => ⟨h ▸ h1, h2.symm⟩
set_option maxRecDepth 100000 in
set_option maxHeartbeats 400000 in
theorem r_special_3_v0 (base b : Nat) (w : World) (S : St) (hk : S.h = 3)   (hl : S.ops.length ≤ 800) (hA : RAt base w b S) :
    Calls Tryz.prog 61 #[.pointer (some ⟨b, 0, none⟩)] w fun e w' => e = .returned (.tuple #[]) ∧ RAt base w' b (((S).ask (25) ((S).l.tmod 4) (0))) ∧ Kp 50 base b w w' := by
  have ch := hA.ch
  simp only [Nat.reduceAdd] at ch
  have cl := hA.cl
  simp only [Nat.reduceAdd] at cl
  rw [hk] at ch
  have hK0 := Kp.refl 50 base b w
  go_enter Tryz.func61, Tryz.ntmps61
  go_wp2_with (first | (go_at_call 39; refine (rask base b _ (S) _ _ _ hA (by first | omega | (simp only [St.ops_ask, St.ops_put, St.ops_whole, St.ops_halves, St.ops_low, St.ops_keep, List.length_append, List.length_cons, List.length_nil]; omega))).mono ?_; clear hA; rintro e1 w1 ⟨rfl, hA1, hN1⟩; have hK1 := hK0.trans hN1; clear hN1 hK0; have ch1 := hA1.ch; simp only [Nat.reduceAdd] at ch1; have cl1 := hA1.cl; simp only [Nat.reduceAdd] at cl1) | (go_at_call 59; refine (r_rows_none base b _ ((S).ask (25) ((S).l.tmod 4) (0)) (by simp [St.ask, hk]) (by simp [St.ask, hk]) (by simp [St.ask, hk]) (by simp [St.ask, hk]) (by first | omega | (simp only [St.ops_ask, St.ops_put, St.ops_whole, St.ops_halves, St.ops_low, St.ops_keep, List.length_append, List.length_cons, List.length_nil]; omega)) hA1).mono ?_; clear hA1; rintro e2 w2 ⟨rfl, hA2, hN2⟩; have hK2 := hK1.trans hN2; clear hN2 hK1; have ch2 := hA2.ch; simp only [Nat.reduceAdd] at ch2; have cl2 := hA2.cl; simp only [Nat.reduceAdd] at cl2))
  go_end0
  exact ⟨rfl, hA2, hK2⟩
set_option maxRecDepth 100000 in
set_option maxHeartbeats 400000 in
theorem r_special_4_v0 (base b : Nat) (w : World) (S : St) (hk : S.h = 4)   (hl : S.ops.length ≤ 800) (hA : RAt base w b S) :
    Calls Tryz.prog 61 #[.pointer (some ⟨b, 0, none⟩)] w fun e w' => e = .returned (.tuple #[]) ∧ RAt base w' b (((S).ask (26) ((S).l.tmod 4) (0))) ∧ Kp 50 base b w w' := by
  have ch := hA.ch
  simp only [Nat.reduceAdd] at ch
  have cl := hA.cl
  simp only [Nat.reduceAdd] at cl
  rw [hk] at ch
  have hK0 := Kp.refl 50 base b w
  go_enter Tryz.func61, Tryz.ntmps61
  go_wp2_with (first | (go_at_call 39; refine (rask base b _ (S) _ _ _ hA (by first | omega | (simp only [St.ops_ask, St.ops_put, St.ops_whole, St.ops_halves, St.ops_low, St.ops_keep, List.length_append, List.length_cons, List.length_nil]; omega))).mono ?_; clear hA; rintro e1 w1 ⟨rfl, hA1, hN1⟩; have hK1 := hK0.trans hN1; clear hN1 hK0; have ch1 := hA1.ch; simp only [Nat.reduceAdd] at ch1; have cl1 := hA1.cl; simp only [Nat.reduceAdd] at cl1) | (go_at_call 59; refine (r_rows_none base b _ ((S).ask (26) ((S).l.tmod 4) (0)) (by simp [St.ask, hk]) (by simp [St.ask, hk]) (by simp [St.ask, hk]) (by simp [St.ask, hk]) (by first | omega | (simp only [St.ops_ask, St.ops_put, St.ops_whole, St.ops_halves, St.ops_low, St.ops_keep, List.length_append, List.length_cons, List.length_nil]; omega)) hA1).mono ?_; clear hA1; rintro e2 w2 ⟨rfl, hA2, hN2⟩; have hK2 := hK1.trans hN2; clear hN2 hK1; have ch2 := hA2.ch; simp only [Nat.reduceAdd] at ch2; have cl2 := hA2.cl; simp only [Nat.reduceAdd] at cl2))
  go_end0
  exact ⟨rfl, hA2, hK2⟩
set_option maxRecDepth 100000 in
set_option maxHeartbeats 400000 in
theorem r_special_7_v0 (base b : Nat) (w : World) (S : St) (hk : S.h = 7)  (t0 : (S).l ≤ 2) (hl : S.ops.length ≤ 800) (hA : RAt base w b S) :
    Calls Tryz.prog 61 #[.pointer (some ⟨b, 0, none⟩)] w fun e w' => e = .returned (.tuple #[]) ∧ RAt base w' b (((S).ask (41) ((S).l) (0))) ∧ Kp 50 base b w w' := by
  have ch := hA.ch
  simp only [Nat.reduceAdd] at ch
  have cl := hA.cl
  simp only [Nat.reduceAdd] at cl
  rw [hk] at ch
  have hK0 := Kp.refl 50 base b w
  go_enter Tryz.func61, Tryz.ntmps61
  go_wp2_with (first | (go_at_call 39; refine (rask base b _ (S) _ _ _ hA (by first | omega | (simp only [St.ops_ask, St.ops_put, St.ops_whole, St.ops_halves, St.ops_low, St.ops_keep, List.length_append, List.length_cons, List.length_nil]; omega))).mono ?_; clear hA; rintro e1 w1 ⟨rfl, hA1, hN1⟩; have hK1 := hK0.trans hN1; clear hN1 hK0; have ch1 := hA1.ch; simp only [Nat.reduceAdd] at ch1; have cl1 := hA1.cl; simp only [Nat.reduceAdd] at cl1) | (go_at_call 59; refine (r_rows_none base b _ ((S).ask (41) ((S).l) (0)) (by simp [St.ask, hk]) (by simp [St.ask, hk]) (by simp [St.ask, hk]) (by simp [St.ask, hk]) (by first | omega | (simp only [St.ops_ask, St.ops_put, St.ops_whole, St.ops_halves, St.ops_low, St.ops_keep, List.length_append, List.length_cons, List.length_nil]; omega)) hA1).mono ?_; clear hA1; rintro e2 w2 ⟨rfl, hA2, hN2⟩; have hK2 := hK1.trans hN2; clear hN2 hK1; have ch2 := hA2.ch; simp only [Nat.reduceAdd] at ch2; have cl2 := hA2.cl; simp only [Nat.reduceAdd] at cl2))
  go_end0
  exact ⟨rfl, hA2, hK2⟩
set_option maxRecDepth 100000 in
set_option maxHeartbeats 400000 in
theorem r_special_7_v1 (base b : Nat) (w : World) (S : St) (hk : S.h = 7)  (t0 : 2 < (S).l) (t1 : (S).l ≤ 6) (hl : S.ops.length ≤ 800) (hA : RAt base w b S) :
    Calls Tryz.prog 61 #[.pointer (some ⟨b, 0, none⟩)] w fun e w' => e = .returned (.tuple #[]) ∧ RAt base w' b (((S).ask (40) ((S).l - 3) (0))) ∧ Kp 50 base b w w' := by
  have ch := hA.ch
  simp only [Nat.reduceAdd] at ch
  have cl := hA.cl
  simp only [Nat.reduceAdd] at cl
  rw [hk] at ch
  have hK0 := Kp.refl 50 base b w
  go_enter Tryz.func61, Tryz.ntmps61
  go_wp2_with (first | (go_at_call 39; refine (rask base b _ (S) _ _ _ hA (by first | omega | (simp only [St.ops_ask, St.ops_put, St.ops_whole, St.ops_halves, St.ops_low, St.ops_keep, List.length_append, List.length_cons, List.length_nil]; omega))).mono ?_; clear hA; rintro e1 w1 ⟨rfl, hA1, hN1⟩; have hK1 := hK0.trans hN1; clear hN1 hK0; have ch1 := hA1.ch; simp only [Nat.reduceAdd] at ch1; have cl1 := hA1.cl; simp only [Nat.reduceAdd] at cl1) | (go_at_call 59; refine (r_rows_none base b _ ((S).ask (40) ((S).l - 3) (0)) (by simp [St.ask, hk]) (by simp [St.ask, hk]) (by simp [St.ask, hk]) (by simp [St.ask, hk]) (by first | omega | (simp only [St.ops_ask, St.ops_put, St.ops_whole, St.ops_halves, St.ops_low, St.ops_keep, List.length_append, List.length_cons, List.length_nil]; omega)) hA1).mono ?_; clear hA1; rintro e2 w2 ⟨rfl, hA2, hN2⟩; have hK2 := hK1.trans hN2; clear hN2 hK1; have ch2 := hA2.ch; simp only [Nat.reduceAdd] at ch2; have cl2 := hA2.cl; simp only [Nat.reduceAdd] at cl2))
  go_end0
  exact ⟨rfl, hA2, hK2⟩
set_option maxRecDepth 100000 in
set_option maxHeartbeats 400000 in
theorem r_special_7_v2 (base b : Nat) (w : World) (S : St) (hk : S.h = 7)  (t0 : 6 < (S).l) (hl : S.ops.length ≤ 800) (hA : RAt base w b S) :
    Calls Tryz.prog 61 #[.pointer (some ⟨b, 0, none⟩)] w fun e w' => e = .returned (.tuple #[]) ∧ RAt base w' b ((S)) ∧ Kp 50 base b w w' := by
  have ch := hA.ch
  simp only [Nat.reduceAdd] at ch
  have cl := hA.cl
  simp only [Nat.reduceAdd] at cl
  rw [hk] at ch
  have hK0 := Kp.refl 50 base b w
  go_enter Tryz.func61, Tryz.ntmps61
  go_wp2_with (go_at_call 59; refine (r_rows_none base b _ (S) (by simp [St.ask, hk]) (by simp [St.ask, hk]) (by simp [St.ask, hk]) (by simp [St.ask, hk]) (by first | omega | (simp only [St.ops_ask, St.ops_put, St.ops_whole, St.ops_halves, St.ops_low, St.ops_keep, List.length_append, List.length_cons, List.length_nil]; omega)) hA).mono ?_; clear hA; rintro e1 w1 ⟨rfl, hA1, hN1⟩; have hK1 := hK0.trans hN1; clear hN1 hK0; have ch1 := hA1.ch; simp only [Nat.reduceAdd] at ch1; have cl1 := hA1.cl; simp only [Nat.reduceAdd] at cl1)
  go_end0
  exact ⟨rfl, hA1, hK1⟩
set_option maxRecDepth 100000 in
set_option maxHeartbeats 400000 in
theorem r_special_8_v0 (base b : Nat) (w : World) (S : St) (hk : S.h = 8)   (hl : S.ops.length ≤ 800) (hA : RAt base w b S) :
    Calls Tryz.prog 61 #[.pointer (some ⟨b, 0, none⟩)] w fun e w' => e = .returned (.tuple #[]) ∧ RAt base w' b (((S).ask (16) (wrap64 (wrap64 (17 * (S).l) + wrap64 ((wrap64 (17 * (S).l)).tdiv 128))) (0))) ∧ Kp 50 base b w w' := by
  have ch := hA.ch
  simp only [Nat.reduceAdd] at ch
  have cl := hA.cl
  simp only [Nat.reduceAdd] at cl
  rw [hk] at ch
  have hK0 := Kp.refl 50 base b w
  go_enter Tryz.func61, Tryz.ntmps61
  go_wp2_with (first | (go_at_call 54; refine (rpan _ _).mono ?_; rintro _ wq ⟨rfl, rfl⟩) | (go_at_call 39; refine (rask base b _ (S) _ _ _ hA (by first | omega | (simp only [St.ops_ask, St.ops_put, St.ops_whole, St.ops_halves, St.ops_low, St.ops_keep, List.length_append, List.length_cons, List.length_nil]; omega))).mono ?_; clear hA; rintro e1 w1 ⟨rfl, hA1, hN1⟩; have hK1 := hK0.trans hN1; clear hN1 hK0; have ch1 := hA1.ch; simp only [Nat.reduceAdd] at ch1; have cl1 := hA1.cl; simp only [Nat.reduceAdd] at cl1) | (go_at_call 59; refine (r_rows_none base b _ ((S).ask (16) (wrap64 (wrap64 (17 * (S).l) + wrap64 ((wrap64 (17 * (S).l)).tdiv 128))) (0)) (by simp [St.ask, hk]) (by simp [St.ask, hk]) (by simp [St.ask, hk]) (by simp [St.ask, hk]) (by first | omega | (simp only [St.ops_ask, St.ops_put, St.ops_whole, St.ops_halves, St.ops_low, St.ops_keep, List.length_append, List.length_cons, List.length_nil]; omega)) hA1).mono ?_; clear hA1; rintro e2 w2 ⟨rfl, hA2, hN2⟩; have hK2 := hK1.trans hN2; clear hN2 hK1; have ch2 := hA2.ch; simp only [Nat.reduceAdd] at ch2; have cl2 := hA2.cl; simp only [Nat.reduceAdd] at cl2))
  go_end0
  exact ⟨rfl, hA2, hK2⟩
set_option maxRecDepth 100000 in
set_option maxHeartbeats 400000 in
theorem r_special_9_v0 (base b : Nat) (w : World) (S : St) (hk : S.h = 9)  (t0 : (S).l ≤ 1) (hl : S.ops.length ≤ 800) (hA : RAt base w b S) :
    Calls Tryz.prog 61 #[.pointer (some ⟨b, 0, none⟩)] w fun e w' => e = .returned (.tuple #[]) ∧ RAt base w' b (((S).ask (44) ((S).l) (0))) ∧ Kp 50 base b w w' := by
  have ch := hA.ch
  simp only [Nat.reduceAdd] at ch
  have cl := hA.cl
  simp only [Nat.reduceAdd] at cl
  rw [hk] at ch
  have hK0 := Kp.refl 50 base b w
  go_enter Tryz.func61, Tryz.ntmps61
  go_wp2_with (first | (go_at_call 39; refine (rask base b _ (S) _ _ _ hA (by first | omega | (simp only [St.ops_ask, St.ops_put, St.ops_whole, St.ops_halves, St.ops_low, St.ops_keep, List.length_append, List.length_cons, List.length_nil]; omega))).mono ?_; clear hA; rintro e1 w1 ⟨rfl, hA1, hN1⟩; have hK1 := hK0.trans hN1; clear hN1 hK0; have ch1 := hA1.ch; simp only [Nat.reduceAdd] at ch1; have cl1 := hA1.cl; simp only [Nat.reduceAdd] at cl1) | (go_at_call 59; refine (r_rows_none base b _ ((S).ask (44) ((S).l) (0)) (by simp [St.ask, hk]) (by simp [St.ask, hk]) (by simp [St.ask, hk]) (by simp [St.ask, hk]) (by first | omega | (simp only [St.ops_ask, St.ops_put, St.ops_whole, St.ops_halves, St.ops_low, St.ops_keep, List.length_append, List.length_cons, List.length_nil]; omega)) hA1).mono ?_; clear hA1; rintro e2 w2 ⟨rfl, hA2, hN2⟩; have hK2 := hK1.trans hN2; clear hN2 hK1; have ch2 := hA2.ch; simp only [Nat.reduceAdd] at ch2; have cl2 := hA2.cl; simp only [Nat.reduceAdd] at cl2))
  go_end0
  exact ⟨rfl, hA2, hK2⟩
set_option maxRecDepth 100000 in
set_option maxHeartbeats 400000 in
theorem r_special_9_v1 (base b : Nat) (w : World) (S : St) (hk : S.h = 9)  (t0 : 1 < (S).l) (t1 : ((S).l == 15) = true) (hl : S.ops.length ≤ 800) (hA : RAt base w b S) :
    Calls Tryz.prog 61 #[.pointer (some ⟨b, 0, none⟩)] w fun e w' => e = .returned (.tuple #[]) ∧ RAt base w' b (((S).ask (45) (1) (0))) ∧ Kp 50 base b w w' := by
  have ch := hA.ch
  simp only [Nat.reduceAdd] at ch
  have cl := hA.cl
  simp only [Nat.reduceAdd] at cl
  rw [hk] at ch
  have hK0 := Kp.refl 50 base b w
  go_enter Tryz.func61, Tryz.ntmps61
  go_wp2_with (first | (go_at_call 39; refine (rask base b _ (S) _ _ _ hA (by first | omega | (simp only [St.ops_ask, St.ops_put, St.ops_whole, St.ops_halves, St.ops_low, St.ops_keep, List.length_append, List.length_cons, List.length_nil]; omega))).mono ?_; clear hA; rintro e1 w1 ⟨rfl, hA1, hN1⟩; have hK1 := hK0.trans hN1; clear hN1 hK0; have ch1 := hA1.ch; simp only [Nat.reduceAdd] at ch1; have cl1 := hA1.cl; simp only [Nat.reduceAdd] at cl1) | (go_at_call 59; refine (r_rows_none base b _ ((S).ask (45) (1) (0)) (by simp [St.ask, hk]) (by simp [St.ask, hk]) (by simp [St.ask, hk]) (by simp [St.ask, hk]) (by first | omega | (simp only [St.ops_ask, St.ops_put, St.ops_whole, St.ops_halves, St.ops_low, St.ops_keep, List.length_append, List.length_cons, List.length_nil]; omega)) hA1).mono ?_; clear hA1; rintro e2 w2 ⟨rfl, hA2, hN2⟩; have hK2 := hK1.trans hN2; clear hN2 hK1; have ch2 := hA2.ch; simp only [Nat.reduceAdd] at ch2; have cl2 := hA2.cl; simp only [Nat.reduceAdd] at cl2))
  go_end0
  exact ⟨rfl, hA2, hK2⟩
set_option maxRecDepth 100000 in
set_option maxHeartbeats 400000 in
theorem r_special_9_v2 (base b : Nat) (w : World) (S : St) (hk : S.h = 9)  (t0 : 1 < (S).l) (t1 : ((S).l == 15) = false) (hl : S.ops.length ≤ 800) (hA : RAt base w b S) :
    Calls Tryz.prog 61 #[.pointer (some ⟨b, 0, none⟩)] w fun e w' => e = .returned (.tuple #[]) ∧ RAt base w' b ((S)) ∧ Kp 50 base b w w' := by
  have ch := hA.ch
  simp only [Nat.reduceAdd] at ch
  have cl := hA.cl
  simp only [Nat.reduceAdd] at cl
  rw [hk] at ch
  have hK0 := Kp.refl 50 base b w
  go_enter Tryz.func61, Tryz.ntmps61
  go_wp2_with (go_at_call 59; refine (r_rows_none base b _ (S) (by simp [St.ask, hk]) (by simp [St.ask, hk]) (by simp [St.ask, hk]) (by simp [St.ask, hk]) (by first | omega | (simp only [St.ops_ask, St.ops_put, St.ops_whole, St.ops_halves, St.ops_low, St.ops_keep, List.length_append, List.length_cons, List.length_nil]; omega)) hA).mono ?_; clear hA; rintro e1 w1 ⟨rfl, hA1, hN1⟩; have hK1 := hK0.trans hN1; clear hN1 hK0; have ch1 := hA1.ch; simp only [Nat.reduceAdd] at ch1; have cl1 := hA1.cl; simp only [Nat.reduceAdd] at cl1)
  go_end0
  exact ⟨rfl, hA1, hK1⟩
set_option maxRecDepth 100000 in
set_option maxHeartbeats 400000 in
theorem r_special_none (base b : Nat) (w : World) (S : St) (n3 : (S.h == 3) = false) (n4 : (S.h == 4) = false) (n7 : (S.h == 7) = false) (n8 : (S.h == 8) = false) (n9 : (S.h == 9) = false)   (hl : S.ops.length ≤ 800) (hA : RAt base w b S) :
    Calls Tryz.prog 61 #[.pointer (some ⟨b, 0, none⟩)] w fun e w' => e = .returned (.tuple #[]) ∧ RAt base w' b (St.fByHigh (tTimed 11) (S)) ∧ Kp 50 base b w w' := by
  have ch := hA.ch
  simp only [Nat.reduceAdd] at ch
  have hK0 := Kp.refl 50 base b w
  go_enter Tryz.func61, Tryz.ntmps61
  go_wp2_with (go_at_call 59; refine (r_rows base b _ (S) (by first | omega | (simp only [St.ops_ask, St.ops_put, St.ops_whole, St.ops_halves, St.ops_low, St.ops_keep, List.length_append, List.length_cons, List.length_nil]; omega)) hA).mono ?_; clear hA; rintro e1 w1 ⟨rfl, hA1, hN1⟩; have hK1 := hK0.trans hN1; clear hN1 hK0; have ch1 := hA1.ch; simp only [Nat.reduceAdd] at ch1)
  go_end0
  exact ⟨rfl, hA1, hK1⟩
set_option maxRecDepth 100000 in
set_option maxHeartbeats 400000 in
theorem r_special (base b : Nat) (w : World) (S : St) (hl : S.ops.length ≤ 800) (hA : RAt base w b S) :
    Calls Tryz.prog 61 #[.pointer (some ⟨b, 0, none⟩)] w fun e w' => e = .returned (.tuple #[]) ∧ RAt base w' b (St.fByHigh tSpecial S) ∧ Kp 50 base b w w' := by
  by_cases e3 : S.h = 3
  · have hf : St.fByHigh tSpecial S = (St.fWave 25) S := by unfold St.fByHigh; rw [e3]; rfl
    rw [hf]
    refine (r_special_3_v0 base b w S e3 hl hA).mono ?_
    rintro e w' ⟨he, hA', hK'⟩
    exact ⟨he, hA'.eq (by first | rfl | simp [St.fWave]), hK'⟩
  by_cases e4 : S.h = 4
  · have hf : St.fByHigh tSpecial S = (St.fWave 26) S := by unfold St.fByHigh; rw [e4]; rfl
    rw [hf]
    refine (r_special_4_v0 base b w S e4 hl hA).mono ?_
    rintro e w' ⟨he, hA', hK'⟩
    exact ⟨he, hA'.eq (by first | rfl | simp [St.fWave]), hK'⟩
  by_cases e7 : S.h = 7
  · have hf : St.fByHigh tSpecial S = (St.fPast) S := by unfold St.fByHigh; rw [e7]; rfl
    rw [hf]
    by_cases z0 : (S).l ≤ 2
    · refine (r_special_7_v0 base b w S e7 (by first | omega | (simp; omega) | (simp [*]; done) | simpa using ‹_›) hl hA).mono ?_
      rintro e w' ⟨he, hA', hK'⟩
      exact ⟨he, hA'.eq (by first | (simp [St.fPast, z0]; done) | (simp [St.fPast, z0, Int.min_def]; done) | (simp [St.fPast, z0, Int.min_def]; omega) | (have hmin := Int.min_def; simp only [St.fPast, Int.min_def]; split <;> first | rfl | omega)), hK'⟩
    · by_cases z1 : (S).l ≤ 6
      · refine (r_special_7_v1 base b w S e7 (by first | omega | (simp; omega) | (simp [*]; done) | simpa using ‹_›) (by first | omega | (simp; omega) | (simp [*]; done) | simpa using ‹_›) hl hA).mono ?_
        rintro e w' ⟨he, hA', hK'⟩
        exact ⟨he, hA'.eq (by first | (simp [St.fPast, z0, z1]; done) | (simp [St.fPast, z0, z1, Int.min_def]; done) | (simp [St.fPast, z0, z1, Int.min_def]; omega) | (have hmin := Int.min_def; simp only [St.fPast, Int.min_def]; split <;> first | rfl | omega)), hK'⟩
      · refine (r_special_7_v2 base b w S e7 (by first | omega | (simp; omega) | (simp [*]; done) | simpa using ‹_›) hl hA).mono ?_
        rintro e w' ⟨he, hA', hK'⟩
        exact ⟨he, hA'.eq (by first | (simp [St.fPast, z0, z1]; done) | (simp [St.fPast, z0, z1, Int.min_def]; done) | (simp [St.fPast, z0, z1, Int.min_def]; omega) | (have hmin := Int.min_def; simp only [St.fPast, Int.min_def]; split <;> first | rfl | omega)), hK'⟩
  by_cases e8 : S.h = 8
  · have hf : St.fByHigh tSpecial S = (St.fPanLow) S := by unfold St.fByHigh; rw [e8]; rfl
    rw [hf]
    refine (r_special_8_v0 base b w S e8 hl hA).mono ?_
    rintro e w' ⟨he, hA', hK'⟩
    exact ⟨he, hA'.eq (by first | rfl | simp [St.fPan, St.fPanLow]), hK'⟩
  by_cases e9 : S.h = 9
  · have hf : St.fByHigh tSpecial S = (St.fSurround) S := by unfold St.fByHigh; rw [e9]; rfl
    rw [hf]
    by_cases z0 : (S).l ≤ 1
    · refine (r_special_9_v0 base b w S e9 (by first | omega | (simp; omega) | (simp [*]; done) | simpa using ‹_›) hl hA).mono ?_
      rintro e w' ⟨he, hA', hK'⟩
      exact ⟨he, hA'.eq (by first | (simp [St.fSurround, z0]; done) | (simp [St.fSurround, z0, Int.min_def]; done) | (simp [St.fSurround, z0, Int.min_def]; omega) | (have hmin := Int.min_def; simp only [St.fSurround, Int.min_def]; split <;> first | rfl | omega)), hK'⟩
    · by_cases z1 : ((S).l = 15)
      · refine (r_special_9_v1 base b w S e9 (by first | omega | (simp; omega) | (simp [*]; done) | simpa using ‹_›) (by first | omega | (simp; omega) | (simp [*]; done) | simpa using ‹_›) hl hA).mono ?_
        rintro e w' ⟨he, hA', hK'⟩
        exact ⟨he, hA'.eq (by first | (simp [St.fSurround, z0, z1]; done) | (simp [St.fSurround, z0, z1, Int.min_def]; done) | (simp [St.fSurround, z0, z1, Int.min_def]; omega) | (have hmin := Int.min_def; simp only [St.fSurround, Int.min_def]; split <;> first | rfl | omega)), hK'⟩
      · refine (r_special_9_v2 base b w S e9 (by first | omega | (simp; omega) | (simp [*]; done) | simpa using ‹_›) (by first | omega | (simp; omega) | (simp [*]; done) | simpa using ‹_›) hl hA).mono ?_
        rintro e w' ⟨he, hA', hK'⟩
        exact ⟨he, hA'.eq (by first | (simp [St.fSurround, z0, z1]; done) | (simp [St.fSurround, z0, z1, Int.min_def]; done) | (simp [St.fSurround, z0, z1, Int.min_def]; omega) | (have hmin := Int.min_def; simp only [St.fSurround, Int.min_def]; split <;> first | rfl | omega)), hK'⟩
  refine (r_special_none base b w S (by simp [e3]) (by simp [e4]) (by simp [e7]) (by simp [e8]) (by simp [e9]) hl hA).mono ?_
  rintro e w' ⟨he, hA', hK'⟩
  exact ⟨he, hA'.eq (by unfold St.fByHigh tSpecial; simp [mset, e3, e4, e7, e8, e9]), hK'⟩
set_option maxRecDepth 100000 in
set_option maxHeartbeats 400000 in
theorem r_scream_65_v (base b : Nat) (w : World) (S : St)    (hl : S.ops.length ≤ 800) (hA : RAt base w b S) :
    Calls Tryz.prog 44 #[.pointer (some ⟨b, 0, none⟩), .int .u8 65] w fun e w' => e = .returned (.tuple #[]) ∧ RAt base w' b (St.fUnless0 (St.fParam 36) (S)) ∧ Kp 50 base b w w' := by
  have hK0 := Kp.refl 50 base b w
  go_enter Tryz.func44, Tryz.ntmps44
  go_wp2_with (first | (go_at_call 27; refine (rhas_v (c := 65) (v := false) (by decide) _).mono ?_; rintro _ wh ⟨rfl, rfl⟩) | (go_at_call 56; refine (r_speed base b _ (S) (by first | omega | (simp only [St.ops_ask, St.ops_put, St.ops_whole, St.ops_halves, St.ops_low, St.ops_keep, List.length_append, List.length_cons, List.length_nil]; omega)) hA).mono ?_; clear hA; rintro e1 w1 ⟨rfl, hA1, hN1⟩; have hK1 := hK0.trans hN1; clear hN1 hK0))
  go_end0
  exact ⟨rfl, hA1, hK1⟩
set_option maxRecDepth 100000 in
set_option maxHeartbeats 200000 in
theorem r_scream_65 (base b : Nat) (w : World) (S : St)  (hl : S.ops.length ≤ 800) (hA : RAt base w b S) :
    Calls Tryz.prog 44 #[.pointer (some ⟨b, 0, none⟩), .int .u8 65] w fun e w' => e = .returned (.tuple #[]) ∧ RAt base w' b ((St.fUnless0 (St.fParam 36)) S) ∧ Kp 50 base b w w' := by
  refine (r_scream_65_v base b w S  hl hA).mono ?_
  rintro e w' ⟨he, hA', hK'⟩
  exact ⟨he, hA'.eq (by first | rfl | simp [St.fParam, St.fUnless0]), hK'⟩
set_option maxRecDepth 100000 in
set_option maxHeartbeats 400000 in
theorem r_scream_66_v (base b : Nat) (w : World) (S : St)    (hl : S.ops.length ≤ 800) (hA : RAt base w b S) :
    Calls Tryz.prog 44 #[.pointer (some ⟨b, 0, none⟩), .int .u8 66] w fun e w' => e = .returned (.tuple #[]) ∧ RAt base w' b ((S).ask (32) ((S).p) (0)) ∧ Kp 50 base b w w' := by
  have cp := hA.cp
  have hK0 := Kp.refl 50 base b w
  go_enter Tryz.func44, Tryz.ntmps44
  go_wp2_with (first | (go_at_call 27; refine (rhas_v (c := 66) (v := false) (by decide) _).mono ?_; rintro _ wh ⟨rfl, rfl⟩) | (go_at_call 39; refine (rask base b _ (S) _ _ _ hA (by first | omega | (simp only [St.ops_ask, St.ops_put, St.ops_whole, St.ops_halves, St.ops_low, St.ops_keep, List.length_append, List.length_cons, List.length_nil]; omega))).mono ?_; clear hA; rintro e1 w1 ⟨rfl, hA1, hN1⟩; have hK1 := hK0.trans hN1; clear hN1 hK0; have cp1 := hA1.cp))
  go_end0
  exact ⟨rfl, hA1, hK1⟩
set_option maxRecDepth 100000 in
set_option maxHeartbeats 200000 in
theorem r_scream_66 (base b : Nat) (w : World) (S : St)  (hl : S.ops.length ≤ 800) (hA : RAt base w b S) :
    Calls Tryz.prog 44 #[.pointer (some ⟨b, 0, none⟩), .int .u8 66] w fun e w' => e = .returned (.tuple #[]) ∧ RAt base w' b ((St.fParam 32) S) ∧ Kp 50 base b w w' := by
  refine (r_scream_66_v base b w S  hl hA).mono ?_
  rintro e w' ⟨he, hA', hK'⟩
  exact ⟨he, hA'.eq (by first | rfl | simp [St.fParam]), hK'⟩
set_option maxRecDepth 100000 in
set_option maxHeartbeats 400000 in
theorem r_scream_67_v (base b : Nat) (w : World) (S : St)    (hl : S.ops.length ≤ 800) (hA : RAt base w b S) :
    Calls Tryz.prog 44 #[.pointer (some ⟨b, 0, none⟩), .int .u8 67] w fun e w' => e = .returned (.tuple #[]) ∧ RAt base w' b ((S).ask (33) (wrap64 (wrap64 (10 * (S).h) + (S).l)) (0)) ∧ Kp 50 base b w w' := by
  have ch := hA.ch
  simp only [Nat.reduceAdd] at ch
  have cl := hA.cl
  simp only [Nat.reduceAdd] at cl
  have hK0 := Kp.refl 50 base b w
  go_enter Tryz.func44, Tryz.ntmps44
  go_wp2_with (go_at_call 27; refine (rhas_v (c := 67) (v := false) (by decide) _).mono ?_; rintro _ wh ⟨rfl, rfl⟩)
  go_still_tail 11, (by kernel_rfl)
  change wpList _ _ _ _ _ w.drew
  have hA1 := hA.drew
  have hK1 := hK0.drew
  clear hA hK0
  generalize w.drew = w1 at hA1 hK1 ⊢
  have ch1 := hA1.ch
  simp only [Nat.reduceAdd] at ch1
  have cl1 := hA1.cl
  simp only [Nat.reduceAdd] at cl1
  go_wp2_with (first | (go_at_call 27; refine (rhas_v (c := 67) (v := false) (by decide) _).mono ?_; rintro _ wh ⟨rfl, rfl⟩) | (go_at_call 39; refine (rask base b _ (S) _ _ _ hA1 (by first | omega | (simp only [St.ops_ask, St.ops_put, St.ops_whole, St.ops_halves, St.ops_low, St.ops_keep, List.length_append, List.length_cons, List.length_nil]; omega))).mono ?_; clear hA1; rintro e2 w2 ⟨rfl, hA2, hN2⟩; have hK2 := hK1.trans hN2; clear hN2 hK1; have ch2 := hA2.ch; simp only [Nat.reduceAdd] at ch2; have cl2 := hA2.cl; simp only [Nat.reduceAdd] at cl2))
  go_end0
  exact ⟨rfl, hA2, hK2⟩
set_option maxRecDepth 100000 in
set_option maxHeartbeats 200000 in
theorem r_scream_67 (base b : Nat) (w : World) (S : St)  (hl : S.ops.length ≤ 800) (hA : RAt base w b S) :
    Calls Tryz.prog 44 #[.pointer (some ⟨b, 0, none⟩), .int .u8 67] w fun e w' => e = .returned (.tuple #[]) ∧ RAt base w' b ((St.fDecimal) S) ∧ Kp 50 base b w w' := by
  refine (r_scream_67_v base b w S  hl hA).mono ?_
  rintro e w' ⟨he, hA', hK'⟩
  exact ⟨he, hA'.eq (by first | rfl | simp [St.fDecimal]), hK'⟩
set_option maxRecDepth 100000 in
set_option maxHeartbeats 400000 in
theorem r_scream_68_v (base b : Nat) (w : World) (S : St)    (hl : S.ops.length ≤ 800) (hA : RAt base w b S) :
    Calls Tryz.prog 44 #[.pointer (some ⟨b, 0, none⟩), .int .u8 68] w fun e w' => e = .returned (.tuple #[]) ∧ RAt base w' b (((S).whole (1)).slide) ∧ Kp 50 base b w w' := by
  have hK0 := Kp.refl 50 base b w
  go_enter Tryz.func44, Tryz.ntmps44
  go_wp2_with (first | (go_at_call 27; refine (rhas_v (c := 68) (v := true) (by decide) _).mono ?_; rintro _ wh ⟨rfl, rfl⟩) | (go_at_call 41; refine (rwhole base b _ (S) _ (by decide) (by decide) hA).mono ?_; clear hA; rintro e1 w1 ⟨rfl, hA1, hN1⟩; have hK1 := hK0.trans hN1; clear hN1 hK0) | (go_at_call 57; refine (rslide base b _ ((S).whole (1)) (by first | omega | (simp only [St.ops_ask, St.ops_put, St.ops_whole, St.ops_halves, St.ops_low, St.ops_keep, List.length_append, List.length_cons, List.length_nil]; omega)) hA1).mono ?_; clear hA1; rintro e2 w2 ⟨rfl, hA2, hN2⟩; have hK2 := hK1.trans hN2; clear hN2 hK1))
  go_end0
  exact ⟨rfl, hA2, hK2⟩
set_option maxRecDepth 100000 in
set_option maxHeartbeats 200000 in
theorem r_scream_68 (base b : Nat) (w : World) (S : St)  (hl : S.ops.length ≤ 800) (hA : RAt base w b S) :
    Calls Tryz.prog 44 #[.pointer (some ⟨b, 0, none⟩), .int .u8 68] w fun e w' => e = .returned (.tuple #[]) ∧ RAt base w' b ((St.fWholly 1 (St.slide)) S) ∧ Kp 50 base b w w' := by
  refine (r_scream_68_v base b w S  hl hA).mono ?_
  rintro e w' ⟨he, hA', hK'⟩
  exact ⟨he, hA'.eq (by first | rfl | simp [St.fWholly]), hK'⟩
set_option maxRecDepth 100000 in
set_option maxHeartbeats 400000 in
theorem r_scream_69_v (base b : Nat) (w : World) (S : St)    (hl : S.ops.length ≤ 800) (hA : RAt base w b S) :
    Calls Tryz.prog 44 #[.pointer (some ⟨b, 0, none⟩), .int .u8 69] w fun e w' => e = .returned (.tuple #[]) ∧ RAt base w' b (((S).whole (1)).bend (5) (7) (3)) ∧ Kp 50 base b w w' := by
  have hK0 := Kp.refl 50 base b w
  go_enter Tryz.func44, Tryz.ntmps44
  go_wp2_with (first | (go_at_call 27; refine (rhas_v (c := 69) (v := true) (by decide) _).mono ?_; rintro _ wh ⟨rfl, rfl⟩) | (go_at_call 41; refine (rwhole base b _ (S) _ (by decide) (by decide) hA).mono ?_; clear hA; rintro e1 w1 ⟨rfl, hA1, hN1⟩; have hK1 := hK0.trans hN1; clear hN1 hK0) | (go_at_call 58; refine (rbend base b _ ((S).whole (1)) _ _ _ (by first | omega | (simp only [St.ops_ask, St.ops_put, St.ops_whole, St.ops_halves, St.ops_low, St.ops_keep, List.length_append, List.length_cons, List.length_nil]; omega)) hA1).mono ?_; clear hA1; rintro e2 w2 ⟨rfl, hA2, hN2⟩; have hK2 := hK1.trans hN2; clear hN2 hK1))
  go_end0
  exact ⟨rfl, hA2, hK2⟩
set_option maxRecDepth 100000 in
set_option maxHeartbeats 200000 in
theorem r_scream_69 (base b : Nat) (w : World) (S : St)  (hl : S.ops.length ≤ 800) (hA : RAt base w b S) :
    Calls Tryz.prog 44 #[.pointer (some ⟨b, 0, none⟩), .int .u8 69] w fun e w' => e = .returned (.tuple #[]) ∧ RAt base w' b ((St.fWholly 1 (St.fDown)) S) ∧ Kp 50 base b w w' := by
  refine (r_scream_69_v base b w S  hl hA).mono ?_
  rintro e w' ⟨he, hA', hK'⟩
  exact ⟨he, hA'.eq (by first | rfl | simp [St.fWholly, St.fDown]), hK'⟩
set_option maxRecDepth 100000 in
set_option maxHeartbeats 400000 in
theorem r_scream_70_v (base b : Nat) (w : World) (S : St)    (hl : S.ops.length ≤ 800) (hA : RAt base w b S) :
    Calls Tryz.prog 44 #[.pointer (some ⟨b, 0, none⟩), .int .u8 70] w fun e w' => e = .returned (.tuple #[]) ∧ RAt base w' b (((S).whole (1)).bend (4) (6) (2)) ∧ Kp 50 base b w w' := by
  have hK0 := Kp.refl 50 base b w
  go_enter Tryz.func44, Tryz.ntmps44
  go_wp2_with (first | (go_at_call 27; refine (rhas_v (c := 70) (v := true) (by decide) _).mono ?_; rintro _ wh ⟨rfl, rfl⟩) | (go_at_call 41; refine (rwhole base b _ (S) _ (by decide) (by decide) hA).mono ?_; clear hA; rintro e1 w1 ⟨rfl, hA1, hN1⟩; have hK1 := hK0.trans hN1; clear hN1 hK0) | (go_at_call 58; refine (rbend base b _ ((S).whole (1)) _ _ _ (by first | omega | (simp only [St.ops_ask, St.ops_put, St.ops_whole, St.ops_halves, St.ops_low, St.ops_keep, List.length_append, List.length_cons, List.length_nil]; omega)) hA1).mono ?_; clear hA1; rintro e2 w2 ⟨rfl, hA2, hN2⟩; have hK2 := hK1.trans hN2; clear hN2 hK1))
  go_end0
  exact ⟨rfl, hA2, hK2⟩
set_option maxRecDepth 100000 in
set_option maxHeartbeats 200000 in
theorem r_scream_70 (base b : Nat) (w : World) (S : St)  (hl : S.ops.length ≤ 800) (hA : RAt base w b S) :
    Calls Tryz.prog 44 #[.pointer (some ⟨b, 0, none⟩), .int .u8 70] w fun e w' => e = .returned (.tuple #[]) ∧ RAt base w' b ((St.fWholly 1 (St.fUp)) S) ∧ Kp 50 base b w w' := by
  refine (r_scream_70_v base b w S  hl hA).mono ?_
  rintro e w' ⟨he, hA', hK'⟩
  exact ⟨he, hA'.eq (by first | rfl | simp [St.fWholly, St.fUp]), hK'⟩
set_option maxRecDepth 100000 in
set_option maxHeartbeats 400000 in
theorem r_scream_71_v (base b : Nat) (w : World) (S : St)    (hl : S.ops.length ≤ 800) (hA : RAt base w b S) :
    Calls Tryz.prog 44 #[.pointer (some ⟨b, 0, none⟩), .int .u8 71] w fun e w' => e = .returned (.tuple #[]) ∧ RAt base w' b (((S).whole (2)).ask (8) (((S).whole (2)).p) (0)) ∧ Kp 50 base b w w' := by
  have cp := hA.cp
  have hK0 := Kp.refl 50 base b w
  go_enter Tryz.func44, Tryz.ntmps44
  go_wp2_with (first | (go_at_call 27; refine (rhas_v (c := 71) (v := false) (by decide) _).mono ?_; rintro _ wh ⟨rfl, rfl⟩) | (go_at_call 41; refine (rwhole base b _ (S) _ (by decide) (by decide) hA).mono ?_; clear hA; rintro e1 w1 ⟨rfl, hA1, hN1⟩; have hK1 := hK0.trans hN1; clear hN1 hK0; have cp1 := hA1.cp) | (go_at_call 39; refine (rask base b _ ((S).whole (2)) _ _ _ hA1 (by first | omega | (simp only [St.ops_ask, St.ops_put, St.ops_whole, St.ops_halves, St.ops_low, St.ops_keep, List.length_append, List.length_cons, List.length_nil]; omega))).mono ?_; clear hA1; rintro e2 w2 ⟨rfl, hA2, hN2⟩; have hK2 := hK1.trans hN2; clear hN2 hK1; have cp2 := hA2.cp))
  go_end0
  exact ⟨rfl, hA2, hK2⟩
set_option maxRecDepth 100000 in
set_option maxHeartbeats 200000 in
theorem r_scream_71 (base b : Nat) (w : World) (S : St)  (hl : S.ops.length ≤ 800) (hA : RAt base w b S) :
    Calls Tryz.prog 44 #[.pointer (some ⟨b, 0, none⟩), .int .u8 71] w fun e w' => e = .returned (.tuple #[]) ∧ RAt base w' b ((St.fWholly 2 (St.fParam 8)) S) ∧ Kp 50 base b w w' := by
  refine (r_scream_71_v base b w S  hl hA).mono ?_
  rintro e w' ⟨he, hA', hK'⟩
  exact ⟨he, hA'.eq (by first | rfl | simp [St.fParam, St.fWholly]), hK'⟩
set_option maxRecDepth 100000 in
set_option maxHeartbeats 400000 in
theorem r_scream_72_v (base b : Nat) (w : World) (S : St)    (hl : S.ops.length ≤ 800) (hA : RAt base w b S) :
    Calls Tryz.prog 44 #[.pointer (some ⟨b, 0, none⟩), .int .u8 72] w fun e w' => e = .returned (.tuple #[]) ∧ RAt base w' b (((S).halves (3)).ask (9) (((S).halves (3)).h) (((S).halves (3)).l)) ∧ Kp 50 base b w w' := by
  have ch := hA.ch
  simp only [Nat.reduceAdd] at ch
  have cl := hA.cl
  simp only [Nat.reduceAdd] at cl
  have hK0 := Kp.refl 50 base b w
  go_enter Tryz.func44, Tryz.ntmps44
  go_wp2_with (first | (go_at_call 27; refine (rhas_v (c := 72) (v := false) (by decide) _).mono ?_; rintro _ wh ⟨rfl, rfl⟩) | (go_at_call 42; refine (rhalves base b _ (S) _ (by decide) (by decide) hA).mono ?_; clear hA; rintro e1 w1 ⟨rfl, hA1, hN1⟩; have hK1 := hK0.trans hN1; clear hN1 hK0; have ch1 := hA1.ch; simp only [Nat.reduceAdd] at ch1; have cl1 := hA1.cl; simp only [Nat.reduceAdd] at cl1))
  go_still_tail 9, (by kernel_rfl)
  change wpList _ _ _ _ _ w1.drew
  have hA2 := hA1.drew
  have hK2 := hK1.drew
  clear hA1 hK1
  generalize w1.drew = w2 at hA2 hK2 ⊢
  have ch2 := hA2.ch
  simp only [Nat.reduceAdd] at ch2
  have cl2 := hA2.cl
  simp only [Nat.reduceAdd] at cl2
  go_wp2_with (first | (go_at_call 27; refine (rhas_v (c := 72) (v := false) (by decide) _).mono ?_; rintro _ wh ⟨rfl, rfl⟩) | (go_at_call 39; refine (rask base b _ ((S).halves (3)) _ _ _ hA2 (by first | omega | (simp only [St.ops_ask, St.ops_put, St.ops_whole, St.ops_halves, St.ops_low, St.ops_keep, List.length_append, List.length_cons, List.length_nil]; omega))).mono ?_; clear hA2; rintro e3 w3 ⟨rfl, hA3, hN3⟩; have hK3 := hK2.trans hN3; clear hN3 hK2; have ch3 := hA3.ch; simp only [Nat.reduceAdd] at ch3; have cl3 := hA3.cl; simp only [Nat.reduceAdd] at cl3))
  go_end0
  exact ⟨rfl, hA3, hK3⟩
set_option maxRecDepth 100000 in
set_option maxHeartbeats 200000 in
theorem r_scream_72 (base b : Nat) (w : World) (S : St)  (hl : S.ops.length ≤ 800) (hA : RAt base w b S) :
    Calls Tryz.prog 44 #[.pointer (some ⟨b, 0, none⟩), .int .u8 72] w fun e w' => e = .returned (.tuple #[]) ∧ RAt base w' b ((St.fHalved 3 (St.fBoth 9)) S) ∧ Kp 50 base b w w' := by
  refine (r_scream_72_v base b w S  hl hA).mono ?_
  rintro e w' ⟨he, hA', hK'⟩
  exact ⟨he, hA'.eq (by first | rfl | simp [St.fBoth, St.fHalved]), hK'⟩
set_option maxRecDepth 100000 in
set_option maxHeartbeats 400000 in
theorem r_scream_73_v (base b : Nat) (w : World) (S : St)    (hl : S.ops.length ≤ 800) (hA : RAt base w b S) :
    Calls Tryz.prog 44 #[.pointer (some ⟨b, 0, none⟩), .int .u8 73] w fun e w' => e = .returned (.tuple #[]) ∧ RAt base w' b (((S).whole (1)).ask (20) (wrap64 (((S).whole (1)).h + 1)) (wrap64 (((S).whole (1)).l + 1))) ∧ Kp 50 base b w w' := by
  have ch := hA.ch
  simp only [Nat.reduceAdd] at ch
  have cl := hA.cl
  simp only [Nat.reduceAdd] at cl
  have hK0 := Kp.refl 50 base b w
  go_enter Tryz.func44, Tryz.ntmps44
  go_wp2_with (first | (go_at_call 27; refine (rhas_v (c := 73) (v := true) (by decide) _).mono ?_; rintro _ wh ⟨rfl, rfl⟩) | (go_at_call 41; refine (rwhole base b _ (S) _ (by decide) (by decide) hA).mono ?_; clear hA; rintro e1 w1 ⟨rfl, hA1, hN1⟩; have hK1 := hK0.trans hN1; clear hN1 hK0; have ch1 := hA1.ch; simp only [Nat.reduceAdd] at ch1; have cl1 := hA1.cl; simp only [Nat.reduceAdd] at cl1))
  go_still_tail 11, (by kernel_rfl)
  change wpList _ _ _ _ _ w1.drew
  have hA2 := hA1.drew
  have hK2 := hK1.drew
  clear hA1 hK1
  generalize w1.drew = w2 at hA2 hK2 ⊢
  have ch2 := hA2.ch
  simp only [Nat.reduceAdd] at ch2
  have cl2 := hA2.cl
  simp only [Nat.reduceAdd] at cl2
  go_wp2_with (first | (go_at_call 27; refine (rhas_v (c := 73) (v := true) (by decide) _).mono ?_; rintro _ wh ⟨rfl, rfl⟩) | (go_at_call 39; refine (rask base b _ ((S).whole (1)) _ _ _ hA2 (by first | omega | (simp only [St.ops_ask, St.ops_put, St.ops_whole, St.ops_halves, St.ops_low, St.ops_keep, List.length_append, List.length_cons, List.length_nil]; omega))).mono ?_; clear hA2; rintro e3 w3 ⟨rfl, hA3, hN3⟩; have hK3 := hK2.trans hN3; clear hN3 hK2; have ch3 := hA3.ch; simp only [Nat.reduceAdd] at ch3; have cl3 := hA3.cl; simp only [Nat.reduceAdd] at cl3))
  go_end0
  exact ⟨rfl, hA3, hK3⟩
set_option maxRecDepth 100000 in
set_option maxHeartbeats 200000 in
theorem r_scream_73 (base b : Nat) (w : World) (S : St)  (hl : S.ops.length ≤ 800) (hA : RAt base w b S) :
    Calls Tryz.prog 44 #[.pointer (some ⟨b, 0, none⟩), .int .u8 73] w fun e w' => e = .returned (.tuple #[]) ∧ RAt base w' b ((St.fWholly 1 (St.fTremor)) S) ∧ Kp 50 base b w w' := by
  refine (r_scream_73_v base b w S  hl hA).mono ?_
  rintro e w' ⟨he, hA', hK'⟩
  exact ⟨he, hA'.eq (by first | rfl | simp [St.fWholly, St.fTremor]), hK'⟩
set_option maxRecDepth 100000 in
set_option maxHeartbeats 400000 in
theorem r_scream_74_v (base b : Nat) (w : World) (S : St)    (hl : S.ops.length ≤ 800) (hA : RAt base w b S) :
    Calls Tryz.prog 44 #[.pointer (some ⟨b, 0, none⟩), .int .u8 74] w fun e w' => e = .returned (.tuple #[]) ∧ RAt base w' b (((S).whole (1)).ask (1) (((S).whole (1)).h) (((S).whole (1)).l)) ∧ Kp 50 base b w w' := by
  have ch := hA.ch
  simp only [Nat.reduceAdd] at ch
  have cl := hA.cl
  simp only [Nat.reduceAdd] at cl
  have hK0 := Kp.refl 50 base b w
  go_enter Tryz.func44, Tryz.ntmps44
  go_wp2_with (first | (go_at_call 27; refine (rhas_v (c := 74) (v := true) (by decide) _).mono ?_; rintro _ wh ⟨rfl, rfl⟩) | (go_at_call 41; refine (rwhole base b _ (S) _ (by decide) (by decide) hA).mono ?_; clear hA; rintro e1 w1 ⟨rfl, hA1, hN1⟩; have hK1 := hK0.trans hN1; clear hN1 hK0; have ch1 := hA1.ch; simp only [Nat.reduceAdd] at ch1; have cl1 := hA1.cl; simp only [Nat.reduceAdd] at cl1))
  go_still_tail 9, (by kernel_rfl)
  change wpList _ _ _ _ _ w1.drew
  have hA2 := hA1.drew
  have hK2 := hK1.drew
  clear hA1 hK1
  generalize w1.drew = w2 at hA2 hK2 ⊢
  have ch2 := hA2.ch
  simp only [Nat.reduceAdd] at ch2
  have cl2 := hA2.cl
  simp only [Nat.reduceAdd] at cl2
  go_wp2_with (first | (go_at_call 27; refine (rhas_v (c := 74) (v := true) (by decide) _).mono ?_; rintro _ wh ⟨rfl, rfl⟩) | (go_at_call 39; refine (rask base b _ ((S).whole (1)) _ _ _ hA2 (by first | omega | (simp only [St.ops_ask, St.ops_put, St.ops_whole, St.ops_halves, St.ops_low, St.ops_keep, List.length_append, List.length_cons, List.length_nil]; omega))).mono ?_; clear hA2; rintro e3 w3 ⟨rfl, hA3, hN3⟩; have hK3 := hK2.trans hN3; clear hN3 hK2; have ch3 := hA3.ch; simp only [Nat.reduceAdd] at ch3; have cl3 := hA3.cl; simp only [Nat.reduceAdd] at cl3))
  go_end0
  exact ⟨rfl, hA3, hK3⟩
set_option maxRecDepth 100000 in
set_option maxHeartbeats 200000 in
theorem r_scream_74 (base b : Nat) (w : World) (S : St)  (hl : S.ops.length ≤ 800) (hA : RAt base w b S) :
    Calls Tryz.prog 44 #[.pointer (some ⟨b, 0, none⟩), .int .u8 74] w fun e w' => e = .returned (.tuple #[]) ∧ RAt base w' b ((St.fWholly 1 (St.fBoth 1)) S) ∧ Kp 50 base b w w' := by
  refine (r_scream_74_v base b w S  hl hA).mono ?_
  rintro e w' ⟨he, hA', hK'⟩
  exact ⟨he, hA'.eq (by first | rfl | simp [St.fBoth, St.fWholly]), hK'⟩
set_option maxRecDepth 100000 in
set_option maxHeartbeats 400000 in
theorem r_scream_75_v (base b : Nat) (w : World) (S : St)    (hl : S.ops.length ≤ 800) (hA : RAt base w b S) :
    Calls Tryz.prog 44 #[.pointer (some ⟨b, 0, none⟩), .int .u8 75] w fun e w' => e = .returned (.tuple #[]) ∧ RAt base w' b ((((S).whole (1)).ask (9) (wrap64 ((((S).whole (1)).slot 3).tdiv 16)) ((((S).whole (1)).slot 3).tmod 16)).slide) ∧ Kp 50 base b w w' := by
  have cs3 := hA.slot 3 (by decide)
  simp only [List.getD_eq_getElem?_getD] at cs3
  have hK0 := Kp.refl 50 base b w
  go_enter Tryz.func44, Tryz.ntmps44
  go_wp2_with (first | (go_at_call 27; refine (rhas_v (c := 75) (v := true) (by decide) _).mono ?_; rintro _ wh ⟨rfl, rfl⟩) | (go_at_call 41; refine (rwhole base b _ (S) _ (by decide) (by decide) hA).mono ?_; clear hA; rintro e1 w1 ⟨rfl, hA1, hN1⟩; have hK1 := hK0.trans hN1; clear hN1 hK0; have cs31 := hA1.slot 3 (by decide); simp only [List.getD_eq_getElem?_getD] at cs31))
  go_still_tail 15, (by kernel_rfl)
  change wpList _ _ _ _ _ w1.drew
  have hA2 := hA1.drew
  have hK2 := hK1.drew
  clear hA1 hK1
  generalize w1.drew = w2 at hA2 hK2 ⊢
  have cs32 := hA2.slot 3 (by decide)
  simp only [List.getD_eq_getElem?_getD] at cs32
  go_wp2_with (first | (go_at_call 27; refine (rhas_v (c := 75) (v := true) (by decide) _).mono ?_; rintro _ wh ⟨rfl, rfl⟩) | (go_at_call 39; refine (rask base b _ ((S).whole (1)) _ _ _ hA2 (by first | omega | (simp only [St.ops_ask, St.ops_put, St.ops_whole, St.ops_halves, St.ops_low, St.ops_keep, List.length_append, List.length_cons, List.length_nil]; omega))).mono ?_; clear hA2; rintro e3 w3 ⟨rfl, hA3, hN3⟩; have hK3 := hK2.trans hN3; clear hN3 hK2; have cs33 := hA3.slot 3 (by decide); simp only [List.getD_eq_getElem?_getD] at cs33) | (go_at_call 57; refine (rslide base b _ (((S).whole (1)).ask (9) (wrap64 ((((S).whole (1)).slot 3).tdiv 16)) ((((S).whole (1)).slot 3).tmod 16)) (by first | omega | (simp only [St.ops_ask, St.ops_put, St.ops_whole, St.ops_halves, St.ops_low, St.ops_keep, List.length_append, List.length_cons, List.length_nil]; omega)) hA3).mono ?_; clear hA3; rintro e4 w4 ⟨rfl, hA4, hN4⟩; have hK4 := hK3.trans hN4; clear hN4 hK3; have cs34 := hA4.slot 3 (by decide); simp only [List.getD_eq_getElem?_getD] at cs34))
  go_end0
  exact ⟨rfl, hA4, hK4⟩
set_option maxRecDepth 100000 in
set_option maxHeartbeats 200000 in
theorem r_scream_75 (base b : Nat) (w : World) (S : St)  (hl : S.ops.length ≤ 800) (hA : RAt base w b S) :
    Calls Tryz.prog 44 #[.pointer (some ⟨b, 0, none⟩), .int .u8 75] w fun e w' => e = .returned (.tuple #[]) ∧ RAt base w' b ((St.fWholly 1 (St.fVibratoSlide)) S) ∧ Kp 50 base b w w' := by
  refine (r_scream_75_v base b w S  hl hA).mono ?_
  rintro e w' ⟨he, hA', hK'⟩
  exact ⟨he, hA'.eq (by first | rfl | simp [St.fWholly, St.fVibratoSlide]), hK'⟩
set_option maxRecDepth 100000 in
set_option maxHeartbeats 400000 in
theorem r_scream_76_v (base b : Nat) (w : World) (S : St)    (hl : S.ops.length ≤ 800) (hA : RAt base w b S) :
    Calls Tryz.prog 44 #[.pointer (some ⟨b, 0, none⟩), .int .u8 76] w fun e w' => e = .returned (.tuple #[]) ∧ RAt base w' b ((((S).whole (1)).ask (8) (((S).whole (1)).slot 2) (0)).slide) ∧ Kp 50 base b w w' := by
  have cs2 := hA.slot 2 (by decide)
  simp only [List.getD_eq_getElem?_getD] at cs2
  have hK0 := Kp.refl 50 base b w
  go_enter Tryz.func44, Tryz.ntmps44
  go_wp2_with (first | (go_at_call 27; refine (rhas_v (c := 76) (v := true) (by decide) _).mono ?_; rintro _ wh ⟨rfl, rfl⟩) | (go_at_call 41; refine (rwhole base b _ (S) _ (by decide) (by decide) hA).mono ?_; clear hA; rintro e1 w1 ⟨rfl, hA1, hN1⟩; have hK1 := hK0.trans hN1; clear hN1 hK0; have cs21 := hA1.slot 2 (by decide); simp only [List.getD_eq_getElem?_getD] at cs21) | (go_at_call 39; refine (rask base b _ ((S).whole (1)) _ _ _ hA1 (by first | omega | (simp only [St.ops_ask, St.ops_put, St.ops_whole, St.ops_halves, St.ops_low, St.ops_keep, List.length_append, List.length_cons, List.length_nil]; omega))).mono ?_; clear hA1; rintro e2 w2 ⟨rfl, hA2, hN2⟩; have hK2 := hK1.trans hN2; clear hN2 hK1; have cs22 := hA2.slot 2 (by decide); simp only [List.getD_eq_getElem?_getD] at cs22) | (go_at_call 57; refine (rslide base b _ (((S).whole (1)).ask (8) (((S).whole (1)).slot 2) (0)) (by first | omega | (simp only [St.ops_ask, St.ops_put, St.ops_whole, St.ops_halves, St.ops_low, St.ops_keep, List.length_append, List.length_cons, List.length_nil]; omega)) hA2).mono ?_; clear hA2; rintro e3 w3 ⟨rfl, hA3, hN3⟩; have hK3 := hK2.trans hN3; clear hN3 hK2; have cs23 := hA3.slot 2 (by decide); simp only [List.getD_eq_getElem?_getD] at cs23))
  go_end0
  exact ⟨rfl, hA3, hK3⟩
set_option maxRecDepth 100000 in
set_option maxHeartbeats 200000 in
theorem r_scream_76 (base b : Nat) (w : World) (S : St)  (hl : S.ops.length ≤ 800) (hA : RAt base w b S) :
    Calls Tryz.prog 44 #[.pointer (some ⟨b, 0, none⟩), .int .u8 76] w fun e w' => e = .returned (.tuple #[]) ∧ RAt base w' b ((St.fWholly 1 (St.fToneSlide)) S) ∧ Kp 50 base b w w' := by
  refine (r_scream_76_v base b w S  hl hA).mono ?_
  rintro e w' ⟨he, hA', hK'⟩
  exact ⟨he, hA'.eq (by first | rfl | simp [St.fWholly, St.fToneSlide]), hK'⟩
set_option maxRecDepth 100000 in
set_option maxHeartbeats 400000 in
theorem r_scream_79_v (base b : Nat) (w : World) (S : St)    (hl : S.ops.length ≤ 800) (hA : RAt base w b S) :
    Calls Tryz.prog 44 #[.pointer (some ⟨b, 0, none⟩), .int .u8 79] w fun e w' => e = .returned (.tuple #[]) ∧ RAt base w' b (((S).whole (4)).ask (18) (wrap64 (256 * ((S).whole (4)).p)) (0)) ∧ Kp 50 base b w w' := by
  have cp := hA.cp
  have hK0 := Kp.refl 50 base b w
  go_enter Tryz.func44, Tryz.ntmps44
  go_wp2_with (first | (go_at_call 27; refine (rhas_v (c := 79) (v := false) (by decide) _).mono ?_; rintro _ wh ⟨rfl, rfl⟩) | (go_at_call 41; refine (rwhole base b _ (S) _ (by decide) (by decide) hA).mono ?_; clear hA; rintro e1 w1 ⟨rfl, hA1, hN1⟩; have hK1 := hK0.trans hN1; clear hN1 hK0; have cp1 := hA1.cp) | (go_at_call 39; refine (rask base b _ ((S).whole (4)) _ _ _ hA1 (by first | omega | (simp only [St.ops_ask, St.ops_put, St.ops_whole, St.ops_halves, St.ops_low, St.ops_keep, List.length_append, List.length_cons, List.length_nil]; omega))).mono ?_; clear hA1; rintro e2 w2 ⟨rfl, hA2, hN2⟩; have hK2 := hK1.trans hN2; clear hN2 hK1; have cp2 := hA2.cp))
  go_end0
  exact ⟨rfl, hA2, hK2⟩
set_option maxRecDepth 100000 in
set_option maxHeartbeats 200000 in
theorem r_scream_79 (base b : Nat) (w : World) (S : St)  (hl : S.ops.length ≤ 800) (hA : RAt base w b S) :
    Calls Tryz.prog 44 #[.pointer (some ⟨b, 0, none⟩), .int .u8 79] w fun e w' => e = .returned (.tuple #[]) ∧ RAt base w' b ((St.fWholly 4 (St.fOffset)) S) ∧ Kp 50 base b w w' := by
  refine (r_scream_79_v base b w S  hl hA).mono ?_
  rintro e w' ⟨he, hA', hK'⟩
  exact ⟨he, hA'.eq (by first | rfl | simp [St.fWholly, St.fOffset]), hK'⟩
set_option maxRecDepth 100000 in
set_option maxHeartbeats 400000 in
theorem r_scream_81_v (base b : Nat) (w : World) (S : St)    (hl : S.ops.length ≤ 800) (hA : RAt base w b S) :
    Calls Tryz.prog 44 #[.pointer (some ⟨b, 0, none⟩), .int .u8 81] w fun e w' => e = .returned (.tuple #[]) ∧ RAt base w' b (((S).whole (1)).ask (19) (((S).whole (1)).l) (((S).whole (1)).h)) ∧ Kp 50 base b w w' := by
  have ch := hA.ch
  simp only [Nat.reduceAdd] at ch
  have cl := hA.cl
  simp only [Nat.reduceAdd] at cl
  have hK0 := Kp.refl 50 base b w
  go_enter Tryz.func44, Tryz.ntmps44
  go_wp2_with (first | (go_at_call 27; refine (rhas_v (c := 81) (v := true) (by decide) _).mono ?_; rintro _ wh ⟨rfl, rfl⟩) | (go_at_call 41; refine (rwhole base b _ (S) _ (by decide) (by decide) hA).mono ?_; clear hA; rintro e1 w1 ⟨rfl, hA1, hN1⟩; have hK1 := hK0.trans hN1; clear hN1 hK0; have ch1 := hA1.ch; simp only [Nat.reduceAdd] at ch1; have cl1 := hA1.cl; simp only [Nat.reduceAdd] at cl1))
  go_still_tail 9, (by kernel_rfl)
  change wpList _ _ _ _ _ w1.drew
  have hA2 := hA1.drew
  have hK2 := hK1.drew
  clear hA1 hK1
  generalize w1.drew = w2 at hA2 hK2 ⊢
  have ch2 := hA2.ch
  simp only [Nat.reduceAdd] at ch2
  have cl2 := hA2.cl
  simp only [Nat.reduceAdd] at cl2
  go_wp2_with (first | (go_at_call 27; refine (rhas_v (c := 81) (v := true) (by decide) _).mono ?_; rintro _ wh ⟨rfl, rfl⟩) | (go_at_call 39; refine (rask base b _ ((S).whole (1)) _ _ _ hA2 (by first | omega | (simp only [St.ops_ask, St.ops_put, St.ops_whole, St.ops_halves, St.ops_low, St.ops_keep, List.length_append, List.length_cons, List.length_nil]; omega))).mono ?_; clear hA2; rintro e3 w3 ⟨rfl, hA3, hN3⟩; have hK3 := hK2.trans hN3; clear hN3 hK2; have ch3 := hA3.ch; simp only [Nat.reduceAdd] at ch3; have cl3 := hA3.cl; simp only [Nat.reduceAdd] at cl3))
  go_end0
  exact ⟨rfl, hA3, hK3⟩
set_option maxRecDepth 100000 in
set_option maxHeartbeats 200000 in
theorem r_scream_81 (base b : Nat) (w : World) (S : St)  (hl : S.ops.length ≤ 800) (hA : RAt base w b S) :
    Calls Tryz.prog 44 #[.pointer (some ⟨b, 0, none⟩), .int .u8 81] w fun e w' => e = .returned (.tuple #[]) ∧ RAt base w' b ((St.fWholly 1 (St.fRetrig)) S) ∧ Kp 50 base b w w' := by
  refine (r_scream_81_v base b w S  hl hA).mono ?_
  rintro e w' ⟨he, hA', hK'⟩
  exact ⟨he, hA'.eq (by first | rfl | simp [St.fWholly, St.fRetrig]), hK'⟩
set_option maxRecDepth 100000 in
set_option maxHeartbeats 400000 in
theorem r_scream_82_v (base b : Nat) (w : World) (S : St)    (hl : S.ops.length ≤ 800) (hA : RAt base w b S) :
    Calls Tryz.prog 44 #[.pointer (some ⟨b, 0, none⟩), .int .u8 82] w fun e w' => e = .returned (.tuple #[]) ∧ RAt base w' b (((S).whole (1)).ask (11) (((S).whole (1)).h) (((S).whole (1)).l)) ∧ Kp 50 base b w w' := by
  have ch := hA.ch
  simp only [Nat.reduceAdd] at ch
  have cl := hA.cl
  simp only [Nat.reduceAdd] at cl
  have hK0 := Kp.refl 50 base b w
  go_enter Tryz.func44, Tryz.ntmps44
  go_wp2_with (first | (go_at_call 27; refine (rhas_v (c := 82) (v := true) (by decide) _).mono ?_; rintro _ wh ⟨rfl, rfl⟩) | (go_at_call 41; refine (rwhole base b _ (S) _ (by decide) (by decide) hA).mono ?_; clear hA; rintro e1 w1 ⟨rfl, hA1, hN1⟩; have hK1 := hK0.trans hN1; clear hN1 hK0; have ch1 := hA1.ch; simp only [Nat.reduceAdd] at ch1; have cl1 := hA1.cl; simp only [Nat.reduceAdd] at cl1))
  go_still_tail 9, (by kernel_rfl)
  change wpList _ _ _ _ _ w1.drew
  have hA2 := hA1.drew
  have hK2 := hK1.drew
  clear hA1 hK1
  generalize w1.drew = w2 at hA2 hK2 ⊢
  have ch2 := hA2.ch
  simp only [Nat.reduceAdd] at ch2
  have cl2 := hA2.cl
  simp only [Nat.reduceAdd] at cl2
  go_wp2_with (first | (go_at_call 27; refine (rhas_v (c := 82) (v := true) (by decide) _).mono ?_; rintro _ wh ⟨rfl, rfl⟩) | (go_at_call 39; refine (rask base b _ ((S).whole (1)) _ _ _ hA2 (by first | omega | (simp only [St.ops_ask, St.ops_put, St.ops_whole, St.ops_halves, St.ops_low, St.ops_keep, List.length_append, List.length_cons, List.length_nil]; omega))).mono ?_; clear hA2; rintro e3 w3 ⟨rfl, hA3, hN3⟩; have hK3 := hK2.trans hN3; clear hN3 hK2; have ch3 := hA3.ch; simp only [Nat.reduceAdd] at ch3; have cl3 := hA3.cl; simp only [Nat.reduceAdd] at cl3))
  go_end0
  exact ⟨rfl, hA3, hK3⟩
set_option maxRecDepth 100000 in
set_option maxHeartbeats 200000 in
theorem r_scream_82 (base b : Nat) (w : World) (S : St)  (hl : S.ops.length ≤ 800) (hA : RAt base w b S) :
    Calls Tryz.prog 44 #[.pointer (some ⟨b, 0, none⟩), .int .u8 82] w fun e w' => e = .returned (.tuple #[]) ∧ RAt base w' b ((St.fWholly 1 (St.fBoth 11)) S) ∧ Kp 50 base b w w' := by
  refine (r_scream_82_v base b w S  hl hA).mono ?_
  rintro e w' ⟨he, hA', hK'⟩
  exact ⟨he, hA'.eq (by first | rfl | simp [St.fBoth, St.fWholly]), hK'⟩
set_option maxRecDepth 100000 in
set_option maxHeartbeats 400000 in
theorem r_scream_84_v0 (base b : Nat) (w : World) (S : St)   (t0 : (S).p < 32) (hl : S.ops.length ≤ 800) (hA : RAt base w b S) :
    Calls Tryz.prog 44 #[.pointer (some ⟨b, 0, none⟩), .int .u8 84] w fun e w' => e = .returned (.tuple #[]) ∧ RAt base w' b (S) ∧ Kp 50 base b w w' := by
  have cp := hA.cp
  have hK0 := Kp.refl 50 base b w
  go_enter Tryz.func44, Tryz.ntmps44
  go_wp2_with (go_at_call 27; refine (rhas_v (c := 84) (v := false) (by decide) _).mono ?_; rintro _ wh ⟨rfl, rfl⟩)
  go_end0
  exact ⟨rfl, hA, hK0⟩
set_option maxRecDepth 100000 in
set_option maxHeartbeats 400000 in
theorem r_scream_84_v1 (base b : Nat) (w : World) (S : St)   (t0 : 32 ≤ (S).p) (hl : S.ops.length ≤ 800) (hA : RAt base w b S) :
    Calls Tryz.prog 44 #[.pointer (some ⟨b, 0, none⟩), .int .u8 84] w fun e w' => e = .returned (.tuple #[]) ∧ RAt base w' b ((S).ask (37) ((S).p) (0)) ∧ Kp 50 base b w w' := by
  have cp := hA.cp
  have hK0 := Kp.refl 50 base b w
  go_enter Tryz.func44, Tryz.ntmps44
  go_wp2_with (first | (go_at_call 27; refine (rhas_v (c := 84) (v := false) (by decide) _).mono ?_; rintro _ wh ⟨rfl, rfl⟩) | (go_at_call 39; refine (rask base b _ (S) _ _ _ hA (by first | omega | (simp only [St.ops_ask, St.ops_put, St.ops_whole, St.ops_halves, St.ops_low, St.ops_keep, List.length_append, List.length_cons, List.length_nil]; omega))).mono ?_; clear hA; rintro e1 w1 ⟨rfl, hA1, hN1⟩; have hK1 := hK0.trans hN1; clear hN1 hK0; have cp1 := hA1.cp))
  go_end0
  exact ⟨rfl, hA1, hK1⟩
set_option maxRecDepth 100000 in
set_option maxHeartbeats 200000 in
theorem r_scream_84 (base b : Nat) (w : World) (S : St)  (hl : S.ops.length ≤ 800) (hA : RAt base w b S) :
    Calls Tryz.prog 44 #[.pointer (some ⟨b, 0, none⟩), .int .u8 84] w fun e w' => e = .returned (.tuple #[]) ∧ RAt base w' b ((St.fTempoFrom32) S) ∧ Kp 50 base b w w' := by
  by_cases z0 : (S).p < 32
  · refine (r_scream_84_v0 base b w S  (by first | omega | (simp; omega) | (simp [*]; done) | simpa using ‹_›) hl hA).mono ?_
    rintro e w' ⟨he, hA', hK'⟩
    exact ⟨he, hA'.eq (by first | (simp [St.fTempoFrom32, St.fTempo, z0]; done) | (simp [St.fTempoFrom32, St.fTempo, z0, Int.min_def]; done) | (simp [St.fTempoFrom32, St.fTempo, z0, Int.min_def]; omega) | (have hmin := Int.min_def; simp only [St.fTempoFrom32, St.fTempo, Int.min_def]; split <;> first | rfl | omega)), hK'⟩
  · refine (r_scream_84_v1 base b w S  (by first | omega | (simp; omega) | (simp [*]; done) | simpa using ‹_›) hl hA).mono ?_
    rintro e w' ⟨he, hA', hK'⟩
    exact ⟨he, hA'.eq (by first | (simp [St.fTempoFrom32, St.fTempo, z0]; done) | (simp [St.fTempoFrom32, St.fTempo, z0, Int.min_def]; done) | (simp [St.fTempoFrom32, St.fTempo, z0, Int.min_def]; omega) | (have hmin := Int.min_def; simp only [St.fTempoFrom32, St.fTempo, Int.min_def]; split <;> first | rfl | omega)), hK'⟩
set_option maxRecDepth 100000 in
set_option maxHeartbeats 400000 in
theorem r_scream_85_v (base b : Nat) (w : World) (S : St)    (hl : S.ops.length ≤ 800) (hA : RAt base w b S) :
    Calls Tryz.prog 44 #[.pointer (some ⟨b, 0, none⟩), .int .u8 85] w fun e w' => e = .returned (.tuple #[]) ∧ RAt base w' b (((S).halves (3)).ask (10) (((S).halves (3)).h) (((S).halves (3)).l)) ∧ Kp 50 base b w w' := by
  have ch := hA.ch
  simp only [Nat.reduceAdd] at ch
  have cl := hA.cl
  simp only [Nat.reduceAdd] at cl
  have hK0 := Kp.refl 50 base b w
  go_enter Tryz.func44, Tryz.ntmps44
  go_wp2_with (first | (go_at_call 27; refine (rhas_v (c := 85) (v := false) (by decide) _).mono ?_; rintro _ wh ⟨rfl, rfl⟩) | (go_at_call 42; refine (rhalves base b _ (S) _ (by decide) (by decide) hA).mono ?_; clear hA; rintro e1 w1 ⟨rfl, hA1, hN1⟩; have hK1 := hK0.trans hN1; clear hN1 hK0; have ch1 := hA1.ch; simp only [Nat.reduceAdd] at ch1; have cl1 := hA1.cl; simp only [Nat.reduceAdd] at cl1))
  go_still_tail 9, (by kernel_rfl)
  change wpList _ _ _ _ _ w1.drew
  have hA2 := hA1.drew
  have hK2 := hK1.drew
  clear hA1 hK1
  generalize w1.drew = w2 at hA2 hK2 ⊢
  have ch2 := hA2.ch
  simp only [Nat.reduceAdd] at ch2
  have cl2 := hA2.cl
  simp only [Nat.reduceAdd] at cl2
  go_wp2_with (first | (go_at_call 27; refine (rhas_v (c := 85) (v := false) (by decide) _).mono ?_; rintro _ wh ⟨rfl, rfl⟩) | (go_at_call 39; refine (rask base b _ ((S).halves (3)) _ _ _ hA2 (by first | omega | (simp only [St.ops_ask, St.ops_put, St.ops_whole, St.ops_halves, St.ops_low, St.ops_keep, List.length_append, List.length_cons, List.length_nil]; omega))).mono ?_; clear hA2; rintro e3 w3 ⟨rfl, hA3, hN3⟩; have hK3 := hK2.trans hN3; clear hN3 hK2; have ch3 := hA3.ch; simp only [Nat.reduceAdd] at ch3; have cl3 := hA3.cl; simp only [Nat.reduceAdd] at cl3))
  go_end0
  exact ⟨rfl, hA3, hK3⟩
set_option maxRecDepth 100000 in
set_option maxHeartbeats 200000 in
theorem r_scream_85 (base b : Nat) (w : World) (S : St)  (hl : S.ops.length ≤ 800) (hA : RAt base w b S) :
    Calls Tryz.prog 44 #[.pointer (some ⟨b, 0, none⟩), .int .u8 85] w fun e w' => e = .returned (.tuple #[]) ∧ RAt base w' b ((St.fHalved 3 (St.fBoth 10)) S) ∧ Kp 50 base b w w' := by
  refine (r_scream_85_v base b w S  hl hA).mono ?_
  rintro e w' ⟨he, hA', hK'⟩
  exact ⟨he, hA'.eq (by first | rfl | simp [St.fBoth, St.fHalved]), hK'⟩
set_option maxRecDepth 100000 in
set_option maxHeartbeats 400000 in
theorem r_scream_86_v (base b : Nat) (w : World) (S : St)    (hl : S.ops.length ≤ 800) (hA : RAt base w b S) :
    Calls Tryz.prog 44 #[.pointer (some ⟨b, 0, none⟩), .int .u8 86] w fun e w' => e = .returned (.tuple #[]) ∧ RAt base w' b ((S).ask (28) (wrap64 (2 * min (S).p 64)) (0)) ∧ Kp 50 base b w w' := by
  have cp := hA.cp
  have hK0 := Kp.refl 50 base b w
  go_enter Tryz.func44, Tryz.ntmps44
  go_wp2_with (first | (go_at_call 27; refine (rhas_v (c := 86) (v := false) (by decide) _).mono ?_; rintro _ wh ⟨rfl, rfl⟩) | (go_at_call 39; refine (rask base b _ (S) _ _ _ hA (by first | omega | (simp only [St.ops_ask, St.ops_put, St.ops_whole, St.ops_halves, St.ops_low, St.ops_keep, List.length_append, List.length_cons, List.length_nil]; omega))).mono ?_; clear hA; rintro e1 w1 ⟨rfl, hA1, hN1⟩; have hK1 := hK0.trans hN1; clear hN1 hK0; have cp1 := hA1.cp))
  go_end0
  exact ⟨rfl, hA1, hK1⟩
set_option maxRecDepth 100000 in
set_option maxHeartbeats 200000 in
theorem r_scream_86 (base b : Nat) (w : World) (S : St)  (hl : S.ops.length ≤ 800) (hA : RAt base w b S) :
    Calls Tryz.prog 44 #[.pointer (some ⟨b, 0, none⟩), .int .u8 86] w fun e w' => e = .returned (.tuple #[]) ∧ RAt base w' b ((St.fDoubled 28 64) S) ∧ Kp 50 base b w w' := by
  refine (r_scream_86_v base b w S  hl hA).mono ?_
  rintro e w' ⟨he, hA', hK'⟩
  exact ⟨he, hA'.eq (by first | rfl | simp [St.fDoubled]), hK'⟩
set_option maxRecDepth 100000 in
set_option maxHeartbeats 400000 in
theorem r_scream_88_v (base b : Nat) (w : World) (S : St) (px0 : 0 ≤ S.p) (px1 : S.p ≤ 255)   (hl : S.ops.length ≤ 800) (hA : RAt base w b S) :
    Calls Tryz.prog 44 #[.pointer (some ⟨b, 0, none⟩), .int .u8 88] w fun e w' => e = .returned (.tuple #[]) ∧ RAt base w' b ((S).ask (16) (min (2 * S.p) 256) (0)) ∧ Kp 50 base b w w' := by
  have cp := hA.cp
  have hK0 := Kp.refl 50 base b w
  go_enter Tryz.func44, Tryz.ntmps44
  go_wp2_with (first | (go_at_call 27; refine (rhas_v (c := 88) (v := false) (by decide) _).mono ?_; rintro _ wh ⟨rfl, rfl⟩) | (go_at_call 39; refine (rask base b _ (S) _ _ _ hA (by first | omega | (simp only [St.ops_ask, St.ops_put, St.ops_whole, St.ops_halves, St.ops_low, St.ops_keep, List.length_append, List.length_cons, List.length_nil]; omega))).mono ?_; clear hA; rintro e1 w1 ⟨rfl, hA1, hN1⟩; have hK1 := hK0.trans hN1; clear hN1 hK0; have cp1 := hA1.cp))
  go_end0
  exact ⟨rfl, hA1, hK1⟩
set_option maxRecDepth 100000 in
set_option maxHeartbeats 400000 in
theorem r_scream_88 (base b : Nat) (w : World) (S : St) (px0 : 0 ≤ S.p) (px1 : S.p ≤ 255) (hl : S.ops.length ≤ 800) (hA : RAt base w b S) :
    Calls Tryz.prog 44 #[.pointer (some ⟨b, 0, none⟩), .int .u8 88] w fun e w' => e = .returned (.tuple #[]) ∧ RAt base w' b (St.fDoubled 16 128 S) ∧ Kp 50 base b w w' := by
  refine (r_scream_88_v base b w S px0 px1 hl hA).mono ?_
  rintro e w' ⟨he, hA', hK'⟩
  refine ⟨he, hA'.eq ?_, hK'⟩
  unfold St.fDoubled
  rw [wrap_small (by omega) (by omega)]
  exact congrArg (fun x => S.ask 16 x 0) (by omega)
set_option maxRecDepth 100000 in
set_option maxHeartbeats 400000 in
theorem r_scream_83_1_v0 (base b : Nat) (w : World) (S : St) (hk : (S.whole 1).h = 1)   (hl : S.ops.length ≤ 800) (hA : RAt base w b S) :
    Calls Tryz.prog 44 #[.pointer (some ⟨b, 0, none⟩), .int .u8 83] w fun e w' => e = .returned (.tuple #[]) ∧ RAt base w' b ((((S).whole (1)).ask (24) (min ((S).whole (1)).l 1) (0))) ∧ Kp 50 base b w w' := by
  have ch := hA.ch
  simp only [Nat.reduceAdd] at ch
  have cl := hA.cl
  simp only [Nat.reduceAdd] at cl
  have hK0 := Kp.refl 50 base b w
  go_enter Tryz.func44, Tryz.ntmps44
  go_wp2_with (first | (go_at_call 27; refine (rhas_v (c := 83) (v := true) (by decide) _).mono ?_; rintro _ wh ⟨rfl, rfl⟩) | (go_at_call 41; refine (rwhole base b _ (S) _ (by decide) (by decide) hA).mono ?_; clear hA; rintro e1 w1 ⟨rfl, hA1, hN1⟩; have hK1 := hK0.trans hN1; clear hN1 hK0; have ch1 := hA1.ch; simp only [Nat.reduceAdd] at ch1; have cl1 := hA1.cl; simp only [Nat.reduceAdd] at cl1) | (go_at_call 39; refine (rask base b _ ((S).whole (1)) _ _ _ hA1 (by first | omega | (simp only [St.ops_ask, St.ops_put, St.ops_whole, St.ops_halves, St.ops_low, St.ops_keep, List.length_append, List.length_cons, List.length_nil]; omega))).mono ?_; clear hA1; rintro e2 w2 ⟨rfl, hA2, hN2⟩; have hK2 := hK1.trans hN2; clear hN2 hK1; have ch2 := hA2.ch; simp only [Nat.reduceAdd] at ch2; have cl2 := hA2.cl; simp only [Nat.reduceAdd] at cl2) | (go_at_call 59; refine (r_rows_none base b _ (((S).whole (1)).ask (24) (min ((S).whole (1)).l 1) (0)) (by simp [St.ask, hk]) (by simp [St.ask, hk]) (by simp [St.ask, hk]) (by simp [St.ask, hk]) (by first | omega | (simp only [St.ops_ask, St.ops_put, St.ops_whole, St.ops_halves, St.ops_low, St.ops_keep, List.length_append, List.length_cons, List.length_nil]; omega)) hA2).mono ?_; clear hA2; rintro e3 w3 ⟨rfl, hA3, hN3⟩; have hK3 := hK2.trans hN3; clear hN3 hK2; have ch3 := hA3.ch; simp only [Nat.reduceAdd] at ch3; have cl3 := hA3.cl; simp only [Nat.reduceAdd] at cl3))
  go_end0
  exact ⟨rfl, hA3, hK3⟩
set_option maxRecDepth 100000 in
set_option maxHeartbeats 400000 in
theorem r_scream_83_2_v0 (base b : Nat) (w : World) (S : St) (hk : (S.whole 1).h = 2)   (hl : S.ops.length ≤ 800) (hA : RAt base w b S) :
    Calls Tryz.prog 44 #[.pointer (some ⟨b, 0, none⟩), .int .u8 83] w fun e w' => e = .returned (.tuple #[]) ∧ RAt base w' b ((((S).whole (1)).ask (27) (wrap64 (8 * wrap64 (((S).whole (1)).l - 8))) (0))) ∧ Kp 50 base b w w' := by
  have ch := hA.ch
  simp only [Nat.reduceAdd] at ch
  have cl := hA.cl
  simp only [Nat.reduceAdd] at cl
  have hK0 := Kp.refl 50 base b w
  go_enter Tryz.func44, Tryz.ntmps44
  go_wp2_with (first | (go_at_call 27; refine (rhas_v (c := 83) (v := true) (by decide) _).mono ?_; rintro _ wh ⟨rfl, rfl⟩) | (go_at_call 41; refine (rwhole base b _ (S) _ (by decide) (by decide) hA).mono ?_; clear hA; rintro e1 w1 ⟨rfl, hA1, hN1⟩; have hK1 := hK0.trans hN1; clear hN1 hK0; have ch1 := hA1.ch; simp only [Nat.reduceAdd] at ch1; have cl1 := hA1.cl; simp only [Nat.reduceAdd] at cl1) | (go_at_call 39; refine (rask base b _ ((S).whole (1)) _ _ _ hA1 (by first | omega | (simp only [St.ops_ask, St.ops_put, St.ops_whole, St.ops_halves, St.ops_low, St.ops_keep, List.length_append, List.length_cons, List.length_nil]; omega))).mono ?_; clear hA1; rintro e2 w2 ⟨rfl, hA2, hN2⟩; have hK2 := hK1.trans hN2; clear hN2 hK1; have ch2 := hA2.ch; simp only [Nat.reduceAdd] at ch2; have cl2 := hA2.cl; simp only [Nat.reduceAdd] at cl2) | (go_at_call 59; refine (r_rows_none base b _ (((S).whole (1)).ask (27) (wrap64 (8 * wrap64 (((S).whole (1)).l - 8))) (0)) (by simp [St.ask, hk]) (by simp [St.ask, hk]) (by simp [St.ask, hk]) (by simp [St.ask, hk]) (by first | omega | (simp only [St.ops_ask, St.ops_put, St.ops_whole, St.ops_halves, St.ops_low, St.ops_keep, List.length_append, List.length_cons, List.length_nil]; omega)) hA2).mono ?_; clear hA2; rintro e3 w3 ⟨rfl, hA3, hN3⟩; have hK3 := hK2.trans hN3; clear hN3 hK2; have ch3 := hA3.ch; simp only [Nat.reduceAdd] at ch3; have cl3 := hA3.cl; simp only [Nat.reduceAdd] at cl3))
  go_end0
  exact ⟨rfl, hA3, hK3⟩
set_option maxRecDepth 100000 in
set_option maxHeartbeats 400000 in
theorem r_scream_83_3_v0 (base b : Nat) (w : World) (S : St) (hk : (S.whole 1).h = 3)   (hl : S.ops.length ≤ 800) (hA : RAt base w b S) :
    Calls Tryz.prog 44 #[.pointer (some ⟨b, 0, none⟩), .int .u8 83] w fun e w' => e = .returned (.tuple #[]) ∧ RAt base w' b ((((S).whole (1)).ask (25) (((S).whole (1)).l.tmod 4) (0))) ∧ Kp 50 base b w w' := by
  have ch := hA.ch
  simp only [Nat.reduceAdd] at ch
  have cl := hA.cl
  simp only [Nat.reduceAdd] at cl
  have hK0 := Kp.refl 50 base b w
  go_enter Tryz.func44, Tryz.ntmps44
  go_wp2_with (first | (go_at_call 27; refine (rhas_v (c := 83) (v := true) (by decide) _).mono ?_; rintro _ wh ⟨rfl, rfl⟩) | (go_at_call 41; refine (rwhole base b _ (S) _ (by decide) (by decide) hA).mono ?_; clear hA; rintro e1 w1 ⟨rfl, hA1, hN1⟩; have hK1 := hK0.trans hN1; clear hN1 hK0; have ch1 := hA1.ch; simp only [Nat.reduceAdd] at ch1; have cl1 := hA1.cl; simp only [Nat.reduceAdd] at cl1) | (go_at_call 39; refine (rask base b _ ((S).whole (1)) _ _ _ hA1 (by first | omega | (simp only [St.ops_ask, St.ops_put, St.ops_whole, St.ops_halves, St.ops_low, St.ops_keep, List.length_append, List.length_cons, List.length_nil]; omega))).mono ?_; clear hA1; rintro e2 w2 ⟨rfl, hA2, hN2⟩; have hK2 := hK1.trans hN2; clear hN2 hK1; have ch2 := hA2.ch; simp only [Nat.reduceAdd] at ch2; have cl2 := hA2.cl; simp only [Nat.reduceAdd] at cl2) | (go_at_call 59; refine (r_rows_none base b _ (((S).whole (1)).ask (25) (((S).whole (1)).l.tmod 4) (0)) (by simp [St.ask, hk]) (by simp [St.ask, hk]) (by simp [St.ask, hk]) (by simp [St.ask, hk]) (by first | omega | (simp only [St.ops_ask, St.ops_put, St.ops_whole, St.ops_halves, St.ops_low, St.ops_keep, List.length_append, List.length_cons, List.length_nil]; omega)) hA2).mono ?_; clear hA2; rintro e3 w3 ⟨rfl, hA3, hN3⟩; have hK3 := hK2.trans hN3; clear hN3 hK2; have ch3 := hA3.ch; simp only [Nat.reduceAdd] at ch3; have cl3 := hA3.cl; simp only [Nat.reduceAdd] at cl3))
  go_end0
  exact ⟨rfl, hA3, hK3⟩
set_option maxRecDepth 100000 in
set_option maxHeartbeats 400000 in
theorem r_scream_83_4_v0 (base b : Nat) (w : World) (S : St) (hk : (S.whole 1).h = 4)   (hl : S.ops.length ≤ 800) (hA : RAt base w b S) :
    Calls Tryz.prog 44 #[.pointer (some ⟨b, 0, none⟩), .int .u8 83] w fun e w' => e = .returned (.tuple #[]) ∧ RAt base w' b ((((S).whole (1)).ask (26) (((S).whole (1)).l.tmod 4) (0))) ∧ Kp 50 base b w w' := by
  have ch := hA.ch
  simp only [Nat.reduceAdd] at ch
  have cl := hA.cl
  simp only [Nat.reduceAdd] at cl
  have hK0 := Kp.refl 50 base b w
  go_enter Tryz.func44, Tryz.ntmps44
  go_wp2_with (first | (go_at_call 27; refine (rhas_v (c := 83) (v := true) (by decide) _).mono ?_; rintro _ wh ⟨rfl, rfl⟩) | (go_at_call 41; refine (rwhole base b _ (S) _ (by decide) (by decide) hA).mono ?_; clear hA; rintro e1 w1 ⟨rfl, hA1, hN1⟩; have hK1 := hK0.trans hN1; clear hN1 hK0; have ch1 := hA1.ch; simp only [Nat.reduceAdd] at ch1; have cl1 := hA1.cl; simp only [Nat.reduceAdd] at cl1) | (go_at_call 39; refine (rask base b _ ((S).whole (1)) _ _ _ hA1 (by first | omega | (simp only [St.ops_ask, St.ops_put, St.ops_whole, St.ops_halves, St.ops_low, St.ops_keep, List.length_append, List.length_cons, List.length_nil]; omega))).mono ?_; clear hA1; rintro e2 w2 ⟨rfl, hA2, hN2⟩; have hK2 := hK1.trans hN2; clear hN2 hK1; have ch2 := hA2.ch; simp only [Nat.reduceAdd] at ch2; have cl2 := hA2.cl; simp only [Nat.reduceAdd] at cl2) | (go_at_call 59; refine (r_rows_none base b _ (((S).whole (1)).ask (26) (((S).whole (1)).l.tmod 4) (0)) (by simp [St.ask, hk]) (by simp [St.ask, hk]) (by simp [St.ask, hk]) (by simp [St.ask, hk]) (by first | omega | (simp only [St.ops_ask, St.ops_put, St.ops_whole, St.ops_halves, St.ops_low, St.ops_keep, List.length_append, List.length_cons, List.length_nil]; omega)) hA2).mono ?_; clear hA2; rintro e3 w3 ⟨rfl, hA3, hN3⟩; have hK3 := hK2.trans hN3; clear hN3 hK2; have ch3 := hA3.ch; simp only [Nat.reduceAdd] at ch3; have cl3 := hA3.cl; simp only [Nat.reduceAdd] at cl3))
  go_end0
  exact ⟨rfl, hA3, hK3⟩
set_option maxRecDepth 100000 in
set_option maxHeartbeats 400000 in
theorem r_scream_83_8_v0 (base b : Nat) (w : World) (S : St) (hk : (S.whole 1).h = 8)   (hl : S.ops.length ≤ 800) (hA : RAt base w b S) :
    Calls Tryz.prog 44 #[.pointer (some ⟨b, 0, none⟩), .int .u8 83] w fun e w' => e = .returned (.tuple #[]) ∧ RAt base w' b ((((S).whole (1)).ask (16) (wrap64 (wrap64 (17 * ((S).whole (1)).l) + wrap64 ((wrap64 (17 * ((S).whole (1)).l)).tdiv 128))) (0))) ∧ Kp 50 base b w w' := by
  have ch := hA.ch
  simp only [Nat.reduceAdd] at ch
  have cl := hA.cl
  simp only [Nat.reduceAdd] at cl
  have hK0 := Kp.refl 50 base b w
  go_enter Tryz.func44, Tryz.ntmps44
  go_wp2_with (first | (go_at_call 27; refine (rhas_v (c := 83) (v := true) (by decide) _).mono ?_; rintro _ wh ⟨rfl, rfl⟩) | (go_at_call 54; refine (rpan _ _).mono ?_; rintro _ wq ⟨rfl, rfl⟩) | (go_at_call 41; refine (rwhole base b _ (S) _ (by decide) (by decide) hA).mono ?_; clear hA; rintro e1 w1 ⟨rfl, hA1, hN1⟩; have hK1 := hK0.trans hN1; clear hN1 hK0; have ch1 := hA1.ch; simp only [Nat.reduceAdd] at ch1; have cl1 := hA1.cl; simp only [Nat.reduceAdd] at cl1) | (go_at_call 39; refine (rask base b _ ((S).whole (1)) _ _ _ hA1 (by first | omega | (simp only [St.ops_ask, St.ops_put, St.ops_whole, St.ops_halves, St.ops_low, St.ops_keep, List.length_append, List.length_cons, List.length_nil]; omega))).mono ?_; clear hA1; rintro e2 w2 ⟨rfl, hA2, hN2⟩; have hK2 := hK1.trans hN2; clear hN2 hK1; have ch2 := hA2.ch; simp only [Nat.reduceAdd] at ch2; have cl2 := hA2.cl; simp only [Nat.reduceAdd] at cl2) | (go_at_call 59; refine (r_rows_none base b _ (((S).whole (1)).ask (16) (wrap64 (wrap64 (17 * ((S).whole (1)).l) + wrap64 ((wrap64 (17 * ((S).whole (1)).l)).tdiv 128))) (0)) (by simp [St.ask, hk]) (by simp [St.ask, hk]) (by simp [St.ask, hk]) (by simp [St.ask, hk]) (by first | omega | (simp only [St.ops_ask, St.ops_put, St.ops_whole, St.ops_halves, St.ops_low, St.ops_keep, List.length_append, List.length_cons, List.length_nil]; omega)) hA2).mono ?_; clear hA2; rintro e3 w3 ⟨rfl, hA3, hN3⟩; have hK3 := hK2.trans hN3; clear hN3 hK2; have ch3 := hA3.ch; simp only [Nat.reduceAdd] at ch3; have cl3 := hA3.cl; simp only [Nat.reduceAdd] at cl3))
  go_end0
  exact ⟨rfl, hA3, hK3⟩
set_option maxRecDepth 100000 in
set_option maxHeartbeats 400000 in
theorem r_scream_83_none (base b : Nat) (w : World) (S : St) (n1 : ((S.whole 1).h == 1) = false) (n2 : ((S.whole 1).h == 2) = false) (n3 : ((S.whole 1).h == 3) = false) (n4 : ((S.whole 1).h == 4) = false) (n8 : ((S.whole 1).h == 8) = false)   (hl : S.ops.length ≤ 800) (hA : RAt base w b S) :
    Calls Tryz.prog 44 #[.pointer (some ⟨b, 0, none⟩), .int .u8 83] w fun e w' => e = .returned (.tuple #[]) ∧ RAt base w' b (St.fByHigh (tTimed 11) ((S).whole (1))) ∧ Kp 50 base b w w' := by
  have ch := hA.ch
  simp only [Nat.reduceAdd] at ch
  have hK0 := Kp.refl 50 base b w
  go_enter Tryz.func44, Tryz.ntmps44
  go_wp2_with (first | (go_at_call 27; refine (rhas_v (c := 83) (v := true) (by decide) _).mono ?_; rintro _ wh ⟨rfl, rfl⟩) | (go_at_call 41; refine (rwhole base b _ (S) _ (by decide) (by decide) hA).mono ?_; clear hA; rintro e1 w1 ⟨rfl, hA1, hN1⟩; have hK1 := hK0.trans hN1; clear hN1 hK0; have ch1 := hA1.ch; simp only [Nat.reduceAdd] at ch1) | (go_at_call 59; refine (r_rows base b _ ((S).whole (1)) (by first | omega | (simp only [St.ops_ask, St.ops_put, St.ops_whole, St.ops_halves, St.ops_low, St.ops_keep, List.length_append, List.length_cons, List.length_nil]; omega)) hA1).mono ?_; clear hA1; rintro e2 w2 ⟨rfl, hA2, hN2⟩; have hK2 := hK1.trans hN2; clear hN2 hK1; have ch2 := hA2.ch; simp only [Nat.reduceAdd] at ch2))
  go_end0
  exact ⟨rfl, hA2, hK2⟩
set_option maxRecDepth 100000 in
set_option maxHeartbeats 400000 in
theorem r_scream_83 (base b : Nat) (w : World) (S : St) (hl : S.ops.length ≤ 800) (hA : RAt base w b S) :
    Calls Tryz.prog 44 #[.pointer (some ⟨b, 0, none⟩), .int .u8 83] w fun e w' => e = .returned (.tuple #[]) ∧ RAt base w' b (St.fWholly 1 (St.fByHigh tScreamS) S) ∧ Kp 50 base b w w' := by
  by_cases e1 : (S.whole 1).h = 1
  · have hf : St.fWholly 1 (St.fByHigh tScreamS) S = (St.fGliss) (S.whole 1) := by show St.fByHigh tScreamS (S.whole 1) = _; exact byHigh_at (k := 1) e1 rfl
    rw [hf]
    refine (r_scream_83_1_v0 base b w S e1 hl hA).mono ?_
    rintro e w' ⟨he, hA', hK'⟩
    exact ⟨he, hA'.eq (by first | rfl | simp [St.fGliss]), hK'⟩
  by_cases e2 : (S.whole 1).h = 2
  · have hf : St.fWholly 1 (St.fByHigh tScreamS) S = (St.fScreamFine) (S.whole 1) := by show St.fByHigh tScreamS (S.whole 1) = _; exact byHigh_at (k := 2) e2 rfl
    rw [hf]
    refine (r_scream_83_2_v0 base b w S e2 hl hA).mono ?_
    rintro e w' ⟨he, hA', hK'⟩
    exact ⟨he, hA'.eq (by first | rfl | simp [St.fScreamFine]), hK'⟩
  by_cases e3 : (S.whole 1).h = 3
  · have hf : St.fWholly 1 (St.fByHigh tScreamS) S = (St.fWave 25) (S.whole 1) := by show St.fByHigh tScreamS (S.whole 1) = _; exact byHigh_at (k := 3) e3 rfl
    rw [hf]
    refine (r_scream_83_3_v0 base b w S e3 hl hA).mono ?_
    rintro e w' ⟨he, hA', hK'⟩
    exact ⟨he, hA'.eq (by first | rfl | simp [St.fWave]), hK'⟩
  by_cases e4 : (S.whole 1).h = 4
  · have hf : St.fWholly 1 (St.fByHigh tScreamS) S = (St.fWave 26) (S.whole 1) := by show St.fByHigh tScreamS (S.whole 1) = _; exact byHigh_at (k := 4) e4 rfl
    rw [hf]
    refine (r_scream_83_4_v0 base b w S e4 hl hA).mono ?_
    rintro e w' ⟨he, hA', hK'⟩
    exact ⟨he, hA'.eq (by first | rfl | simp [St.fWave]), hK'⟩
  by_cases e8 : (S.whole 1).h = 8
  · have hf : St.fWholly 1 (St.fByHigh tScreamS) S = (St.fPanLow) (S.whole 1) := by show St.fByHigh tScreamS (S.whole 1) = _; exact byHigh_at (k := 8) e8 rfl
    rw [hf]
    refine (r_scream_83_8_v0 base b w S e8 hl hA).mono ?_
    rintro e w' ⟨he, hA', hK'⟩
    exact ⟨he, hA'.eq (by first | rfl | simp [St.fPan, St.fPanLow]), hK'⟩
  refine (r_scream_83_none base b w S (by simp [e1]) (by simp [e2]) (by simp [e3]) (by simp [e4]) (by simp [e8]) hl hA).mono ?_
  rintro e w' ⟨he, hA', hK'⟩
  refine ⟨he, hA'.eq ?_, hK'⟩
  show St.fByHigh (tTimed 11) (S.whole 1) = St.fByHigh tScreamS (S.whole 1)
  refine byHigh_eq ?_
  simp [tScreamS, mset, e1, e2, e3, e4, e8]
set_option maxRecDepth 100000 in
set_option maxHeartbeats 200000 in
theorem r_scream (base b : Nat) (w : World) (S : St) (c : Int) (F : St → St) (hc : c = 65 ∨ c = 66 ∨ c = 67 ∨ c = 68 ∨ c = 69 ∨ c = 70 ∨ c = 71 ∨ c = 72 ∨ c = 73 ∨ c = 74 ∨ c = 75 ∨ c = 76 ∨ c = 79 ∨ c = 81 ∨ c = 82 ∨ c = 84 ∨ c = 85 ∨ c = 86 ∨ c = 83 ∨ c = 88) (h : tScream c = some F) (px0 : 0 ≤ S.p) (px1 : S.p ≤ 255) (hl : S.ops.length ≤ 800) (hA : RAt base w b S) :
    Calls Tryz.prog 44 #[.pointer (some ⟨b, 0, none⟩), .int .u8 c] w fun e w' => e = .returned (.tuple #[]) ∧ RAt base w' b (F S) ∧ Kp 50 base b w w' := by
  rcases hc with rfl | rfl | rfl | rfl | rfl | rfl | rfl | rfl | rfl | rfl | rfl | rfl | rfl | rfl | rfl | rfl | rfl | rfl | rfl | rfl
  · obtain rfl : (St.fUnless0 (St.fParam 36)) = F := Option.some.inj ((show tScream 65 = some (St.fUnless0 (St.fParam 36)) from rfl).symm.trans h)
    exact r_scream_65 base b w S hl hA
  · obtain rfl : (St.fParam 32) = F := Option.some.inj ((show tScream 66 = some (St.fParam 32) from rfl).symm.trans h)
    exact r_scream_66 base b w S hl hA
  · obtain rfl : (St.fDecimal) = F := Option.some.inj ((show tScream 67 = some (St.fDecimal) from rfl).symm.trans h)
    exact r_scream_67 base b w S hl hA
  · obtain rfl : (St.fWholly 1 (St.slide)) = F := Option.some.inj ((show tScream 68 = some (St.fWholly 1 (St.slide)) from rfl).symm.trans h)
    exact r_scream_68 base b w S hl hA
  · obtain rfl : (St.fWholly 1 (St.fDown)) = F := Option.some.inj ((show tScream 69 = some (St.fWholly 1 (St.fDown)) from rfl).symm.trans h)
    exact r_scream_69 base b w S hl hA
  · obtain rfl : (St.fWholly 1 (St.fUp)) = F := Option.some.inj ((show tScream 70 = some (St.fWholly 1 (St.fUp)) from rfl).symm.trans h)
    exact r_scream_70 base b w S hl hA
  · obtain rfl : (St.fWholly 2 (St.fParam 8)) = F := Option.some.inj ((show tScream 71 = some (St.fWholly 2 (St.fParam 8)) from rfl).symm.trans h)
    exact r_scream_71 base b w S hl hA
  · obtain rfl : (St.fHalved 3 (St.fBoth 9)) = F := Option.some.inj ((show tScream 72 = some (St.fHalved 3 (St.fBoth 9)) from rfl).symm.trans h)
    exact r_scream_72 base b w S hl hA
  · obtain rfl : (St.fWholly 1 (St.fTremor)) = F := Option.some.inj ((show tScream 73 = some (St.fWholly 1 (St.fTremor)) from rfl).symm.trans h)
    exact r_scream_73 base b w S hl hA
  · obtain rfl : (St.fWholly 1 (St.fBoth 1)) = F := Option.some.inj ((show tScream 74 = some (St.fWholly 1 (St.fBoth 1)) from rfl).symm.trans h)
    exact r_scream_74 base b w S hl hA
  · obtain rfl : (St.fWholly 1 (St.fVibratoSlide)) = F := Option.some.inj ((show tScream 75 = some (St.fWholly 1 (St.fVibratoSlide)) from rfl).symm.trans h)
    exact r_scream_75 base b w S hl hA
  · obtain rfl : (St.fWholly 1 (St.fToneSlide)) = F := Option.some.inj ((show tScream 76 = some (St.fWholly 1 (St.fToneSlide)) from rfl).symm.trans h)
    exact r_scream_76 base b w S hl hA
  · obtain rfl : (St.fWholly 4 (St.fOffset)) = F := Option.some.inj ((show tScream 79 = some (St.fWholly 4 (St.fOffset)) from rfl).symm.trans h)
    exact r_scream_79 base b w S hl hA
  · obtain rfl : (St.fWholly 1 (St.fRetrig)) = F := Option.some.inj ((show tScream 81 = some (St.fWholly 1 (St.fRetrig)) from rfl).symm.trans h)
    exact r_scream_81 base b w S hl hA
  · obtain rfl : (St.fWholly 1 (St.fBoth 11)) = F := Option.some.inj ((show tScream 82 = some (St.fWholly 1 (St.fBoth 11)) from rfl).symm.trans h)
    exact r_scream_82 base b w S hl hA
  · obtain rfl : (St.fTempoFrom32) = F := Option.some.inj ((show tScream 84 = some (St.fTempoFrom32) from rfl).symm.trans h)
    exact r_scream_84 base b w S hl hA
  · obtain rfl : (St.fHalved 3 (St.fBoth 10)) = F := Option.some.inj ((show tScream 85 = some (St.fHalved 3 (St.fBoth 10)) from rfl).symm.trans h)
    exact r_scream_85 base b w S hl hA
  · obtain rfl : (St.fDoubled 28 64) = F := Option.some.inj ((show tScream 86 = some (St.fDoubled 28 64) from rfl).symm.trans h)
    exact r_scream_86 base b w S hl hA
  · obtain rfl : (St.fWholly 1 (St.fByHigh tScreamS)) = F := Option.some.inj ((show tScream 83 = some (St.fWholly 1 (St.fByHigh tScreamS)) from rfl).symm.trans h)
    exact r_scream_83 base b w S hl hA
  · obtain rfl : (St.fDoubled 16 128) = F := Option.some.inj ((show tScream 88 = some (St.fDoubled 16 128) from rfl).symm.trans h)
    exact r_scream_88 base b w S px0 px1 hl hA

end Go.Proofs.YtappnglfmidjoaaGreat.D
