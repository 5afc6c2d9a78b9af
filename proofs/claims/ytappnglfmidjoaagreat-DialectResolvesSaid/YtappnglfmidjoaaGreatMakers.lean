/- The functions that make effects: what each closure that they make does. -/
import Derived.Test.YtappnglfmidjoaaGreatMaps
import Derived.Test.YtappnglfmidjoaaGreatFx
set_option linter.unusedVariables false
set_option linter.unusedSimpArgs false
namespace Go.Proofs.YtappnglfmidjoaaGreat.D
open Go Go.RowKit
open Go.Proofs.YtappnglfmidjoaaGreat.DB
set_option maxRecDepth 100000 in
set_option maxHeartbeats 400000 in
theorem c_four1 (base b : Nat) (w : World) (S : St) (hl : S.ops.length ≤ 800) (hA : PAt base w b S) :
    Calls Tryz.prog 89 #[.pointer (some ⟨b, 0, none⟩)] w fun e w' => e = .returned (.tuple #[]) ∧ PAt base w' b (St.fFive S) ∧ Kp 50 base b w w' := by
  exact four1 base b w S hl hA
set_option maxRecDepth 100000 in
set_option maxHeartbeats 400000 in
theorem c_four2 (base b : Nat) (w : World) (S : St) (hl : S.ops.length ≤ 800) (hA : PAt base w b S) :
    Calls Tryz.prog 90 #[.pointer (some ⟨b, 0, none⟩)] w fun e w' => e = .returned (.tuple #[]) ∧ PAt base w' b (St.fSix S) ∧ Kp 50 base b w w' := by
  exact four2 base b w S hl hA
set_option maxRecDepth 100000 in
set_option maxHeartbeats 400000 in
theorem c_four3 (base b : Nat) (w : World) (S : St) (hl : S.ops.length ≤ 800) (hA : PAt base w b S) :
    Calls Tryz.prog 92 #[.pointer (some ⟨b, 0, none⟩)] w fun e w' => e = .returned (.tuple #[]) ∧ PAt base w' b (St.fPan S) ∧ Kp 50 base b w w' := by
  exact four3 base b w S hl hA
set_option maxRecDepth 100000 in
set_option maxHeartbeats 400000 in
theorem c_four4 (base b : Nat) (w : World) (S : St) (hl : S.ops.length ≤ 800) (hA : PAt base w b S) :
    Calls Tryz.prog 94 #[.pointer (some ⟨b, 0, none⟩)] w fun e w' => e = .returned (.tuple #[]) ∧ PAt base w' b (St.fOffset S) ∧ Kp 50 base b w w' := by
  exact four4 base b w S hl hA
set_option maxRecDepth 100000 in
set_option maxHeartbeats 400000 in
theorem c_decimal (base b : Nat) (w : World) (S : St) (hl : S.ops.length ≤ 800) (hA : PAt base w b S) :
    Calls Tryz.prog 96 #[.pointer (some ⟨b, 0, none⟩)] w fun e w' => e = .returned (.tuple #[]) ∧ PAt base w' b (St.fDecimal S) ∧ Kp 50 base b w w' := by
  exact decimal base b w S hl hA
set_option maxRecDepth 100000 in
set_option maxHeartbeats 400000 in
theorem c_scream1 (base b : Nat) (w : World) (S : St) (hl : S.ops.length ≤ 800) (hA : PAt base w b S) :
    Calls Tryz.prog 102 #[.pointer (some ⟨b, 0, none⟩)] w fun e w' => e = .returned (.tuple #[]) ∧ PAt base w' b (St.fScreamFine S) ∧ Kp 50 base b w w' := by
  exact scream1 base b w S hl hA
set_option maxRecDepth 100000 in
set_option maxHeartbeats 400000 in
theorem c_down (base b : Nat) (w : World) (S : St) (hl : S.ops.length ≤ 800) (hA : PAt base w b S) :
    Calls Tryz.prog 106 #[.pointer (some ⟨b, 0, none⟩)] w fun e w' => e = .returned (.tuple #[]) ∧ PAt base w' b (St.fDown S) ∧ Kp 50 base b w w' := by
  exact down base b w S hl hA
set_option maxRecDepth 100000 in
set_option maxHeartbeats 400000 in
theorem c_up (base b : Nat) (w : World) (S : St) (hl : S.ops.length ≤ 800) (hA : PAt base w b S) :
    Calls Tryz.prog 107 #[.pointer (some ⟨b, 0, none⟩)] w fun e w' => e = .returned (.tuple #[]) ∧ PAt base w' b (St.fUp S) ∧ Kp 50 base b w w' := by
  exact up base b w S hl hA
set_option maxRecDepth 100000 in
set_option maxHeartbeats 400000 in
theorem c_tremor (base b : Nat) (w : World) (S : St) (hl : S.ops.length ≤ 800) (hA : PAt base w b S) :
    Calls Tryz.prog 108 #[.pointer (some ⟨b, 0, none⟩)] w fun e w' => e = .returned (.tuple #[]) ∧ PAt base w' b (St.fTremor S) ∧ Kp 50 base b w w' := by
  exact tremor base b w S hl hA
set_option maxRecDepth 100000 in
set_option maxHeartbeats 400000 in
theorem c_vibratoSlide (base b : Nat) (w : World) (S : St) (hl : S.ops.length ≤ 800) (hA : PAt base w b S) :
    Calls Tryz.prog 109 #[.pointer (some ⟨b, 0, none⟩)] w fun e w' => e = .returned (.tuple #[]) ∧ PAt base w' b (St.fVibratoSlide S) ∧ Kp 50 base b w w' := by
  exact vibratoSlide base b w S hl hA
set_option maxRecDepth 100000 in
set_option maxHeartbeats 400000 in
theorem c_toneSlide (base b : Nat) (w : World) (S : St) (hl : S.ops.length ≤ 800) (hA : PAt base w b S) :
    Calls Tryz.prog 110 #[.pointer (some ⟨b, 0, none⟩)] w fun e w' => e = .returned (.tuple #[]) ∧ PAt base w' b (St.fToneSlide S) ∧ Kp 50 base b w w' := by
  exact toneSlide base b w S hl hA
set_option maxRecDepth 100000 in
set_option maxHeartbeats 400000 in
theorem c_scream2 (base b : Nat) (w : World) (S : St) (hl : S.ops.length ≤ 800) (hA : PAt base w b S) :
    Calls Tryz.prog 111 #[.pointer (some ⟨b, 0, none⟩)] w fun e w' => e = .returned (.tuple #[]) ∧ PAt base w' b (St.fOffset S) ∧ Kp 50 base b w w' := by
  exact scream2 base b w S hl hA
set_option maxRecDepth 100000 in
set_option maxHeartbeats 400000 in
theorem c_retrig (base b : Nat) (w : World) (S : St) (hl : S.ops.length ≤ 800) (hA : PAt base w b S) :
    Calls Tryz.prog 112 #[.pointer (some ⟨b, 0, none⟩)] w fun e w' => e = .returned (.tuple #[]) ∧ PAt base w' b (St.fRetrig S) ∧ Kp 50 base b w w' := by
  exact retrig base b w S hl hA
set_option maxRecDepth 100000 in
set_option maxHeartbeats 400000 in
theorem c_retrig2 (base b : Nat) (w : World) (S : St) (hl : S.ops.length ≤ 800) (hA : PAt base w b S) :
    Calls Tryz.prog 117 #[.pointer (some ⟨b, 0, none⟩)] w fun e w' => e = .returned (.tuple #[]) ∧ PAt base w' b (St.fRetrig S) ∧ Kp 50 base b w w' := by
  exact retrig2 base b w S hl hA
set_option maxRecDepth 100000 in
set_option maxHeartbeats 400000 in
theorem c_panSlide (base b : Nat) (w : World) (S : St) (hl : S.ops.length ≤ 800) (hA : PAt base w b S) :
    Calls Tryz.prog 121 #[.pointer (some ⟨b, 0, none⟩)] w fun e w' => e = .returned (.tuple #[]) ∧ PAt base w' b (St.fPanSlide S) ∧ Kp 50 base b w w' := by
  exact panSlide base b w S hl hA
set_option maxRecDepth 100000 in
set_option maxHeartbeats 400000 in
theorem c_panLow (base b : Nat) (w : World) (S : St) (hl : S.ops.length ≤ 800) (hA : PAt base w b S) :
    Calls Tryz.prog 104 #[.pointer (some ⟨b, 0, none⟩)] w fun e w' => e = .returned (.tuple #[]) ∧ PAt base w' b (St.fPanLow S) ∧ Kp 50 base b w w' := by
  exact panLow base b w S hl hA
set_option maxRecDepth 100000 in
set_option maxHeartbeats 400000 in
theorem c_impulse2 (base b : Nat) (w : World) (S : St) (hl : S.ops.length ≤ 800) (hA : PAt base w b S) :
    Calls Tryz.prog 124 #[.pointer (some ⟨b, 0, none⟩)] w fun e w' => e = .returned (.tuple #[]) ∧ PAt base w' b (St.fPan S) ∧ Kp 50 base b w w' := by
  exact impulse2 base b w S hl hA
set_option maxRecDepth 100000 in
set_option maxHeartbeats 400000 in
theorem c_noise (base b : Nat) (w : World) (S : St) (hl : S.ops.length ≤ 800) (hA : PAt base w b S) :
    Calls Tryz.prog 127 #[.pointer (some ⟨b, 0, none⟩)] w fun e w' => e = .returned (.tuple #[]) ∧ PAt base w' b (St.fNoise S) ∧ Kp 50 base b w w' := by
  exact noise base b w S hl hA
set_option maxRecDepth 100000 in
set_option maxHeartbeats 400000 in
theorem c_shape (base b : Nat) (w : World) (S : St) (hl : S.ops.length ≤ 800) (hA : PAt base w b S) :
    Calls Tryz.prog 128 #[.pointer (some ⟨b, 0, none⟩)] w fun e w' => e = .returned (.tuple #[]) ∧ PAt base w' b (St.fShape S) ∧ Kp 50 base b w w' := by
  exact shape base b w S hl hA
set_option maxRecDepth 100000 in
set_option maxHeartbeats 400000 in
theorem c_four5 (base b : Nat) (w : World) (S : St) (hl : S.ops.length ≤ 800) (hA : PAt base w b S) :
    Calls Tryz.prog 95 #[.pointer (some ⟨b, 0, none⟩)] w fun e w' => e = .returned (.tuple #[]) ∧ PAt base w' b (St.fVolume S) ∧ Kp 50 base b w w' := by
  by_cases q0 : S.p ≤ 64
  · refine (four5_a base b w S q0 hl hA).mono ?_
    rintro e w' ⟨he, hA', hK'⟩
    exact ⟨he, hA'.eq (by simp [St.fVolume, Int.min_def, q0]), hK'⟩
  · refine (four5_b base b w S (by omega) hl hA).mono ?_
    rintro e w' ⟨he, hA', hK'⟩
    exact ⟨he, hA'.eq (by simp [St.fVolume, Int.min_def, q0]), hK'⟩
set_option maxRecDepth 100000 in
set_option maxHeartbeats 400000 in
theorem c_glissando (base b : Nat) (w : World) (S : St) (hl : S.ops.length ≤ 800) (hA : PAt base w b S) :
    Calls Tryz.prog 101 #[.pointer (some ⟨b, 0, none⟩)] w fun e w' => e = .returned (.tuple #[]) ∧ PAt base w' b (St.fGliss S) ∧ Kp 50 base b w w' := by
  by_cases q0 : S.l ≤ 1
  · refine (glissando_a base b w S q0 hl hA).mono ?_
    rintro e w' ⟨he, hA', hK'⟩
    exact ⟨he, hA'.eq (by simp [St.fGliss, Int.min_def, q0]), hK'⟩
  · refine (glissando_b base b w S (by omega) hl hA).mono ?_
    rintro e w' ⟨he, hA', hK'⟩
    exact ⟨he, hA'.eq (by simp [St.fGliss, Int.min_def, q0]), hK'⟩
set_option maxRecDepth 100000 in
set_option maxHeartbeats 400000 in
theorem c_speedOrTempo (base b : Nat) (w : World) (S : St) (hl : S.ops.length ≤ 800) (hA : PAt base w b S) :
    Calls Tryz.prog 99 #[.pointer (some ⟨b, 0, none⟩)] w fun e w' => e = .returned (.tuple #[]) ∧ PAt base w' b (St.fSpeedOrTempo S) ∧ Kp 50 base b w w' := by
  by_cases q0 : S.p < 32
  · refine (speedOrTempo_a base b w S q0 hl hA).mono ?_
    rintro e w' ⟨he, hA', hK'⟩
    exact ⟨he, hA'.eq (by simp [St.fSpeedOrTempo, q0]), hK'⟩
  · refine (speedOrTempo_b base b w S (by omega) hl hA).mono ?_
    rintro e w' ⟨he, hA', hK'⟩
    exact ⟨he, hA'.eq (by simp [St.fSpeedOrTempo, q0]), hK'⟩
set_option maxRecDepth 100000 in
set_option maxHeartbeats 400000 in
theorem c_scream3 (base b : Nat) (w : World) (S : St) (hl : S.ops.length ≤ 800) (hA : PAt base w b S) :
    Calls Tryz.prog 113 #[.pointer (some ⟨b, 0, none⟩)] w fun e w' => e = .returned (.tuple #[]) ∧ PAt base w' b (St.fTempoFrom32 S) ∧ Kp 50 base b w w' := by
  by_cases q0 : S.p < 32
  · refine (scream3_b base b w S q0 hA).mono ?_
    rintro e w' ⟨he, hA', hK'⟩
    exact ⟨he, hA'.eq (by simp [St.fTempoFrom32, q0]), hK'⟩
  · refine (scream3_a base b w S (by omega) hl hA).mono ?_
    rintro e w' ⟨he, hA', hK'⟩
    exact ⟨he, hA'.eq (by simp [St.fTempoFrom32, q0]), hK'⟩
set_option maxRecDepth 100000 in
set_option maxHeartbeats 400000 in
theorem c_tempo (base b : Nat) (w : World) (S : St) (hl : S.ops.length ≤ 800) (hA : PAt base w b S) :
    Calls Tryz.prog 123 #[.pointer (some ⟨b, 0, none⟩)] w fun e w' => e = .returned (.tuple #[]) ∧ PAt base w' b (St.fTempo S) ∧ Kp 50 base b w w' := by
  by_cases q0 : S.p < 16
  · refine (tempo_a base b w S q0 hl hA).mono ?_
    rintro e w' ⟨he, hA', hK'⟩
    exact ⟨he, hA'.eq (by simp [St.fTempo, q0]), hK'⟩
  · by_cases q1 : S.p < 32
    · refine (tempo_b base b w S (by omega) q1 hl hA).mono ?_
      rintro e w' ⟨he, hA', hK'⟩
      exact ⟨he, hA'.eq (by simp [St.fTempo, q0, q1]), hK'⟩
    · refine (tempo_c base b w S (by omega) hl hA).mono ?_
      rintro e w' ⟨he, hA', hK'⟩
      exact ⟨he, hA'.eq (by simp [St.fTempo, q0, q1]), hK'⟩
set_option maxRecDepth 100000 in
set_option maxHeartbeats 400000 in
theorem c_filter (base b : Nat) (w : World) (S : St) (hl : S.ops.length ≤ 800) (hA : PAt base w b S) :
    Calls Tryz.prog 125 #[.pointer (some ⟨b, 0, none⟩)] w fun e w' => e = .returned (.tuple #[]) ∧ PAt base w' b (St.fFilter S) ∧ Kp 50 base b w w' := by
  by_cases q0 : S.p < 128
  · refine (filter_a base b w S q0 hl hA).mono ?_
    rintro e w' ⟨he, hA', hK'⟩
    exact ⟨he, hA'.eq (by simp [St.fFilter, q0]), hK'⟩
  · by_cases q1 : S.p < 144
    · refine (filter_b base b w S (by omega) q1 hl hA).mono ?_
      rintro e w' ⟨he, hA', hK'⟩
      exact ⟨he, hA'.eq (by simp [St.fFilter, q0, q1]), hK'⟩
    · refine (filter_c base b w S (by omega) hA).mono ?_
      rintro e w' ⟨he, hA', hK'⟩
      exact ⟨he, hA'.eq (by simp [St.fFilter, q0, q1]), hK'⟩
set_option maxRecDepth 100000 in
set_option maxHeartbeats 400000 in
theorem c_fine (base b : Nat) (w : World) (S : St) (hl : S.ops.length ≤ 800) (hA : PAt base w b S) :
    Calls Tryz.prog 135 #[.pointer (some ⟨b, 0, none⟩)] w fun e w' => e = .returned (.tuple #[]) ∧ PAt base w' b (St.fFine S) ∧ Kp 50 base b w w' := by
  by_cases q0 : S.l < 8
  · refine (fine_b base b w S q0 hl hA).mono ?_
    rintro e w' ⟨he, hA', hK'⟩
    exact ⟨he, hA'.eq (by simp [St.fFine, q0]), hK'⟩
  · refine (fine_a base b w S (by omega) hl hA).mono ?_
    rintro e w' ⟨he, hA', hK'⟩
    exact ⟨he, hA'.eq (by simp [St.fFine, q0]), hK'⟩
set_option maxRecDepth 100000 in
set_option maxHeartbeats 400000 in
theorem c_past (base b : Nat) (w : World) (S : St) (hl : S.ops.length ≤ 800) (hA : PAt base w b S) :
    Calls Tryz.prog 140 #[.pointer (some ⟨b, 0, none⟩)] w fun e w' => e = .returned (.tuple #[]) ∧ PAt base w' b (St.fPast S) ∧ Kp 50 base b w w' := by
  by_cases q0 : S.l ≤ 2
  · refine (past_a base b w S q0 hl hA).mono ?_
    rintro e w' ⟨he, hA', hK'⟩
    exact ⟨he, hA'.eq (by simp [St.fPast, q0]), hK'⟩
  · by_cases q1 : S.l ≤ 6
    · refine (past_b base b w S (by omega) q1 hl hA).mono ?_
      rintro e w' ⟨he, hA', hK'⟩
      exact ⟨he, hA'.eq (by simp [St.fPast, q0, q1]), hK'⟩
    · refine (past_c base b w S (by omega) hA).mono ?_
      rintro e w' ⟨he, hA', hK'⟩
      exact ⟨he, hA'.eq (by simp [St.fPast, q0, q1]), hK'⟩
set_option maxRecDepth 100000 in
set_option maxHeartbeats 400000 in
theorem c_surround (base b : Nat) (w : World) (S : St) (hl : S.ops.length ≤ 800) (hA : PAt base w b S) :
    Calls Tryz.prog 141 #[.pointer (some ⟨b, 0, none⟩)] w fun e w' => e = .returned (.tuple #[]) ∧ PAt base w' b (St.fSurround S) ∧ Kp 50 base b w w' := by
  by_cases q0 : S.l ≤ 1
  · refine (surround_a base b w S q0 hl hA).mono ?_
    rintro e w' ⟨he, hA', hK'⟩
    exact ⟨he, hA'.eq (by simp [St.fSurround, q0]), hK'⟩
  · by_cases q1 : S.l = 15
    · refine (surround_b base b w S (by omega) (by simp [q1]) hl hA).mono ?_
      rintro e w' ⟨he, hA', hK'⟩
      exact ⟨he, hA'.eq (by simp [St.fSurround, q0, q1]), hK'⟩
    · refine (surround_c base b w S (by omega) (by simp [q1]) hA).mono ?_
      rintro e w' ⟨he, hA', hK'⟩
      exact ⟨he, hA'.eq (by simp [St.fSurround, q0, q1]), hK'⟩
theorem slide_c (base b : Nat) (w : World) (S : St) (hl : S.ops.length ≤ 800) (hA : PAt base w b S) :
    Calls Tryz.prog 105 #[.pointer (some ⟨b, 0, none⟩)] w fun e w' => e = .returned (.tuple #[]) ∧ PAt base w' b (St.slide S) ∧ Kp 50 base b w w' := pslide base b w S (by omega) hA
theorem ev89 (X : Nat → Prop) (base b : Nat) (w : World) : Eff X base b w (.func (.func 89) #[] #[]) (St.fFive) :=
  ⟨89, #[], rfl, run_enter Tryz.func89 (by kernel_rfl) (by kernel_rfl), fun w' S _ hA hl => c_four1 base b w' S hl hA⟩
theorem ev90 (X : Nat → Prop) (base b : Nat) (w : World) : Eff X base b w (.func (.func 90) #[] #[]) (St.fSix) :=
  ⟨90, #[], rfl, run_enter Tryz.func90 (by kernel_rfl) (by kernel_rfl), fun w' S _ hA hl => c_four2 base b w' S hl hA⟩
theorem ev92 (X : Nat → Prop) (base b : Nat) (w : World) : Eff X base b w (.func (.func 92) #[] #[]) (St.fPan) :=
  ⟨92, #[], rfl, run_enter Tryz.func92 (by kernel_rfl) (by kernel_rfl), fun w' S _ hA hl => c_four3 base b w' S hl hA⟩
theorem ev94 (X : Nat → Prop) (base b : Nat) (w : World) : Eff X base b w (.func (.func 94) #[] #[]) (St.fOffset) :=
  ⟨94, #[], rfl, run_enter Tryz.func94 (by kernel_rfl) (by kernel_rfl), fun w' S _ hA hl => c_four4 base b w' S hl hA⟩
theorem ev95 (X : Nat → Prop) (base b : Nat) (w : World) : Eff X base b w (.func (.func 95) #[] #[]) (St.fVolume) :=
  ⟨95, #[], rfl, run_enter Tryz.func95 (by kernel_rfl) (by kernel_rfl), fun w' S _ hA hl => c_four5 base b w' S hl hA⟩
theorem ev96 (X : Nat → Prop) (base b : Nat) (w : World) : Eff X base b w (.func (.func 96) #[] #[]) (St.fDecimal) :=
  ⟨96, #[], rfl, run_enter Tryz.func96 (by kernel_rfl) (by kernel_rfl), fun w' S _ hA hl => c_decimal base b w' S hl hA⟩
theorem ev99 (X : Nat → Prop) (base b : Nat) (w : World) : Eff X base b w (.func (.func 99) #[] #[]) (St.fSpeedOrTempo) :=
  ⟨99, #[], rfl, run_enter Tryz.func99 (by kernel_rfl) (by kernel_rfl), fun w' S _ hA hl => c_speedOrTempo base b w' S hl hA⟩
theorem ev101 (X : Nat → Prop) (base b : Nat) (w : World) : Eff X base b w (.func (.func 101) #[] #[]) (St.fGliss) :=
  ⟨101, #[], rfl, run_enter Tryz.func101 (by kernel_rfl) (by kernel_rfl), fun w' S _ hA hl => c_glissando base b w' S hl hA⟩
theorem ev102 (X : Nat → Prop) (base b : Nat) (w : World) : Eff X base b w (.func (.func 102) #[] #[]) (St.fScreamFine) :=
  ⟨102, #[], rfl, run_enter Tryz.func102 (by kernel_rfl) (by kernel_rfl), fun w' S _ hA hl => c_scream1 base b w' S hl hA⟩
theorem ev104 (X : Nat → Prop) (base b : Nat) (w : World) : Eff X base b w (.func (.func 104) #[] #[]) (St.fPanLow) :=
  ⟨104, #[], rfl, run_enter Tryz.func104 (by kernel_rfl) (by kernel_rfl), fun w' S _ hA hl => c_panLow base b w' S hl hA⟩
theorem ev106 (X : Nat → Prop) (base b : Nat) (w : World) : Eff X base b w (.func (.func 106) #[] #[]) (St.fDown) :=
  ⟨106, #[], rfl, run_enter Tryz.func106 (by kernel_rfl) (by kernel_rfl), fun w' S _ hA hl => c_down base b w' S hl hA⟩
theorem ev107 (X : Nat → Prop) (base b : Nat) (w : World) : Eff X base b w (.func (.func 107) #[] #[]) (St.fUp) :=
  ⟨107, #[], rfl, run_enter Tryz.func107 (by kernel_rfl) (by kernel_rfl), fun w' S _ hA hl => c_up base b w' S hl hA⟩
theorem ev108 (X : Nat → Prop) (base b : Nat) (w : World) : Eff X base b w (.func (.func 108) #[] #[]) (St.fTremor) :=
  ⟨108, #[], rfl, run_enter Tryz.func108 (by kernel_rfl) (by kernel_rfl), fun w' S _ hA hl => c_tremor base b w' S hl hA⟩
theorem ev109 (X : Nat → Prop) (base b : Nat) (w : World) : Eff X base b w (.func (.func 109) #[] #[]) (St.fVibratoSlide) :=
  ⟨109, #[], rfl, run_enter Tryz.func109 (by kernel_rfl) (by kernel_rfl), fun w' S _ hA hl => c_vibratoSlide base b w' S hl hA⟩
theorem ev110 (X : Nat → Prop) (base b : Nat) (w : World) : Eff X base b w (.func (.func 110) #[] #[]) (St.fToneSlide) :=
  ⟨110, #[], rfl, run_enter Tryz.func110 (by kernel_rfl) (by kernel_rfl), fun w' S _ hA hl => c_toneSlide base b w' S hl hA⟩
theorem ev111 (X : Nat → Prop) (base b : Nat) (w : World) : Eff X base b w (.func (.func 111) #[] #[]) (St.fOffset) :=
  ⟨111, #[], rfl, run_enter Tryz.func111 (by kernel_rfl) (by kernel_rfl), fun w' S _ hA hl => c_scream2 base b w' S hl hA⟩
theorem ev112 (X : Nat → Prop) (base b : Nat) (w : World) : Eff X base b w (.func (.func 112) #[] #[]) (St.fRetrig) :=
  ⟨112, #[], rfl, run_enter Tryz.func112 (by kernel_rfl) (by kernel_rfl), fun w' S _ hA hl => c_retrig base b w' S hl hA⟩
theorem ev117 (X : Nat → Prop) (base b : Nat) (w : World) : Eff X base b w (.func (.func 117) #[] #[]) (St.fRetrig) :=
  ⟨117, #[], rfl, run_enter Tryz.func117 (by kernel_rfl) (by kernel_rfl), fun w' S _ hA hl => c_retrig2 base b w' S hl hA⟩
theorem ev113 (X : Nat → Prop) (base b : Nat) (w : World) : Eff X base b w (.func (.func 113) #[] #[]) (St.fTempoFrom32) :=
  ⟨113, #[], rfl, run_enter Tryz.func113 (by kernel_rfl) (by kernel_rfl), fun w' S _ hA hl => c_scream3 base b w' S hl hA⟩
theorem ev121 (X : Nat → Prop) (base b : Nat) (w : World) : Eff X base b w (.func (.func 121) #[] #[]) (St.fPanSlide) :=
  ⟨121, #[], rfl, run_enter Tryz.func121 (by kernel_rfl) (by kernel_rfl), fun w' S _ hA hl => c_panSlide base b w' S hl hA⟩
theorem ev124 (X : Nat → Prop) (base b : Nat) (w : World) : Eff X base b w (.func (.func 124) #[] #[]) (St.fPan) :=
  ⟨124, #[], rfl, run_enter Tryz.func124 (by kernel_rfl) (by kernel_rfl), fun w' S _ hA hl => c_impulse2 base b w' S hl hA⟩
theorem ev125 (X : Nat → Prop) (base b : Nat) (w : World) : Eff X base b w (.func (.func 125) #[] #[]) (St.fFilter) :=
  ⟨125, #[], rfl, run_enter Tryz.func125 (by kernel_rfl) (by kernel_rfl), fun w' S _ hA hl => c_filter base b w' S hl hA⟩
theorem ev123 (X : Nat → Prop) (base b : Nat) (w : World) : Eff X base b w (.func (.func 123) #[] #[]) (St.fTempo) :=
  ⟨123, #[], rfl, run_enter Tryz.func123 (by kernel_rfl) (by kernel_rfl), fun w' S _ hA hl => c_tempo base b w' S hl hA⟩
theorem ev127 (X : Nat → Prop) (base b : Nat) (w : World) : Eff X base b w (.func (.func 127) #[] #[]) (St.fNoise) :=
  ⟨127, #[], rfl, run_enter Tryz.func127 (by kernel_rfl) (by kernel_rfl), fun w' S _ hA hl => c_noise base b w' S hl hA⟩
theorem ev128 (X : Nat → Prop) (base b : Nat) (w : World) : Eff X base b w (.func (.func 128) #[] #[]) (St.fShape) :=
  ⟨128, #[], rfl, run_enter Tryz.func128 (by kernel_rfl) (by kernel_rfl), fun w' S _ hA hl => c_shape base b w' S hl hA⟩
theorem ev135 (X : Nat → Prop) (base b : Nat) (w : World) : Eff X base b w (.func (.func 135) #[] #[]) (St.fFine) :=
  ⟨135, #[], rfl, run_enter Tryz.func135 (by kernel_rfl) (by kernel_rfl), fun w' S _ hA hl => c_fine base b w' S hl hA⟩
theorem ev140 (X : Nat → Prop) (base b : Nat) (w : World) : Eff X base b w (.func (.func 140) #[] #[]) (St.fPast) :=
  ⟨140, #[], rfl, run_enter Tryz.func140 (by kernel_rfl) (by kernel_rfl), fun w' S _ hA hl => c_past base b w' S hl hA⟩
theorem ev141 (X : Nat → Prop) (base b : Nat) (w : World) : Eff X base b w (.func (.func 141) #[] #[]) (St.fSurround) :=
  ⟨141, #[], rfl, run_enter Tryz.func141 (by kernel_rfl) (by kernel_rfl), fun w' S _ hA hl => c_surround base b w' S hl hA⟩
theorem ev105 (X : Nat → Prop) (base b : Nat) (w : World) : Eff X base b w (.func (.func 105) #[] #[]) (St.slide) :=
  ⟨105, #[], rfl, run_enter Tryz.func105 (by kernel_rfl) (by kernel_rfl), fun w' S _ hA hl => slide_c base b w' S hl hA⟩
set_option maxHeartbeats 400000 in
theorem mk_param (X : Nat → Prop) (base b : Nat) (w : World) (hb : b < w.heap.size) (hX : ∀ i, X i → i < w.heap.size) (kind : Int) :
    Calls Tryz.prog 86 #[.int .i64 kind] w (MkEff X base b (St.fParam kind) w) := by
  go_enter Tryz.func86, Tryz.ntmps86
  go_wp2
  go_ret
  have hbel : Below w.heap.size w (w.alloc (.cells #[.int .i64 kind] 3)) := ((Below.refl _ _).alloc (Nat.le_refl _) _)
  refine ⟨_, rfl, ⟨131, _, rfl, run_enter Tryz.func131 (by kernel_rfl) (by kernel_rfl), fun w' S hK hA hl => ?_⟩, hbel⟩
  have b0 := box_kpx (Box.new w b hb (.int .i64 kind) 3 (by decide)) (fun h => absurd (hX _ h) (Nat.lt_irrefl _)) hK
  exact param1 base b w' S _ kind b0 hl hA
set_option maxHeartbeats 400000 in
theorem mk_both (X : Nat → Prop) (base b : Nat) (w : World) (hb : b < w.heap.size) (hX : ∀ i, X i → i < w.heap.size) (kind : Int) :
    Calls Tryz.prog 85 #[.int .i64 kind] w (MkEff X base b (St.fBoth kind) w) := by
  go_enter Tryz.func85, Tryz.ntmps85
  go_wp2
  go_ret
  have hbel : Below w.heap.size w (w.alloc (.cells #[.int .i64 kind] 3)) := ((Below.refl _ _).alloc (Nat.le_refl _) _)
  refine ⟨_, rfl, ⟨130, _, rfl, run_enter Tryz.func130 (by kernel_rfl) (by kernel_rfl), fun w' S hK hA hl => ?_⟩, hbel⟩
  have b0 := box_kpx (Box.new w b hb (.int .i64 kind) 3 (by decide)) (fun h => absurd (hX _ h) (Nat.lt_irrefl _)) hK
  exact both1 base b w' S _ kind b0 hl hA
set_option maxHeartbeats 400000 in
theorem mk_wave (X : Nat → Prop) (base b : Nat) (w : World) (hb : b < w.heap.size) (hX : ∀ i, X i → i < w.heap.size) (kind : Int) :
    Calls Tryz.prog 103 #[.int .i64 kind] w (MkEff X base b (St.fWave kind) w) := by
  go_enter Tryz.func103, Tryz.ntmps103
  go_wp2
  go_ret
  have hbel : Below w.heap.size w (w.alloc (.cells #[.int .i64 kind] 3)) := ((Below.refl _ _).alloc (Nat.le_refl _) _)
  refine ⟨_, rfl, ⟨136, _, rfl, run_enter Tryz.func136 (by kernel_rfl) (by kernel_rfl), fun w' S hK hA hl => ?_⟩, hbel⟩
  have b0 := box_kpx (Box.new w b hb (.int .i64 kind) 3 (by decide)) (fun h => absurd (hX _ h) (Nat.lt_irrefl _)) hK
  exact wave1 base b w' S _ kind b0 hl hA
set_option maxHeartbeats 400000 in
theorem mk_lowHalf (X : Nat → Prop) (base b : Nat) (w : World) (hb : b < w.heap.size) (hX : ∀ i, X i → i < w.heap.size) (kind : Int) :
    Calls Tryz.prog 126 #[.int .i64 kind] w (MkEff X base b (St.fLowHalf kind) w) := by
  go_enter Tryz.func126, Tryz.ntmps126
  go_wp2
  go_ret
  have hbel : Below w.heap.size w (w.alloc (.cells #[.int .i64 kind] 3)) := ((Below.refl _ _).alloc (Nat.le_refl _) _)
  refine ⟨_, rfl, ⟨142, _, rfl, run_enter Tryz.func142 (by kernel_rfl) (by kernel_rfl), fun w' S hK hA hl => ?_⟩, hbel⟩
  have b0 := box_kpx (Box.new w b hb (.int .i64 kind) 3 (by decide)) (fun h => absurd (hX _ h) (Nat.lt_irrefl _)) hK
  exact lowHalf1 base b w' S _ kind b0 hl hA
set_option maxHeartbeats 400000 in
theorem mk_doubled (X : Nat → Prop) (base b : Nat) (w : World) (hb : b < w.heap.size) (hX : ∀ i, X i → i < w.heap.size) (kind : Int) (most : Int) :
    Calls Tryz.prog 114 #[.int .i64 kind, .int .i64 most] w (MkEff X base b (St.fDoubled kind most) w) := by
  go_enter Tryz.func114, Tryz.ntmps114
  go_wp2
  go_ret
  have hbel : Below w.heap.size w ((w.alloc (.cells #[.int .i64 kind] 3)).alloc (.cells #[.int .i64 most] 3)) := (((Below.refl _ _).alloc (Nat.le_refl _) _).alloc (by simp) _)
  refine ⟨_, rfl, ⟨138, _, rfl, run_enter Tryz.func138 (by kernel_rfl) (by kernel_rfl), fun w' S hK hA hl => ?_⟩, hbel⟩
  have b0 := box_kpx (Box.below (Box.new w b hb (.int .i64 kind) 3 (by decide)) ((Below.refl _ _).alloc (Nat.le_refl _) _)) (fun h => absurd (hX _ h) (Nat.lt_irrefl _)) hK
  have b1 := box_kpx (Box.new (w.alloc (.cells #[.int .i64 kind] 3)) b (by simp; omega) (.int .i64 most) 3 (by decide)) (fun h => absurd (hX _ h) (by simp)) hK
  simp only [World.size_alloc] at b1
  by_cases q : S.p ≤ most
  · refine (doubled1_a base b w' S _ _ kind most b0 b1 q hl hA).mono ?_
    rintro e w2 ⟨he, hA', hK'⟩
    exact ⟨he, hA'.eq (by simp [St.fDoubled, Int.min_eq_left q]), hK'⟩
  · refine (doubled1_b base b w' S _ _ kind most b0 b1 (by omega) hl hA).mono ?_
    rintro e w2 ⟨he, hA', hK'⟩
    exact ⟨he, hA'.eq (by simp [St.fDoubled, Int.min_eq_right (Int.le_of_lt (Int.not_le.1 q))]), hK'⟩
set_option maxHeartbeats 400000 in
theorem mk_unless0 (X : Nat → Prop) (base b : Nat) (w : World) (hb : b < w.heap.size) (hX : ∀ i, X i → i < w.heap.size) (v : Value) (E : St → St) (hE : Eff X base b w v E) :
    Calls Tryz.prog 84 #[v] w (MkEff X base b (St.fUnless0 E) w) := by
  obtain ⟨fid, cap, rfl, hr, hE⟩ := hE
  have HE := Lib.hid hE; clear hE
  have HR := Lib.hid hr; clear hr
  go_enter Tryz.func84, Tryz.ntmps84
  go_wp2
  go_ret
  have hbel : Below w.heap.size w (w.alloc (.cells #[(.func (.func fid) #[] cap)] 77)) := ((Below.refl _ _).alloc (Nat.le_refl _) _)
  refine ⟨_, rfl, ⟨129, _, rfl, run_enter Tryz.func129 (by kernel_rfl) (by kernel_rfl), fun w' S hK hA hl => ?_⟩, hbel⟩
  have b0 := box_kpx (Box.new w b hb ((.func (.func fid) #[] cap)) 77 (by decide)) (fun h => absurd (hX _ h) (Nat.lt_irrefl _)) hK
  have hE' : Eff X base b w' (.func (.func fid) #[] cap) E := ⟨fid, cap, rfl, HR.out, fun w2 S2 hK2 hA2 hl2 => HE.out w2 S2 (((KpX.of_below hbel).trans hK).trans hK2) hA2 hl2⟩
  by_cases q : S.p = 0
  · refine (unless01_b base b w' S _ (by simp [q]) hA).mono ?_
    rintro e w2 ⟨he, hA', hK'⟩
    exact ⟨he, hA'.eq (by simp [St.fUnless0, q]), hK'⟩
  · refine (unless01_a base b w' S _ X _ E hE' b0 (by simp [q]) hl hA).mono ?_
    rintro e w2 ⟨he, hA', hK'⟩
    exact ⟨he, hA'.eq (by simp [St.fUnless0, q]), hK'⟩
set_option maxHeartbeats 400000 in
theorem mk_wholly (X : Nat → Prop) (base b : Nat) (w : World) (hb : b < w.heap.size) (hX : ∀ i, X i → i < w.heap.size) (k : Int) (v : Value) (E : St → St) (hE : Eff X base b w v E) (h0 : 0 ≤ k) (hk : k < 24) :
    Calls Tryz.prog 87 #[.int .i64 k, v] w (MkEff X base b (St.fWholly k E) w) := by
  obtain ⟨fid, cap, rfl, hr, hE⟩ := hE
  have HE := Lib.hid hE; clear hE
  have HR := Lib.hid hr; clear hr
  go_enter Tryz.func87, Tryz.ntmps87
  go_wp2
  go_ret
  have hbel : Below w.heap.size w ((w.alloc (.cells #[.int .i64 k] 3)).alloc (.cells #[(.func (.func fid) #[] cap)] 77)) := (((Below.refl _ _).alloc (Nat.le_refl _) _).alloc (by simp) _)
  refine ⟨_, rfl, ⟨132, _, rfl, run_enter Tryz.func132 (by kernel_rfl) (by kernel_rfl), fun w' S hK hA hl => ?_⟩, hbel⟩
  have b0 := box_kpx (Box.below (Box.new w b hb (.int .i64 k) 3 (by decide)) ((Below.refl _ _).alloc (Nat.le_refl _) _)) (fun h => absurd (hX _ h) (Nat.lt_irrefl _)) hK
  have b1 := box_kpx (Box.new (w.alloc (.cells #[.int .i64 k] 3)) b (by simp; omega) ((.func (.func fid) #[] cap)) 77 (by decide)) (fun h => absurd (hX _ h) (by simp)) hK
  simp only [World.size_alloc] at b1
  have hE' : Eff X base b w' (.func (.func fid) #[] cap) E := ⟨fid, cap, rfl, HR.out, fun w2 S2 hK2 hA2 hl2 => HE.out w2 S2 (((KpX.of_below hbel).trans hK).trans hK2) hA2 hl2⟩
  exact wholly1 base b w' S _ _ k h0 hk X _ E hE' b0 b1 hl hA
set_option maxHeartbeats 400000 in
theorem mk_halved (X : Nat → Prop) (base b : Nat) (w : World) (hb : b < w.heap.size) (hX : ∀ i, X i → i < w.heap.size) (k : Int) (v : Value) (E : St → St) (hE : Eff X base b w v E) (h0 : 0 ≤ k) (hk : k < 24) :
    Calls Tryz.prog 88 #[.int .i64 k, v] w (MkEff X base b (St.fHalved k E) w) := by
  obtain ⟨fid, cap, rfl, hr, hE⟩ := hE
  have HE := Lib.hid hE; clear hE
  have HR := Lib.hid hr; clear hr
  go_enter Tryz.func88, Tryz.ntmps88
  go_wp2
  go_ret
  have hbel : Below w.heap.size w ((w.alloc (.cells #[.int .i64 k] 3)).alloc (.cells #[(.func (.func fid) #[] cap)] 77)) := (((Below.refl _ _).alloc (Nat.le_refl _) _).alloc (by simp) _)
  refine ⟨_, rfl, ⟨133, _, rfl, run_enter Tryz.func133 (by kernel_rfl) (by kernel_rfl), fun w' S hK hA hl => ?_⟩, hbel⟩
  have b0 := box_kpx (Box.below (Box.new w b hb (.int .i64 k) 3 (by decide)) ((Below.refl _ _).alloc (Nat.le_refl _) _)) (fun h => absurd (hX _ h) (Nat.lt_irrefl _)) hK
  have b1 := box_kpx (Box.new (w.alloc (.cells #[.int .i64 k] 3)) b (by simp; omega) ((.func (.func fid) #[] cap)) 77 (by decide)) (fun h => absurd (hX _ h) (by simp)) hK
  simp only [World.size_alloc] at b1
  have hE' : Eff X base b w' (.func (.func fid) #[] cap) E := ⟨fid, cap, rfl, HR.out, fun w2 S2 hK2 hA2 hl2 => HE.out w2 S2 (((KpX.of_below hbel).trans hK).trans hK2) hA2 hl2⟩
  exact halved1 base b w' S _ _ k h0 hk X _ E hE' b0 b1 hl hA
set_option maxHeartbeats 400000 in
theorem mk_upTo (X : Nat → Prop) (base b : Nat) (w : World) (hb : b < w.heap.size) (hX : ∀ i, X i → i < w.heap.size) (most : Int) (v : Value) (E : St → St) (hE : Eff X base b w v E) :
    Calls Tryz.prog 120 #[.int .i64 most, v] w (MkEff X base b (St.fUpTo most E) w) := by
  obtain ⟨fid, cap, rfl, hr, hE⟩ := hE
  have HE := Lib.hid hE; clear hE
  have HR := Lib.hid hr; clear hr
  go_enter Tryz.func120, Tryz.ntmps120
  go_wp2
  go_ret
  have hbel : Below w.heap.size w ((w.alloc (.cells #[.int .i64 most] 3)).alloc (.cells #[(.func (.func fid) #[] cap)] 77)) := (((Below.refl _ _).alloc (Nat.le_refl _) _).alloc (by simp) _)
  refine ⟨_, rfl, ⟨139, _, rfl, run_enter Tryz.func139 (by kernel_rfl) (by kernel_rfl), fun w' S hK hA hl => ?_⟩, hbel⟩
  have b0 := box_kpx (Box.below (Box.new w b hb (.int .i64 most) 3 (by decide)) ((Below.refl _ _).alloc (Nat.le_refl _) _)) (fun h => absurd (hX _ h) (Nat.lt_irrefl _)) hK
  have b1 := box_kpx (Box.new (w.alloc (.cells #[.int .i64 most] 3)) b (by simp; omega) ((.func (.func fid) #[] cap)) 77 (by decide)) (fun h => absurd (hX _ h) (by simp)) hK
  simp only [World.size_alloc] at b1
  have hE' : Eff X base b w' (.func (.func fid) #[] cap) E := ⟨fid, cap, rfl, HR.out, fun w2 S2 hK2 hA2 hl2 => HE.out w2 S2 (((KpX.of_below hbel).trans hK).trans hK2) hA2 hl2⟩
  by_cases q : S.p ≤ most
  · refine (upTo1_a base b w' S _ _ most X _ E hE' b0 b1 (by simpa using q) hl hA).mono ?_
    rintro e w2 ⟨he, hA', hK'⟩
    exact ⟨he, hA'.eq (by simp [St.fUpTo, q]), hK'⟩
  · refine (upTo1_b base b w' S _ _ most (by simpa using q) b0 hA).mono ?_
    rintro e w2 ⟨he, hA', hK'⟩
    exact ⟨he, hA'.eq (by simp [St.fUpTo, q]), hK'⟩
set_option maxHeartbeats 400000 in
theorem mk_fast3 (X : Nat → Prop) (base b : Nat) (w : World) (hb : b < w.heap.size) (hX : ∀ i, X i → i < w.heap.size) (k : Int) (kind : Int) (h0 : 0 ≤ k) (hk : k < 24) :
    Calls Tryz.prog 118 #[.int .i64 k, .int .i64 kind] w (MkEff X base b (St.fExtra k kind) w) := by
  go_enter Tryz.func118, Tryz.ntmps118
  go_wp2
  go_ret
  have hbel : Below w.heap.size w ((w.alloc (.cells #[.int .i64 k] 3)).alloc (.cells #[.int .i64 kind] 3)) := (((Below.refl _ _).alloc (Nat.le_refl _) _).alloc (by simp) _)
  refine ⟨_, rfl, ⟨119, _, rfl, run_enter Tryz.func119 (by kernel_rfl) (by kernel_rfl), fun w' S hK hA hl => ?_⟩, hbel⟩
  have b0 := box_kpx (Box.below (Box.new w b hb (.int .i64 k) 3 (by decide)) ((Below.refl _ _).alloc (Nat.le_refl _) _)) (fun h => absurd (hX _ h) (Nat.lt_irrefl _)) hK
  have b1 := box_kpx (Box.new (w.alloc (.cells #[.int .i64 k] 3)) b (by simp; omega) (.int .i64 kind) 3 (by decide)) (fun h => absurd (hX _ h) (by simp)) hK
  simp only [World.size_alloc] at b1
  exact extra1 base b w' S _ _ k kind h0 hk b0 b1 hl hA

end Go.Proofs.YtappnglfmidjoaaGreat.D
