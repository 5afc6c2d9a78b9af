/- The plain law: the program's Resolve and the reference's agree, and ask for at most three operations; and the reference's Resolve, whole. -/
import Derived.Test.YtappnglfmidjoaaGreatRefK
import Derived.Test.YtappnglfmidjoaaGreatRecall
set_option linter.unusedVariables false
set_option linter.unusedSimpArgs false
namespace Go.Proofs.YtappnglfmidjoaaGreat.D
open Go Go.RowKit Go.Proofs.YtappnglfmidjoaaGreat.DB Go.Great

/-! ### at most two operations an effect -/
def B2 (E : St → St) : Prop := ∀ S, (E S).ops.length ≤ S.ops.length + 2
def B1 (E : St → St) : Prop := ∀ S, (E S).ops.length ≤ S.ops.length + 1
theorem b_of {E : St → St} (h : B1 E) : B2 E := fun S => Nat.le_succ_of_le (h S)
theorem b_ask (S : St) (k x y : Int) : (S.ask k x y).ops.length ≤ S.ops.length + 1 := by simp [St.ops_ask]
theorem b_same {S : St} : S.ops.length ≤ S.ops.length + 1 := by omega
theorem b_param (k : Int) : B1 (St.fParam k) := fun S => b_ask _ _ _ _
theorem b_both (k : Int) : B1 (St.fBoth k) := fun S => b_ask _ _ _ _
theorem b_wave (k : Int) : B1 (St.fWave k) := fun S => b_ask _ _ _ _
theorem b_low (k : Int) : B1 (St.fLowHalf k) := fun S => b_ask _ _ _ _
theorem b_dbl (k m : Int) : B1 (St.fDoubled k m) := fun S => b_ask _ _ _ _
theorem b_extra (k m : Int) : B1 (St.fExtra k m) := fun S => by
  show ((S.low k).ask m (S.low k).l 0).ops.length ≤ _
  rw [St.ops_ask, St.ops_low]; simp
theorem b_offset : B1 St.fOffset := fun S => b_ask _ _ _ _
theorem b_tremor : B1 St.fTremor := fun S => b_ask _ _ _ _
theorem b_retrig : B1 St.fRetrig := fun S => b_ask _ _ _ _
theorem b_panSlide : B1 St.fPanSlide := fun S => b_ask _ _ _ _
theorem b_pan : B1 St.fPan := fun S => b_ask _ _ _ _
theorem b_panLow : B1 St.fPanLow := fun S => b_ask _ _ _ _
theorem b_gliss : B1 St.fGliss := fun S => b_ask _ _ _ _
theorem b_volume : B1 St.fVolume := fun S => b_ask _ _ _ _
theorem b_decimal : B1 St.fDecimal := fun S => b_ask _ _ _ _
theorem b_sfine : B1 St.fScreamFine := fun S => b_ask _ _ _ _
theorem b_noise : B1 St.fNoise := fun S => b_ask _ _ _ _
theorem b_shape : B1 St.fShape := fun S => b_ask _ _ _ _
theorem b_five : B2 St.fFive := fun S => by show ((S.ask _ _ _).ask _ _ _).ops.length ≤ _; simp [St.ops_ask]
theorem b_six : B2 St.fSix := fun S => by show ((S.ask _ _ _).ask _ _ _).ops.length ≤ _; simp [St.ops_ask]
theorem b_slide : B1 St.slide := fun S => by unfold St.slide; repeat' split
                                             all_goals exact b_ask _ _ _ _
theorem b_bend (S : St) (a b c : Int) : (S.bend a b c).ops.length ≤ S.ops.length + 1 := by
  unfold St.bend
  repeat' split
  all_goals exact b_ask _ _ _ _
theorem b_down : B1 St.fDown := fun S => b_bend S 5 7 3
theorem b_up : B1 St.fUp := fun S => b_bend S 4 6 2
theorem b_vslide : B2 St.fVibratoSlide := fun S => by
  have h := b_slide (S.fRecalled 3)
  have h2 := b_ask S 9 (wrap64 ((S.slot 3).tdiv 16)) ((S.slot 3).tmod 16)
  show ((S.fRecalled 3).slide).ops.length ≤ _
  have e : (S.fRecalled 3).ops.length ≤ S.ops.length + 1 := h2
  omega
theorem b_tslide : B2 St.fToneSlide := fun S => by
  have h := b_slide (S.ask 8 (S.slot 2) 0)
  have h2 := b_ask S 8 (S.slot 2) 0
  show ((S.ask 8 (S.slot 2) 0).slide).ops.length ≤ _
  omega
theorem b_sot : B1 St.fSpeedOrTempo := fun S => by unfold St.fSpeedOrTempo; split <;> exact b_ask _ _ _ _
theorem b_t32 : B1 St.fTempoFrom32 := fun S => by unfold St.fTempoFrom32; split <;> first | exact b_ask _ _ _ _ | exact b_same
theorem b_tempo : B1 St.fTempo := fun S => by unfold St.fTempo; repeat' split
                                              all_goals exact b_ask _ _ _ _
theorem b_filter : B1 St.fFilter := fun S => by unfold St.fFilter; repeat' split
                                                all_goals first | exact b_ask _ _ _ _ | exact b_same
theorem b_past : B1 St.fPast := fun S => by unfold St.fPast; repeat' split
                                            all_goals first | exact b_ask _ _ _ _ | exact b_same
theorem b_surr : B1 St.fSurround := fun S => by unfold St.fSurround; repeat' split
                                                all_goals first | exact b_ask _ _ _ _ | exact b_same
theorem b_fine : B1 St.fFine := fun S => by unfold St.fFine; repeat' split
                                            all_goals exact b_ask _ _ _ _
theorem b_unless {E : St → St} (h : B2 E) : B2 (St.fUnless0 E) := fun S => by
  unfold St.fUnless0
  split
  · omega
  · exact h S
theorem b_upTo {k : Int} {E : St → St} (h : B2 E) : B2 (St.fUpTo k E) := fun S => by
  unfold St.fUpTo
  split
  · exact h S
  · omega
theorem b_wholly {k : Int} {E : St → St} (h : B2 E) : B2 (St.fWholly k E) := fun S => by
  have := h (S.whole k)
  rw [St.ops_whole] at this
  exact this
theorem b_halved {k : Int} {E : St → St} (h : B2 E) : B2 (St.fHalved k E) := fun S => by
  have := h (S.halves k)
  rw [St.ops_halves] at this
  exact this
theorem b_lowly {k : Int} {E : St → St} (h : B2 E) : B2 (St.fLowly k E) := fun S => by
  have := h (S.low k)
  rw [St.ops_low] at this
  exact this
def BM (M : Int → Option (St → St)) : Prop := ∀ k E, M k = some E → B2 E
theorem bm_none : BM (fun _ => none) := fun k E h => by cases h
theorem bm_set {M : Int → Option (St → St)} {k : Int} {E : St → St} (hM : BM M) (hE : B2 E) : BM (mset M k E) := fun q F h => by
  unfold mset at h
  split at h
  · cases h; exact hE
  · exact hM q F h
theorem bm_del {M : Int → Option (St → St)} {k : Int} (hM : BM M) : BM (mdel M k) := fun q F h => by
  unfold mdel at h
  split at h
  · cases h
  · exact hM q F h
theorem bm_fold {M : Int → Option (St → St)} (l : List Int) (hM : BM M) : BM (l.foldl mdel M) := by
  induction l generalizing M with
  | nil => exact hM
  | cons a t ih => exact ih (bm_del hM)
theorem bm_over {K : Int → Option Int} {G M : Int → Option (St → St)} (hG : BM G) (hM : BM M) : BM (tOverAll K G M) := fun q F h => by
  unfold tOverAll at h
  split at h
  · exact hG q F h
  · exact hM q F h
theorem bm_timed (l : Int) : BM (tTimed l) := fun q F h => by
  unfold tTimed at h
  repeat' split at h
  all_goals first | cases h; exact b_of (b_low _) | cases h
theorem b_byHigh {M : Int → Option (St → St)} (hM : BM M) : B2 (St.fByHigh M) := fun S => by
  unfold St.fByHigh
  cases h : M S.h with
  | none => simp
  | some E => exact hM _ _ h S
theorem bm_ext : BM tExtended := bm_set (bm_set (bm_set (bm_set (bm_set (bm_set (bm_set (bm_set (bm_set (bm_set (bm_timed 6) (b_of (b_low _))) (b_of (b_low _))) (b_of b_gliss)) (b_of (b_wave _))) (b_of (b_wave _))) (b_of b_fine)) (b_of b_panLow)) (b_of (b_low _))) (b_of (b_low _))) (b_of (b_low _))
theorem bm_special : BM tSpecial := bm_set (bm_set (bm_set (bm_set (bm_set (bm_timed 11) (b_of (b_wave _))) (b_of (b_wave _))) (b_of b_panLow)) (b_of b_past)) (b_of b_surr)
theorem bm_screamS : BM tScreamS := bm_set (bm_set (bm_set (bm_set (bm_set (bm_timed 11) (b_of b_gliss)) (b_of b_sfine)) (b_of (b_wave _))) (b_of (b_wave _))) (b_of b_panLow)
theorem bm_compose : BM tCompose := by
  unfold tCompose
  repeat' (first | exact bm_none | refine bm_set ?_ ?_)
  all_goals first | exact b_of (b_param _) | exact b_of (b_low _) | exact b_of (b_both _) | exact b_unless (b_of (b_param _))
theorem bm_four : BM tFour := by
  unfold tFour
  repeat' (first | exact bm_none | refine bm_set ?_ ?_)
  all_goals first | exact b_of (b_param _) | exact b_of (b_both _) | exact b_unless (b_of (b_both _)) | exact b_wholly (b_of (b_param _)) | exact b_halved (b_of (b_both _)) | exact b_five | exact b_six | exact b_of b_pan | exact b_wholly (b_of b_offset) | exact b_of b_volume | exact b_of b_decimal | exact b_byHigh bm_ext | exact b_of b_sot
theorem bm_scream : BM tScream := by
  unfold tScream
  repeat' (first | exact bm_none | refine bm_set ?_ ?_)
  all_goals first | exact b_of (b_param _) | exact b_unless (b_of (b_param _)) | exact b_of b_decimal | exact b_wholly (b_of b_slide) | exact b_wholly (b_of b_down) | exact b_wholly (b_of b_up) | exact b_wholly (b_of (b_param _)) | exact b_halved (b_of (b_both _)) | exact b_wholly (b_of b_tremor) | exact b_wholly (b_of (b_both _)) | exact b_wholly b_vslide | exact b_wholly b_tslide | exact b_wholly (b_of b_offset) | exact b_wholly (b_of b_retrig) | exact b_wholly (b_byHigh bm_screamS) | exact b_of b_t32 | exact b_of (b_dbl _ _)
theorem bm_gFast : BM gFast := fun q F h => by
  unfold gFast at h
  split at h
  · rename_i k hk
    cases h4 : tFour q with
    | none => rw [h4] at h; cases h
    | some E => rw [h4] at h; cases h; exact b_wholly (bm_four _ _ h4)
  · cases h
theorem bm_gLow : BM gLow := fun q F h => by
  unfold gLow at h
  split at h
  · rename_i k hk
    cases h4 : tExtended q with
    | none => rw [h4] at h; cases h
    | some E => rw [h4] at h; cases h; exact b_lowly (bm_ext _ _ h4)
  · cases h
theorem bm_fast : BM tFast := by
  unfold tFast
  repeat' (first | exact bm_over bm_gFast bm_four | refine bm_set ?_ ?_)
  all_goals first | exact b_byHigh (bm_over bm_gLow bm_ext) | exact b_of (b_dbl _ _) | exact b_wholly (b_of (b_both _)) | exact b_of (b_param _) | exact b_halved (b_of b_retrig) | exact b_wholly (b_of b_tremor) | exact b_byHigh (bm_set (bm_set bm_none (b_of (b_extra _ _))) (b_of (b_extra _ _)))
theorem bm_gIm : BM gIm := fun q F h => by
  have hI : BM tIm := by
    unfold tIm
    repeat' (first | exact bm_none | refine bm_set ?_ ?_)
    all_goals first | exact b_of b_down | exact b_of b_up | exact b_of b_tremor | exact b_of (b_both _) | exact b_of b_retrig
  unfold gIm at h
  split at h
  · rename_i k hk
    cases h4 : tIm q with
    | none => rw [h4] at h; cases h
    | some E => rw [h4] at h; cases h; exact b_wholly (hI _ _ h4)
  · cases h
theorem bm_impulse : BM tImpulse := by
  unfold tImpulse
  repeat' (first | exact bm_over bm_gIm bm_scream | refine bm_set ?_ ?_)
  all_goals first | exact b_of (b_param _) | exact b_upTo (b_of (b_param _)) | exact b_wholly (b_of (b_both _)) | exact b_wholly (b_of b_panSlide) | exact b_halved (b_of (b_both _)) | exact b_wholly (b_byHigh bm_special) | exact b_wholly (b_of b_tempo) | exact b_of b_pan | exact b_of b_filter
theorem bm_chip : BM tChip := by
  unfold tChip
  repeat' (first | exact bm_fold chipL bm_fast | refine bm_set ?_ ?_)
  all_goals first | exact b_of (b_param _) | exact b_byHigh (bm_timed 6) | exact b_unless (b_of (b_param _)) | exact b_of b_noise | exact b_of b_shape
theorem bm_tab (d : Int) : BM (tabOf d) := by
  unfold tabOf
  repeat' split
  · exact bm_four
  · exact bm_scream
  · exact bm_fast
  · exact bm_impulse
  · exact bm_compose
  · exact bm_chip
theorem doS_ops (d E P : Int) (S : St) : (St.doS d E P S).ops.length ≤ S.ops.length + 2 := by
  unfold St.doS
  split
  · cases h : tabOf d (letterOf E) with
    | none => simp
    | some F =>
      have := bm_tab d _ F h (S.put P)
      rw [St.ops_put] at this
      exact this
  · omega
theorem outS_ops (d n vc va ef pa : Int) (ms : List Int) (e p : Int) : (outS d n vc va ef pa ms e p).ops.length ≤ 3 := by
  have h1 := colS_ops d vc va (St.mem ms e p)
  have h0 : (St.mem ms e p).ops.length = 0 := rfl
  show (St.askedS d n vc va ef pa (St.mem ms e p)).ops.length ≤ 3
  unfold St.askedS
  split
  · have h2 := doS_ops d (lastingE n ef pa (St.colS d vc va (St.mem ms e p))).1 (lastingE n ef pa (St.colS d vc va (St.mem ms e p))).2 (St.lastingS n ef pa (St.colS d vc va (St.mem ms e p)))
    rw [lastingS_ops] at h2
    omega
  · have h2 := doS_ops d ef pa (St.colS d vc va (St.mem ms e p))
    omega
/-! ### both sides agree -/
def Alike4 (S T : St) : Prop := S.ops = T.ops ∧ S.slots = T.slots ∧ S.eff = T.eff ∧ S.par = T.par
theorem a4_refl (S : St) : Alike4 S S := ⟨rfl, rfl, rfl, rfl⟩
theorem a4_put (S : St) (p : Int) : Alike4 (S.put p) S := ⟨rfl, rfl, rfl, rfl⟩
theorem doS5 (n p : Int) (S : St) (h0 : 1 ≤ n) : St.doS 5 n p S = match tCompose (letterR n) with | some F => F (S.put p) | none => S := by
  unfold St.doS
  exact if_pos (by omega)
theorem doS0 (p : Int) (S : St) : St.doS 5 0 p S = S := by
  unfold St.doS
  exact if_neg (by omega)
theorem rc_zero (c p : Int) (S : St) (hp : p = 0) (hc : ¬ c = 51) : St.rCompose c (S.put p) = S.put p := by
  unfold St.rCompose
  exact if_pos ⟨hp, hc⟩
theorem rc_else (c p : Int) (S : St) (h : ¬ (p = 0 ∧ ¬ c = 51)) : St.rCompose c (S.put p) = match tCompose c with | some F => F (S.put p) | none => S.put p := by
  unfold St.rCompose
  exact if_neg h
theorem tc_none (c : Int) (h : 53 < c) : tCompose c = none := by
  unfold tCompose mset
  iterate 6 (rw [if_neg (by omega)])
theorem lastsB_iff {n : Int} : lastsB n = true ↔ (n = 1 ∨ n = 2 ∨ n = 3 ∨ n = 5) := by simp [lastsB]
theorem lets {n : Int} (h : lastsB n = true) : ¬ letterR n = 51 := by
  rw [lastsB_iff] at h
  unfold letterR
  split <;> omega
/-- An effect of compose that isn't shut out. -/
theorem rc_do (n p : Int) (S : St) (h0 : 1 ≤ n) (h : ¬ (lastsB n = true ∧ p = 0)) : Alike4 (St.rCompose (letterR n) (S.put p)) (St.doS 5 n p S) := by
  rw [doS5 n p S h0]
  by_cases hc : p = 0 ∧ ¬ letterR n = 51
  · rw [rc_zero _ _ _ hc.1 hc.2]
    have hl : ¬ (n = 1 ∨ n = 2 ∨ n = 3 ∨ n = 5) := fun h1 => h ⟨lastsB_iff.2 h1, hc.1⟩
    have h4 : ¬ n = 4 := fun h4 => hc.2 (by subst h4; rfl)
    by_cases h6 : n = 6
    · subst h6
      rw [show tCompose (letterR 6) = some (St.fUnless0 (St.fParam 36)) from rfl]
      simp only []
      unfold St.fUnless0
      rw [if_pos (show (S.put p).p = 0 from hc.1)]
      exact a4_refl _
    · rw [tc_none _ (by unfold letterR; split <;> omega)]
      exact a4_put S p
  · rw [rc_else _ _ _ hc]
    cases ht : tCompose (letterR n) with
    | none => exact a4_put S p
    | some F => exact a4_refl _
theorem lE_of (n e p : Int) (S : St) (q : Int × Int) (hq : (if e = 0 ∧ n = 0 then (S.eff, S.par) else (e, p)) = q) : lastingE n e p S = if lastsB q.1 = true ∧ q.2 = 0 then (0, 0) else q := by
  subst hq
  rfl
theorem lE_shut (n e p : Int) (S : St) (q : Int × Int) (hq : (if e = 0 ∧ n = 0 then (S.eff, S.par) else (e, p)) = q) (h : lastsB q.1 = true ∧ q.2 = 0) : lastingE n e p S = (0, 0) := (lE_of n e p S q hq).trans (if_pos h)
theorem lE_open (n e p : Int) (S : St) (q : Int × Int) (hq : (if e = 0 ∧ n = 0 then (S.eff, S.par) else (e, p)) = q) (h : ¬ (lastsB q.1 = true ∧ q.2 = 0)) : lastingE n e p S = q := (lE_of n e p S q hq).trans (if_neg h)
theorem agree5 (n ef pa : Int) (S : St) (hef : 0 ≤ ef) (hS : 0 ≤ S.eff) : Alike4 (St.rEff 5 ef pa (St.rLast n ef pa S)) (St.doS 5 (lastingE n ef pa S).1 (lastingE n ef pa S).2 (St.lastingS n ef pa S)) := by
  by_cases he : ef = 0
  · subst he
    have e1 : ∀ T, St.rEff 5 0 pa T = T := fun T => by unfold St.rEff; exact if_pos rfl
    rw [e1]
    by_cases hn : n = 0
    · subst hn
      have e2 : St.lastingS 0 0 pa S = S := by unfold St.lastingS; rw [if_pos rfl, if_pos rfl]
      have e3 : St.rLast 0 0 pa S = if S.eff = 0 then S else St.rCompose (letterR S.eff) (S.put S.par) := by unfold St.rLast; rw [if_pos rfl, if_pos rfl]
      have hq : (if (0 : Int) = 0 ∧ (0 : Int) = 0 then (S.eff, S.par) else (0, pa)) = (S.eff, S.par) := if_pos ⟨rfl, rfl⟩
      rw [e2, e3]
      by_cases hs : S.eff = 0
      · rw [if_pos hs, lE_open 0 0 pa S _ hq (fun h => by have := lastsB_iff.1 h.1; simp only [hs] at this; omega)]
        simp only [hs]
        rw [doS0]
        exact a4_refl _
      · rw [if_neg hs]
        by_cases hl : lastsB S.eff = true ∧ S.par = 0
        · rw [lE_shut 0 0 pa S _ hq hl]
          simp only []
          rw [doS0, rc_zero _ _ _ hl.2 (lets hl.1)]
          exact a4_put _ _
        · rw [lE_open 0 0 pa S _ hq hl]
          exact rc_do S.eff S.par S (by omega) hl
    · have e2 : St.lastingS n 0 pa S = { S with eff := 0, par := 0 } := by unfold St.lastingS; rw [if_pos rfl, if_neg hn]
      have e3 : St.rLast n 0 pa S = { S with eff := 0, par := 0 } := by unfold St.rLast; rw [if_pos rfl, if_neg hn]
      have hq : (if (0 : Int) = 0 ∧ n = 0 then (S.eff, S.par) else (0, pa)) = (0, pa) := if_neg (fun h => hn h.2)
      rw [e2, e3, lE_open n 0 pa S _ hq (fun h => by have := lastsB_iff.1 h.1; simp only [] at this; omega)]
      simp only []
      rw [doS0]
      exact a4_refl _
  · have e1 : ∀ T, St.rEff 5 ef pa T = St.rCompose (letterR ef) (T.put pa) := fun T => by unfold St.rEff; rw [if_neg he, if_pos rfl]
    have hq : (if ef = 0 ∧ n = 0 then (S.eff, S.par) else (ef, pa)) = (ef, pa) := if_neg (fun h => he h.1)
    have e2 : St.lastingS n ef pa S = St.rLast n ef pa S := by unfold St.lastingS St.rLast; rw [if_neg he, if_neg he]
    rw [e1, e2]
    by_cases hl : lastsB ef = true ∧ pa = 0
    · rw [lE_shut n ef pa S _ hq hl]
      simp only []
      rw [doS0, rc_zero _ _ _ hl.2 (lets hl.1)]
      exact a4_put _ _
    · rw [lE_open n ef pa S _ hq hl]
      exact rc_do ef pa _ (by omega) hl
theorem agree (d n vc va ef pa : Int) (S : St) (hef : 0 ≤ ef) (hS : d = 5 → 0 ≤ (St.colS d vc va S).eff) (hF : ¬ d = 5 → ¬ ef = 0 → ∃ F, tabOf d (letterR ef) = some F) : Alike4 (St.rS d n vc va ef pa S) (St.askedS d n vc va ef pa S) := by
  by_cases h5 : d = 5
  · subst h5
    have e1 : St.rS 5 n vc va ef pa S = St.rEff 5 ef pa (St.rLast n ef pa (St.colS 5 vc va S)) := by unfold St.rS; rw [if_pos rfl]
    have e2 : St.askedS 5 n vc va ef pa S = St.doS 5 (lastingE n ef pa (St.colS 5 vc va S)).1 (lastingE n ef pa (St.colS 5 vc va S)).2 (St.lastingS n ef pa (St.colS 5 vc va S)) := by unfold St.askedS; rw [if_pos rfl]
    rw [e1, e2]
    exact agree5 n ef pa _ hef (hS rfl)
  · have e1 : St.rS d n vc va ef pa S = St.rEff d ef pa (St.colS d vc va S) := by unfold St.rS; rw [if_neg h5]
    have e2 : St.askedS d n vc va ef pa S = St.doS d ef pa (St.colS d vc va S) := by unfold St.askedS; rw [if_neg h5]
    rw [e1, e2]
    generalize St.colS d vc va S = T
    by_cases he : ef = 0
    · have e3 : St.rEff d ef pa T = T := by unfold St.rEff; exact if_pos he
      have e4 : St.doS d ef pa T = T := by unfold St.doS; exact if_neg (by omega)
      rw [e3, e4]
      exact a4_refl _
    · obtain ⟨F, hF⟩ := hF h5 he
      have e3 : St.rEff d ef pa T = F (T.put pa) := by unfold St.rEff; rw [if_neg he, if_neg h5, hF]
      have e4 : St.doS d ef pa T = F (T.put pa) := by unfold St.doS; rw [if_pos (by omega), show tabOf d (letterOf ef) = some F from hF]
      rw [e3, e4]
      exact a4_refl _
/-! ### Resolve of the reference, whole -/
theorem valid_all {d n i vc va ef pa : Int} (h : validD d n i vc va ef pa = true) :
    0 ≤ ef ∧ ef ≤ 36 ∧ 0 ≤ pa ∧ pa ≤ 255 ∧ 0 ≤ vc ∧ vc ≤ cmdsD d ∧ 0 ≤ va ∧ va ≤ 99 ∧ (¬ ef = 0 → hasL d (letterR ef) = true) := by
  unfold validD patOk volB effB inB at h
  simp only [Bool.and_eq_true, Bool.or_eq_true, decide_eq_true_eq, beq_iff_eq] at h
  obtain ⟨⟨⟨⟨_, ⟨_, ⟨⟨⟨h0, h1⟩, _⟩, ⟨⟨h2, h3⟩, _⟩⟩⟩⟩, _⟩, h4⟩, h5⟩ := h
  exact ⟨h2.1, h2.2, h3.1, h3.2, h0.1, h4, h1.1, h1.2, fun hn => h5.resolve_left hn⟩
theorem rres_ways (d : Int) (mv : Array Value) (ms : List Int) (e p : Int) (hM : MemV mv ms e p) (n i vc va ef pa : Int) (hd : inB d 1 6 = true) (hm : memOk ms e p = true) (hv : validD d n i vc va ef pa = true) (w : World) (S3 : St) (hS : St.rS d n vc va ef pa (St.mem ms e p) = S3) :
    Calls Tryz.prog 11 #[.int .i64 d, .agg mv, .agg (CellV n i vc va ef pa)] w (Out w S3.ops S3.slots S3.eff S3.par 0) := by
  obtain ⟨e0, e1, p0, p1, v0, vm, a0, a1, hL⟩ := valid_all hv
  have hme := mem_bounds hm
  have hdd : 1 ≤ d ∧ d ≤ 6 := by simpa [inB] using hd
  have heff := colS_eff d vc va (St.mem ms e p)
  have heff : (St.colS d vc va (St.mem ms e p)).eff = e := heff
  have hops : (St.colS d vc va (St.mem ms e p)).ops.length ≤ 1 := colS_ops d vc va (St.mem ms e p)
  have hdc : 1 ≤ vc → (d = 2 ∧ vc ≤ 1 ∨ d = 3 ∧ vc ≤ 8 ∨ d = 4 ∧ vc ≤ 10) := by
    intro h
    unfold cmdsD at vm
    repeat' split at vm
    all_goals omega
  by_cases h5 : d = 5
  · have hvc : vc = 0 := by
      subst h5
      have : cmdsD 5 = 0 := rfl
      omega
    have hr : St.rEff d ef pa (St.rLast n ef pa (St.colS d vc va (St.mem ms e p))) = S3 := by rw [← hS]; unfold St.rS; rw [if_pos h5]
    have o2 := rLast_ops n ef pa (St.colS d vc va (St.mem ms e p))
    by_cases hE : ef = 0
    · exact rres_5n d mv ms e p hM n i vc va ef pa hd hm hv p0 p1 _ _ S3 rfl (by simp [hvc]) hvc (by simp [h5]) h5 rfl (by omega) (by omega) e0 e1 (by simp [hE]) (by rw [← hr]; unfold St.rEff; rw [if_pos hE]) hops (by omega) w
    · exact rres_5e d mv ms e p hM n i vc va ef pa hd hm hv p0 p1 _ _ S3 rfl (by simp [hvc]) hvc (by simp [h5]) h5 rfl (by omega) (by omega) e0 e1 (by simp [hE]) (by omega) (by rw [← hr]; unfold St.rEff; rw [if_neg hE, if_pos h5]) hops (by omega) w
  · have hr : St.rEff d ef pa (St.colS d vc va (St.mem ms e p)) = S3 := by rw [← hS]; unfold St.rS; rw [if_neg h5]
    by_cases hE : ef = 0
    · have h3 : St.colS d vc va (St.mem ms e p) = S3 := by rw [← hr]; unfold St.rEff; rw [if_pos hE]
      by_cases hV : vc = 0
      · exact rres_n d mv ms e p hM n i vc va ef pa hd hm hv p0 p1 _ _ S3 rfl (by simp [hV]) hV (by simp [h5]) h5 rfl e0 e1 (by simp [hE]) h3 hops (by omega) w
      · exact rres_v_n d mv ms e p hM n i vc va ef pa hd hm hv p0 p1 _ _ S3 rfl (by simp [hV]) (by omega) a0 a1 (hdc (by omega)) (by simp [h5]) h5 rfl e0 e1 (by simp [hE]) h3 hops (by omega) w
    · obtain ⟨F, hF⟩ := tab_some d hdd.1 hdd.2 h5 (hL hE)
      have h3 : F ((St.colS d vc va (St.mem ms e p)).put pa) = S3 := by rw [← hr]; unfold St.rEff; rw [if_neg hE, if_neg h5, hF]
      by_cases hV : vc = 0
      · exact rres_e d mv ms e p hM n i vc va ef pa hd hm hv p0 p1 _ _ S3 rfl (by simp [hV]) hV (by simp [h5]) h5 rfl e0 e1 (by simp [hE]) (by omega) F hF (hL hE) h3 hops (by omega) w
      · exact rres_v_e d mv ms e p hM n i vc va ef pa hd hm hv p0 p1 _ _ S3 rfl (by simp [hV]) (by omega) a0 a1 (hdc (by omega)) (by simp [h5]) h5 rfl e0 e1 (by simp [hE]) (by omega) F hF (hL hE) h3 hops (by omega) w
/-- The reference's Resolve comes to what the program's comes to. -/
theorem rres (d : Int) (mv : Array Value) (ms : List Int) (e p : Int) (hM : MemV mv ms e p) (n i vc va ef pa : Int) (w : World) :
    Calls Tryz.prog 11 #[.int .i64 d, .agg mv, .agg (CellV n i vc va ef pa)] w (Out w (resL d n vc va ef pa i ms e p).1.ops (resL d n vc va ef pa i ms e p).1.slots (resL d n vc va ef pa i ms e p).1.eff (resL d n vc va ef pa i ms e p).1.par (resL d n vc va ef pa i ms e p).2) := by
  cases q : inB d 1 6 with
  | false => simp only [resL, q, if_true]; exact rres_a d mv ms e p hM n i vc va ef pa q w
  | true =>
    cases q2 : memOk ms e p with
    | false => simp only [resL, q, q2, if_false, reduceCtorEq, false_and]; exact rres_b d mv ms e p hM n i vc va ef pa q q2 w
    | true =>
      cases q3 : validD d n i vc va ef pa with
      | false => simp only [resL, q, q2, q3, if_false, reduceCtorEq, and_false]; exact rres_c d mv ms e p hM n i vc va ef pa q q2 q3 w
      | true =>
        rw [res_is q q2 q3]
        have hb := valid_all q3
        have hdd : 1 ≤ d ∧ d ≤ 6 := by simpa [inB] using q
        have hag := agree d n vc va ef pa (St.mem ms e p) hb.1 (fun _ => by rw [colS_eff]; exact (mem_bounds q2).1) (fun h5 h => tab_some d hdd.1 hdd.2 h5 (hb.2.2.2.2.2.2.2.2 h))
        obtain ⟨g1, g2, g3, g4⟩ := hag
        have key := rres_ways d mv ms e p hM n i vc va ef pa q q2 q3 w _ rfl
        rw [g1, g2, g3, g4] at key
        exact key
end Go.Proofs.YtappnglfmidjoaaGreat.D
