/- Effects that are recalled: the plain law, and 'whole' of the statement. -/
import Derived.Test.YtappnglfmidjoaaGreatAwake
set_option linter.unusedVariables false
set_option linter.unusedSimpArgs false
namespace Go.Proofs.YtappnglfmidjoaaGreat.D
open Go Go.RowKit Go.Proofs.YtappnglfmidjoaaGreat.DB Go.Great

/-- Asks, and leaves the memory. -/
def Quiet (E : St → St) : Prop := ∀ S, (E S).slots = S.slots ∧ (E S).eff = S.eff ∧ (E S).par = S.par
theorem q_ask {S : St} {k x y : Int} : (S.ask k x y).slots = S.slots ∧ (S.ask k x y).eff = S.eff ∧ (S.ask k x y).par = S.par := ⟨rfl, rfl, rfl⟩
theorem q_param (k : Int) : Quiet (St.fParam k) := fun S => q_ask
theorem q_both (k : Int) : Quiet (St.fBoth k) := fun S => q_ask
theorem q_wave (k : Int) : Quiet (St.fWave k) := fun S => q_ask
theorem q_low (k : Int) : Quiet (St.fLowHalf k) := fun S => q_ask
theorem q_offset : Quiet St.fOffset := fun S => q_ask
theorem q_tremor : Quiet St.fTremor := fun S => q_ask
theorem q_retrig : Quiet St.fRetrig := fun S => q_ask
theorem q_panSlide : Quiet St.fPanSlide := fun S => q_ask
theorem q_panLow : Quiet St.fPanLow := fun S => q_ask
theorem q_gliss : Quiet St.fGliss := fun S => q_ask
theorem q_sfine : Quiet St.fScreamFine := fun S => q_ask
theorem q_five : Quiet St.fFive := fun S => ⟨rfl, rfl, rfl⟩
theorem q_six : Quiet St.fSix := fun S => ⟨rfl, rfl, rfl⟩
theorem q_slide : Quiet St.slide := fun S => by unfold St.slide; repeat' split
                                                all_goals exact q_ask
theorem q_bend (a b c : Int) : Quiet (fun S => S.bend a b c) := fun S => by
  show (St.bend S a b c).slots = S.slots ∧ (St.bend S a b c).eff = S.eff ∧ (St.bend S a b c).par = S.par
  unfold St.bend
  repeat' split
  all_goals exact q_ask
theorem q_down : Quiet St.fDown := q_bend 5 7 3
theorem q_up : Quiet St.fUp := q_bend 4 6 2
theorem q_tempo : Quiet St.fTempo := fun S => by unfold St.fTempo; repeat' split
                                                 all_goals exact q_ask
theorem q_past : Quiet St.fPast := fun S => by unfold St.fPast; repeat' split
                                               all_goals exact ⟨rfl, rfl, rfl⟩
theorem q_surround : Quiet St.fSurround := fun S => by unfold St.fSurround; repeat' split
                                                       all_goals exact ⟨rfl, rfl, rfl⟩
theorem q_then {E F : St → St} (hE : Quiet E) (hF : Quiet F) : Quiet (fun S => F (E S)) := fun S => by
  obtain ⟨a1, a2, a3⟩ := hE S
  obtain ⟨b1, b2, b3⟩ := hF (E S)
  exact ⟨b1.trans a1, b2.trans a2, b3.trans a3⟩
theorem q_vslide : Quiet St.fVibratoSlide := q_then (E := fun S => S.fRecalled 3) (F := St.slide) (fun S => q_ask) q_slide
theorem q_tslide : Quiet St.fToneSlide := q_then (E := fun S => S.ask 8 (S.slot 2) 0) (F := St.slide) (fun S => q_ask) q_slide
def QuietM (M : Int → Option (St → St)) : Prop := ∀ k E, M k = some E → Quiet E
theorem qm_none : QuietM (fun _ => none) := fun k E h => by cases h
theorem qm_set {M : Int → Option (St → St)} {k : Int} {E : St → St} (hM : QuietM M) (hE : Quiet E) : QuietM (mset M k E) := fun q F h => by
  unfold mset at h
  split at h
  · cases h; exact hE
  · exact hM q F h
theorem qm_timed (l : Int) : QuietM (tTimed l) := fun q F h => by
  unfold tTimed at h
  repeat' split at h
  all_goals first | cases h; exact q_low _ | cases h
theorem q_byHigh {M : Int → Option (St → St)} (hM : QuietM M) : Quiet (St.fByHigh M) := fun S => by
  unfold St.fByHigh
  cases h : M S.h with
  | none => exact ⟨rfl, rfl, rfl⟩
  | some E => exact hM _ _ h S
theorem q_screamS : Quiet (St.fByHigh tScreamS) := q_byHigh (qm_set (qm_set (qm_set (qm_set (qm_set (qm_timed 11) q_gliss) q_sfine) (q_wave 25)) (q_wave 26)) q_panLow)
theorem q_special : Quiet (St.fByHigh tSpecial) := q_byHigh (qm_set (qm_set (qm_set (qm_set (qm_set (qm_timed 11) (q_wave 25)) (q_wave 26)) q_panLow) q_past) q_surround)
/-- Told with a parameter, then without one: the same. -/
theorem recall {k : Int} (k0 : 0 ≤ k) (k1 : k < 24) {E : St → St} (hq : Quiet E) (ms : List Int) (e p pa : Int) (hl : ms.length = 24) (hp : ¬ pa = 0) :
    St.fWholly k E ((St.mem (ms.set k.toNat pa) e p).put 0) = St.fWholly k E ((St.mem ms e p).put pa) ∧ (St.fWholly k E ((St.mem ms e p).put pa)).slots = ms.set k.toNat pa ∧ (St.fWholly k E ((St.mem ms e p).put pa)).eff = e ∧ (St.fWholly k E ((St.mem ms e p).put pa)).par = p := by
  have h1 : ((St.mem ms e p).put pa).whole k = ((St.mem ms e p).put pa).keep k pa := by unfold St.whole; rw [if_neg (by exact hp)]; rfl
  have hs : (St.mem (ms.set k.toNat pa) e p).slot k = pa := by
    show (ms.set k.toNat pa)[k.toNat]?.getD 0 = pa
    rw [List.getElem?_set, if_pos rfl, if_pos (by omega)]
    rfl
  have h2 : ((St.mem (ms.set k.toNat pa) e p).put 0).whole k = ((St.mem ms e p).put pa).keep k pa := by
    unfold St.whole
    rw [if_pos (by rfl)]
    have hs' : ((St.mem (ms.set k.toNat pa) e p).put 0).slot k = pa := hs
    rw [hs']
    show (St.mk _ _ _ _ _ _ _) = (St.mk _ _ _ _ _ _ _)
    simp [St.put, St.mem, List.set_set]
  have e1 : St.fWholly k E ((St.mem ms e p).put pa) = E (((St.mem ms e p).put pa).keep k pa) := by unfold St.fWholly; rw [h1]
  have e2 : St.fWholly k E ((St.mem (ms.set k.toNat pa) e p).put 0) = E (((St.mem ms e p).put pa).keep k pa) := by unfold St.fWholly; rw [h2]
  rw [e1, e2]
  obtain ⟨q1, q2, q3⟩ := hq (((St.mem ms e p).put pa).keep k pa)
  exact ⟨rfl, q1, q2, q3⟩
/-- The statement's letters. -/
def wholeL (d : Int) : List Int := if d = 1 then [51, 57] else if d = 2 then [68, 69, 70, 71, 73, 74, 75, 76, 79, 81, 82, 83] else if d = 3 then [49, 50, 51, 53, 54, 57, 65, 72, 80, 84] else if d = 4 then [68, 69, 70, 71, 73, 74, 75, 76, 78, 79, 80, 81, 83, 84, 87] else if d = 6 then [49, 50, 51, 65] else []
def wholeB (d ef : Int) : Bool := decide (1 ≤ ef) && (wholeL d).contains (letterOf ef)
theorem whole_eff (d : Int) (hd0 : 1 ≤ d) (hd1 : d ≤ 6) (c : Int) (h : (wholeL d).contains c = true) : ∃ k E, tabOf d c = some (St.fWholly k E) ∧ 0 ≤ k ∧ k < 24 ∧ Quiet E := by
  have key : ∀ {l : List Int} {P : Int → Prop}, l.contains c = true → (∀ x ∈ l, P x) → P c := fun h1 h2 => h2 c (by simpa using h1)
  rcases (by omega : d = 1 ∨ d = 2 ∨ d = 3 ∨ d = 4 ∨ d = 5 ∨ d = 6) with rfl | rfl | rfl | rfl | rfl | rfl
  · refine key h (P := fun c => ∃ k E, tabOf 1 c = some (St.fWholly k E) ∧ 0 ≤ k ∧ k < 24 ∧ Quiet E) ?_
    intro x hx
    simp [wholeL] at hx
    rcases hx with rfl | rfl
    · exact ⟨1, _, rfl, by decide, by decide, q_param _⟩
    · exact ⟨4, _, rfl, by decide, by decide, q_offset⟩
  · refine key h (P := fun c => ∃ k E, tabOf 2 c = some (St.fWholly k E) ∧ 0 ≤ k ∧ k < 24 ∧ Quiet E) ?_
    intro x hx
    simp [wholeL] at hx
    rcases hx with rfl | rfl | rfl | rfl | rfl | rfl | rfl | rfl | rfl | rfl | rfl | rfl
    · exact ⟨1, _, rfl, by decide, by decide, q_slide⟩
    · exact ⟨1, _, rfl, by decide, by decide, q_down⟩
    · exact ⟨1, _, rfl, by decide, by decide, q_up⟩
    · exact ⟨2, _, rfl, by decide, by decide, q_param _⟩
    · exact ⟨1, _, rfl, by decide, by decide, q_tremor⟩
    · exact ⟨1, _, rfl, by decide, by decide, q_both _⟩
    · exact ⟨1, _, rfl, by decide, by decide, q_vslide⟩
    · exact ⟨1, _, rfl, by decide, by decide, q_tslide⟩
    · exact ⟨4, _, rfl, by decide, by decide, q_offset⟩
    · exact ⟨1, _, rfl, by decide, by decide, q_retrig⟩
    · exact ⟨1, _, rfl, by decide, by decide, q_both _⟩
    · exact ⟨1, _, rfl, by decide, by decide, q_screamS⟩
  · refine key h (P := fun c => ∃ k E, tabOf 3 c = some (St.fWholly k E) ∧ 0 ≤ k ∧ k < 24 ∧ Quiet E) ?_
    intro x hx
    simp [wholeL] at hx
    rcases hx with rfl | rfl | rfl | rfl | rfl | rfl | rfl | rfl | rfl | rfl
    · exact ⟨5, _, rfl, by decide, by decide, q_param _⟩
    · exact ⟨6, _, rfl, by decide, by decide, q_param _⟩
    · exact ⟨1, _, rfl, by decide, by decide, q_param _⟩
    · exact ⟨7, _, rfl, by decide, by decide, q_five⟩
    · exact ⟨7, _, rfl, by decide, by decide, q_six⟩
    · exact ⟨4, _, rfl, by decide, by decide, q_offset⟩
    · exact ⟨7, _, rfl, by decide, by decide, q_both _⟩
    · exact ⟨12, _, rfl, by decide, by decide, q_both _⟩
    · exact ⟨13, _, rfl, by decide, by decide, q_both _⟩
    · exact ⟨15, _, rfl, by decide, by decide, q_tremor⟩
  · refine key h (P := fun c => ∃ k E, tabOf 4 c = some (St.fWholly k E) ∧ 0 ≤ k ∧ k < 24 ∧ Quiet E) ?_
    intro x hx
    simp [wholeL] at hx
    rcases hx with rfl | rfl | rfl | rfl | rfl | rfl | rfl | rfl | rfl | rfl | rfl | rfl | rfl | rfl | rfl
    · exact ⟨1, _, rfl, by decide, by decide, q_slide⟩
    · exact ⟨5, _, rfl, by decide, by decide, q_down⟩
    · exact ⟨5, _, rfl, by decide, by decide, q_up⟩
    · exact ⟨2, _, rfl, by decide, by decide, q_param _⟩
    · exact ⟨6, _, rfl, by decide, by decide, q_tremor⟩
    · exact ⟨7, _, rfl, by decide, by decide, q_both _⟩
    · exact ⟨1, _, rfl, by decide, by decide, q_vslide⟩
    · exact ⟨1, _, rfl, by decide, by decide, q_tslide⟩
    · exact ⟨8, _, rfl, by decide, by decide, q_both _⟩
    · exact ⟨4, _, rfl, by decide, by decide, q_offset⟩
    · exact ⟨9, _, rfl, by decide, by decide, q_panSlide⟩
    · exact ⟨10, _, rfl, by decide, by decide, q_retrig⟩
    · exact ⟨12, _, rfl, by decide, by decide, q_special⟩
    · exact ⟨13, _, rfl, by decide, by decide, q_tempo⟩
    · exact ⟨14, _, rfl, by decide, by decide, q_both _⟩
  · simp [wholeL] at h
  · refine key h (P := fun c => ∃ k E, tabOf 6 c = some (St.fWholly k E) ∧ 0 ≤ k ∧ k < 24 ∧ Quiet E) ?_
    intro x hx
    simp [wholeL] at hx
    rcases hx with rfl | rfl | rfl | rfl
    · exact ⟨5, _, rfl, by decide, by decide, q_param _⟩
    · exact ⟨6, _, rfl, by decide, by decide, q_param _⟩
    · exact ⟨1, _, rfl, by decide, by decide, q_param _⟩
    · exact ⟨7, _, rfl, by decide, by decide, q_both _⟩
theorem res_bad {d n vc va ef pa i : Int} {ms : List Int} {e p : Int} (h : ¬ (resL d n vc va ef pa i ms e p).2 = 0) : (resL d n vc va ef pa i ms e p).1 = St.mem zeros 0 0 := by
  unfold resL at h ⊢
  split
  · rfl
  · rename_i h1
    rw [if_neg h1] at h
    split
    · rename_i h2
      rw [if_pos h2] at h
      exact absurd rfl h
    · rfl
theorem res_good {d n vc va ef pa i : Int} {ms : List Int} {e p : Int} (h : (resL d n vc va ef pa i ms e p).2 = 0) : inB d 1 6 = true ∧ memOk ms e p = true ∧ validD d n i vc va ef pa = true ∧ resL d n vc va ef pa i ms e p = (outS d n vc va ef pa ms e p, 0) := by
  unfold resL at h ⊢
  split at h
  · exact absurd h (by decide)
  · rename_i h1
    split at h
    · rename_i h2
      rw [if_neg h1, if_pos h2]
      exact ⟨by simpa using h1, h2.1, h2.2, rfl⟩
    · exact absurd h (by decide)
theorem res_is {d n vc va ef pa i : Int} {ms : List Int} {e p : Int} (h1 : inB d 1 6 = true) (h2 : memOk ms e p = true) (h3 : validD d n i vc va ef pa = true) : resL d n vc va ef pa i ms e p = (outS d n vc va ef pa ms e p, 0) := by
  unfold resL
  rw [if_neg (by simp [h1]), if_pos ⟨h2, h3⟩]
theorem res_none {d n pa i : Int} {ms : List Int} {e p : Int} (h5 : ¬ d = 5) (h : (resL d n 0 0 0 pa i ms e p).2 = 0) : (resL d n 0 0 0 pa i ms e p).1 = St.mem ms e p := by
  obtain ⟨_, _, _, hr⟩ := res_good h
  rw [hr]
  show St.askedS d n 0 0 0 pa (St.mem ms e p) = _
  unfold St.askedS
  rw [if_neg h5]
  rfl
theorem slots_ok {ms : List Int} {e p pa : Int} {k : Nat} (h : memOk ms e p = true) (hp : 0 ≤ pa ∧ pa ≤ 255) : memOk (ms.set k pa) e p = true := by
  unfold memOk at h ⊢
  simp only [Bool.and_eq_true] at h ⊢
  refine ⟨?_, h.2⟩
  rw [List.all_eq_true]
  intro x hx
  rcases List.mem_or_eq_of_mem_set hx with hx | rfl
  · exact List.all_eq_true.1 h.1 x hx
  · simpa [slotOk] using hp
theorem res_recall {d n ef pa i : Int} {ms : List Int} {e p : Int} (hl : ms.length = 24) (hp : ¬ pa = 0) (hw : wholeB d ef = true) (h : (resL d n 0 0 ef pa i ms e p).2 = 0) (R : St) (hR : (resL d n 0 0 ef pa i ms e p).1 = R) :
    ∃ R2, resL d n 0 0 ef 0 i R.slots R.eff R.par = (R2, 0) ∧ R2.ops = R.ops ∧ R2.slots = R.slots ∧ R2.eff = R.eff ∧ R2.par = R.par := by
  obtain ⟨h1, h2, h3, hr⟩ := res_good h
  rw [hr] at hR
  have hd : 1 ≤ d ∧ d ≤ 6 := by simpa [inB] using h1
  unfold wholeB at hw
  simp only [Bool.and_eq_true, decide_eq_true_eq] at hw
  obtain ⟨hef, hw⟩ := hw
  have h5 : ¬ d = 5 := by
    rintro rfl
    simp [wholeL] at hw
  obtain ⟨k, E, ht, k0, k1, hq⟩ := whole_eff d hd.1 hd.2 _ hw
  obtain ⟨r1, r2, r3, r4⟩ := recall k0 k1 hq ms e p pa hl hp
  have hS : ∀ ms' pa', outS d n 0 0 ef pa' ms' e p = St.fWholly k E ((St.mem ms' e p).put pa') := by
    intro ms' pa'
    show St.askedS d n 0 0 ef pa' (St.mem ms' e p) = _
    unfold St.askedS
    rw [if_neg h5]
    show St.doS d ef pa' (St.mem ms' e p) = _
    unfold St.doS
    rw [if_pos (by omega), ht]
  rw [hS ms pa] at hR
  subst hR
  have h3' : validD d n i 0 0 ef 0 = true := by
    unfold validD patOk effB at h3 ⊢
    simp only [Bool.and_eq_true] at h3 ⊢
    obtain ⟨⟨⟨⟨a1, ⟨a2, ⟨a3, ⟨⟨a4, a5⟩, a6⟩⟩⟩⟩, a7⟩, a8⟩, a9⟩ := h3
    exact ⟨⟨⟨⟨a1, ⟨a2, ⟨a3, ⟨⟨a4, by decide⟩, by simp⟩⟩⟩⟩, a7⟩, a8⟩, a9⟩
  have hpa : 0 ≤ pa ∧ pa ≤ 255 := by
    unfold validD patOk effB inB at h3
    simp only [Bool.and_eq_true, decide_eq_true_eq] at h3
    exact h3.1.1.1.2.2.2.1.2
  rw [r2, r3, r4]
  rw [res_is h1 (slots_ok h2 hpa) h3', hS, r1]
  exact ⟨_, rfl, rfl, r2, r3, r4⟩
/-! ### 'whole' -/
def wl1 : ByteArray := { data := #[51, 57] }
def wl2 : ByteArray := { data := #[68, 69, 70, 71, 73, 74, 75, 76, 79, 81, 82, 83] }
def wl3 : ByteArray := { data := #[49, 50, 51, 53, 54, 57, 65, 72, 80, 84] }
def wl4 : ByteArray := { data := #[68, 69, 70, 71, 73, 74, 75, 76, 78, 79, 80, 81, 83, 84, 87] }
def wl5 : ByteArray := { data := #[] }
def wl6 : ByteArray := { data := #[49, 50, 51, 65] }
/-- A letter is an effect's. -/
def isB (b : UInt8) (ef : Int) : Bool := if (b.toNat : Int) ≤ 57 then ef == (b.toNat : Int) - 48 + 1 else ef == (b.toNat : Int) - 65 + 11
def isAny (s : ByteArray) (ef : Int) : Bool := s.data.toList.any fun b => isB b ef
end Go.Proofs.YtappnglfmidjoaaGreat.D
