/- ValidCell, of both sides. -/
import Derived.Test.YtappnglfmidjoaaGreatCellD
import Derived.Test.YtappnglfmidjoaaGreatTab
import Derived.Deep.RegionHeld3
import Derived.Deep.RegionWith
import Derived.Deep.DeepCutAuto
import Derived.BigQuiet
import Derived.Deep.QuietTactic
set_option linter.unusedVariables false
set_option linter.unusedSimpArgs false
namespace Go.Proofs.YtappnglfmidjoaaGreat.D
open Go Go.RowKit Go.Proofs.YtappnglfmidjoaaGreat.DB Go.Great

def cmdM : Int → Option Int := mset (mset (mset (fun _ => none) 2 1) 3 8) 4 10
theorem cmdM_eq (d v : Int) (h : cmdM d = some v) : v = cmdsD d := by
  unfold cmdM mset at h
  unfold cmdsD
  repeat' (first | (split at h) | cases h)
  all_goals simp_all
theorem cmdM_none (d : Int) (h : cmdM d = none) : cmdsD d = 0 := by
  unfold cmdM mset at h
  unfold cmdsD
  repeat' (first | (split at h) | cases h)
  all_goals simp_all
set_option maxHeartbeats 1000000 in
theorem pvolCmds (d : Int) (w : World) : Calls Tryz.prog 21 #[.int .i64 d] w fun e w' => e = .returned (.int .i64 (cmdsD d)) ∧ Below w.heap.size w w' := by
  have I := MapG.made .i64 IntIs w
  have hW : Below w.heap.size w (w.alloc (.map #[] 0)) := (Below.refl _ _).alloc (Nat.le_refl _) _
  have hmm := @run_makeMap Tryz.prog
  have hz : ∀ w : World, (zeroValue 3).run Tryz.prog w = .ok (.int .i64 0) w := by intro w; rfl
  go_enter Tryz.func21, Tryz.ntmps21
  go_wp2_with (first
    | (refine wpList_insert rfl _ _ _ 65 (Or.inl rfl) 3 3 Tryz.underlying65 Tryz.underlying3 rfl I 2 rfl _ rfl 1 rfl ?_; clear I; intro wL I hg; replace hW := hW.grown hg hW.size (fun k e => by cases e; exact Nat.le_refl _); clear hg)
    | (refine wpList_insert rfl _ _ _ 65 (Or.inl rfl) 3 3 Tryz.underlying65 Tryz.underlying3 rfl I 3 rfl _ rfl 8 rfl ?_; clear I; intro wL2 I hg; replace hW := hW.grown hg hW.size (fun k e => by cases e; exact Nat.le_refl _); clear hg)
    | (refine wpList_insert rfl _ _ _ 65 (Or.inl rfl) 3 3 Tryz.underlying65 Tryz.underlying3 rfl I 4 rfl _ rfl 10 rfl ?_; clear I; intro wL3 I hg; replace hW := hW.grown hg hW.size (fun k e => by cases e; exact Nat.le_refl _); clear hg)
    | (refine wpList_lookupG rfl _ _ 65 rfl 3 3 Tryz.underlying65 Tryz.underlying3 (.int .i64 0) hz rfl I d rfl ?_; intro v hv))
  go_ret
  refine ⟨?_, hW⟩
  rcases hv with ⟨h1, h2⟩ | ⟨y, h1, h2⟩
  · show Ending.returned v = _
    rw [h2, cmdM_none d h1]
  · show Ending.returned v = _
    rw [show v = .int .i64 y from h2, cmdM_eq d y h1]
theorem CellAt.below {w w' : World} {m : Nat} {n i vc va ef pa : Int} (h : CellAt w m n i vc va ef pa) (hm : m < w.heap.size) (hb : Below w.heap.size w w') : CellAt w' m n i vc va ef pa :=
  ⟨(hb.cell (p := ⟨m, 0, none⟩) hm).trans h.c0, (hb.cell (p := ⟨m, 1, none⟩) hm).trans h.c1, (hb.cell (p := ⟨m, 2, none⟩) hm).trans h.c2, (hb.cell (p := ⟨m, 3, none⟩) hm).trans h.c3, (hb.cell (p := ⟨m, 4, none⟩) hm).trans h.c4, (hb.cell (p := ⟨m, 5, none⟩) hm).trans h.c5⟩
theorem CellAt.drew {w : World} {m : Nat} {n i vc va ef pa : Int} (h : CellAt w m n i vc va ef pa) : CellAt w.drew m n i vc va ef pa := ⟨h.c0, h.c1, h.c2, h.c3, h.c4, h.c5⟩
theorem below_drew {B : Nat} {w w' : World} (h : Below B w w') : Below B w w'.drew := ⟨h.os, h.tape, h.output, h.size, h.block⟩
theorem info23' : (Tryz.prog.info? 23).map (·.size) = some 6 := by kernel_rfl
theorem load23 (w : World) (n i vc va ef pa : Int) {m : Nat} (h : CellAt w m n i vc va ef pa) : (Instr.loadAt 23 (.pointer (some ⟨m, 0, none⟩))).run Tryz.prog w = .ok (.agg (CellV n i vc va ef pa)) w :=
  run_loadAt_mid w m 0 23 [.int .i64 n, .int .i64 i, .int .i64 vc, .int .i64 va, .int .i64 ef, .int .i64 pa] _ (by
    intro j v hv
    rcases (by have := (List.getElem?_eq_some_iff.1 hv).1; simp at this; omega : j = 0 ∨ j = 1 ∨ j = 2 ∨ j = 3 ∨ j = 4 ∨ j = 5) with rfl | rfl | rfl | rfl | rfl | rfl <;> (simp at hv; subst hv)
    · exact h.c0
    · exact h.c1
    · exact h.c2
    · exact h.c3
    · exact h.c4
    · exact h.c5) Tryz.underlying23 rfl info23'
def validD (d n i vc va ef pa : Int) : Bool := inB d 1 6 && patOk n i vc va ef pa && noteD d n && decide (vc ≤ cmdsD d) && (ef == 0 || hasB (lettersV d).data.toList (letterR ef))
theorem pis_v {d : Int} {b : Bool} (h : inB d 1 6 = b) (w : World) : Calls Tryz.prog 18 #[.int .i64 d] w fun e w' => e = .returned (.bool b) ∧ w' = w := h ▸ pis d w
theorem ppat_v {n i vc va ef pa : Int} {b : Bool} (h : patOk n i vc va ef pa = b) (w : World) : Calls Tryz.prog 19 #[.agg (CellV n i vc va ef pa)] w fun e w' => e = .returned (.bool b) ∧ Below w.heap.size w w' := h ▸ ppat n i vc va ef pa w
theorem rpat_v {n i vc va ef pa : Int} {b : Bool} (h : patOk n i vc va ef pa = b) (w : World) : Calls Tryz.prog 24 #[.agg (CellV n i vc va ef pa)] w fun e w' => e = .returned (.bool b) ∧ Below w.heap.size w w' := h ▸ rpat n i vc va ef pa w
theorem pnote_v {d n : Int} (h0 : 1 ≤ d) (h1 : d ≤ 6) {b : Bool} (h : noteD d n = b) (w : World) : Calls Tryz.prog 20 #[.int .i64 d, .int .i64 n] w fun e w' => e = .returned (.bool b) ∧ Below w.heap.size w w' := h ▸ phasNote d n h0 h1 w
theorem rnote_v {d n : Int} (h0 : 1 ≤ d) (h1 : d ≤ 6) {b : Bool} (h : noteD d n = b) (w : World) : Calls Tryz.prog 25 #[.int .i64 d, .int .i64 n] w fun e w' => e = .returned (.bool b) ∧ Below w.heap.size w w' := h ▸ rnoted d n h0 h1 w
theorem indexByte_has (l : List UInt8) (c : Int) (h0 : 0 ≤ c) (h1 : c < 256) : decide (Lib.indexByte l c.toNat.toUInt8 ≥ 0) = hasB l c := by
  induction l with
  | nil => rfl
  | cons b l ih =>
    have hge := Lib.indexByte_ge l c.toNat.toUInt8
    unfold Lib.indexByte
    have hcb : (b == c.toNat.toUInt8) = ((b.toNat : Int) == c) := by
      rw [Bool.eq_iff_iff]
      simp only [beq_iff_eq]
      constructor
      · rintro rfl
        simp
        try omega
      · intro h
        rw [← h]
        simp
    unfold hasB at ih ⊢
    rw [List.any_cons, hcb]
    split
    · rename_i h; rw [h]; simp
    · rename_i h
      have h' : ((b.toNat : Int) == c) = false := by simpa using h
      rw [h', Bool.false_or, ← ih]
      split
      · rename_i h2
        have h3 : Lib.indexByte l c.toNat.toUInt8 = -1 := by simpa using h2
        rw [h3]
        try rfl
      · rename_i h2
        have h3 : ¬ Lib.indexByte l c.toNat.toUInt8 = -1 := by simpa using h2
        rw [Bool.eq_iff_iff]
        simp only [decide_eq_true_eq]
        omega
def okD (d n i vc va ef pa : Int) : Bool := inB d 1 6 && patOk n i vc va ef pa && noteD d n && decide (vc ≤ cmdsD d)
set_option maxRecDepth 100000 in
set_option maxHeartbeats 4000000 in
theorem pvalidCell (d n i vc va ef pa : Int) (w : World) : Calls Tryz.prog 7 #[.int .i64 d, .agg (CellV n i vc va ef pa)] w fun e w' => e = .returned (.bool (validD d n i vc va ef pa)) ∧ Below w.heap.size w w' := by
  have hC := CellAt.box w n i vc va ef pa
  have hb : Below w.heap.size w (w.alloc (.cells (CellV n i vc va ef pa) 23)) := (Below.refl _ _).alloc (Nat.le_refl _) _
  have hm : w.heap.size < (w.alloc (.cells (CellV n i vc va ef pa) 23)).heap.size := by simp
  go_enter Tryz.func7, Tryz.ntmps7
  go_upto_region 1 with fail
  generalize w.alloc _ = w1 at hC hb hm ⊢
  go_cut [26] (fun s26 wx => ∃ bad, s26 = .bool bad ∧ bad = (!okD d n i vc va ef pa) ∧ CellAt wx w.heap.size n i vc va ef pa ∧ Below w.heap.size w wx ∧ w.heap.size < wx.heap.size)
  case first =>
    obtain ⟨c0, c1, c2, c3, c4, c5⟩ := id hC
    by_cases q1 : inB d 1 6 = true
    · have hd : 1 ≤ d ∧ d ≤ 6 := by simpa [inB] using q1
      obtain ⟨hd0, hd1⟩ := hd
      by_cases q2 : patOk n i vc va ef pa = true
      · by_cases q3 : noteD d n = true
        · by_cases q4 : cmdsD d < vc
          · have hk0 : okD d n i vc va ef pa = false := by unfold okD; rw [q1, q2, q3]; simp; omega
            have hk := Lib.hid hk0
            have h1 := q1
            have h2 := q2
            have h3 := q3
            have h4 : decide (cmdsD d < vc) = true := by simpa using q4
            clear hk0 q1 q2 q3
            first
              | go_region_with (first | (go_at_call 18; refine (pis_v h1 _).mono ?_; rintro _ w2 ⟨rfl, rfl⟩) | (go_at_call 19; refine (ppat_v h2 _).mono ?_; rintro _ w3 ⟨rfl, hB3⟩; have hC3 := hC.drew.below hm hB3; have hm3 := Nat.lt_of_lt_of_le hm hB3.size; have hb3 := (below_drew hb).trans (hB3.mono (below_drew hb).size); obtain ⟨e0, e1, e2, e3, e4, e5⟩ := id hC3) | (go_at_call 20; refine (pnote_v hd0 hd1 h3 _).mono ?_; rintro _ w4 ⟨rfl, hB4⟩; have hC4 := hC3.below hm3 hB4; have hm4 := Nat.lt_of_lt_of_le hm3 hB4.size; have hb4 := hb3.trans (hB4.mono hb3.size); obtain ⟨f0, f1, f2, f3, f4, f5⟩ := id hC4) | (go_at_call 21; refine (pvolCmds d _).mono ?_; rintro _ w5 ⟨rfl, hB5⟩; have hC5 := hC4.below hm4 hB5; have hm5 := Nat.lt_of_lt_of_le hm4 hB5.size; have hb5 := hb4.trans (hB5.mono hb4.size); obtain ⟨g0, g1, g2, g3, g4, g5⟩ := id hC5))
              | fail
            all_goals (go_wp2_with fail; go_meet; exact ⟨_, rfl, by rw [hk.out]; rfl, hC5, hb5, hm5⟩)
          · have hk0 : okD d n i vc va ef pa = true := by unfold okD; rw [q1, q2, q3]; simp; omega
            have hk := Lib.hid hk0
            have h1 := q1
            have h2 := q2
            have h3 := q3
            have h4 : decide (cmdsD d < vc) = false := by simpa using q4
            clear hk0 q1 q2 q3
            first
              | go_region_with (first | (go_at_call 18; refine (pis_v h1 _).mono ?_; rintro _ w2 ⟨rfl, rfl⟩) | (go_at_call 19; refine (ppat_v h2 _).mono ?_; rintro _ w3 ⟨rfl, hB3⟩; have hC3 := hC.drew.below hm hB3; have hm3 := Nat.lt_of_lt_of_le hm hB3.size; have hb3 := (below_drew hb).trans (hB3.mono (below_drew hb).size); obtain ⟨e0, e1, e2, e3, e4, e5⟩ := id hC3) | (go_at_call 20; refine (pnote_v hd0 hd1 h3 _).mono ?_; rintro _ w4 ⟨rfl, hB4⟩; have hC4 := hC3.below hm3 hB4; have hm4 := Nat.lt_of_lt_of_le hm3 hB4.size; have hb4 := hb3.trans (hB4.mono hb3.size); obtain ⟨f0, f1, f2, f3, f4, f5⟩ := id hC4) | (go_at_call 21; refine (pvolCmds d _).mono ?_; rintro _ w5 ⟨rfl, hB5⟩; have hC5 := hC4.below hm4 hB5; have hm5 := Nat.lt_of_lt_of_le hm4 hB5.size; have hb5 := hb4.trans (hB5.mono hb4.size); obtain ⟨g0, g1, g2, g3, g4, g5⟩ := id hC5))
              | fail
            all_goals (go_wp2_with fail; go_meet; exact ⟨_, rfl, by rw [hk.out]; rfl, hC5, hb5, hm5⟩)
        · have h1 := q1
          have h2 := q2
          have h3 : noteD d n = false := by simpa using q3
          have hk0 : okD d n i vc va ef pa = false := by unfold okD; rw [h1, h2, h3]; rfl
          have hk := Lib.hid hk0
          clear hk0 q1 q2 q3
          first
            | go_region_with (first | (go_at_call 18; refine (pis_v h1 _).mono ?_; rintro _ w2 ⟨rfl, rfl⟩) | (go_at_call 19; refine (ppat_v h2 _).mono ?_; rintro _ w3 ⟨rfl, hB3⟩; have hC3 := hC.drew.below hm hB3; have hm3 := Nat.lt_of_lt_of_le hm hB3.size; have hb3 := (below_drew hb).trans (hB3.mono (below_drew hb).size); obtain ⟨e0, e1, e2, e3, e4, e5⟩ := id hC3) | (go_at_call 20; refine (pnote_v hd0 hd1 h3 _).mono ?_; rintro _ w4 ⟨rfl, hB4⟩; have hC4 := hC3.below hm3 hB4; have hm4 := Nat.lt_of_lt_of_le hm3 hB4.size; have hb4 := hb3.trans (hB4.mono hb3.size); obtain ⟨f0, f1, f2, f3, f4, f5⟩ := id hC4))
            | fail
          all_goals (go_wp2_with fail; go_meet; exact ⟨_, rfl, by rw [hk.out]; rfl, hC4, hb4, hm4⟩)
      · have h1 := q1
        have h2 : patOk n i vc va ef pa = false := by simpa using q2
        have hk0 : okD d n i vc va ef pa = false := by unfold okD; rw [h1, h2]; rfl
        have hk := Lib.hid hk0
        clear hk0 q1 q2
        first
          | go_region_with (first | (go_at_call 18; refine (pis_v h1 _).mono ?_; rintro _ w2 ⟨rfl, rfl⟩) | (go_at_call 19; refine (ppat_v h2 _).mono ?_; rintro _ w3 ⟨rfl, hB3⟩; have hC3 := hC.drew.below hm hB3; have hm3 := Nat.lt_of_lt_of_le hm hB3.size; have hb3 := (below_drew hb).trans (hB3.mono (below_drew hb).size); obtain ⟨e0, e1, e2, e3, e4, e5⟩ := id hC3))
          | fail
        all_goals (go_wp2_with fail; go_meet; exact ⟨_, rfl, by rw [hk.out]; rfl, hC3, hb3, hm3⟩)
    · have h1 : inB d 1 6 = false := by simpa using q1
      have hk0 : okD d n i vc va ef pa = false := by unfold okD; rw [h1]; rfl
      have hk := Lib.hid hk0
      clear hk0 q1
      first
        | go_region_with (first | (go_at_call 18; refine (pis_v h1 _).mono ?_; rintro _ w2 ⟨rfl, rfl⟩))
        | fail
      all_goals (go_wp2_with fail; go_meet; exact ⟨_, rfl, by rw [hk.out]; rfl, hC.drew, (below_drew hb), hm⟩)
  case rest =>
    obtain ⟨bad, rfl, hbad, hC1, hb1, hm1⟩ := hcut
    obtain ⟨c0, c1, c2, c3, c4, c5⟩ := id hC1
    by_cases q : okD d n i vc va ef pa = true
    · have q' : (inB d 1 6 && patOk n i vc va ef pa && noteD d n && decide (vc ≤ cmdsD d)) = true := q
      have hv : validD d n i vc va ef pa = (ef == 0 || hasB (lettersV d).data.toList (letterR ef)) := by unfold validD; rw [q']; rfl
      have hef : 0 ≤ ef ∧ ef ≤ 36 := by
        simp only [Bool.and_eq_true] at q'
        have := q'.1.1.2
        unfold patOk effB inB at this
        simp at this
        omega
      have HV := Lib.hid hv
      obtain rfl : bad = false := by rw [hbad, q]; rfl
      clear hbad
      clear hv q'
      by_cases e0 : ef = 0
      · have e0b : (ef == 0) = true := by simp [e0]
        have HE := Lib.hid e0
        clear e0
        go_wp2
        go_ret
        exact ⟨by rw [HV.out]; simp [e0b], hb1⟩
      · have e0b : (ef == 0) = false := by simp [e0]
        have e1 : 1 ≤ ef := by omega
        have e2 := hef.2
        have hls : (lettersV d).size ≤ maxLen := by
          unfold lettersV; repeat' split
          all_goals decide
        have hib := indexByte_has (lettersV d).data.toList (letterR ef) (by unfold letterR; split <;> omega) (by unfold letterR; split <;> omega)
        have HI := Lib.hid hib
        have hl2 : letterOf ef = letterR ef := rfl
        have HL := Lib.hid hl2
        clear e0 hls hib hl2
        go_wp2
        go_quiet ((first | (go_at_call 16; exact Calls.quiet_of_same (pletters d _)) | (go_at_call 23; exact Calls.quiet_of_same (pletter ef e1 e2 _)) | (go_at_call 22; exact Calls.quiet_of_same (Tryz.strings_IndexByte _ _ _))))
        go_wp2
        go_ret
        refine ⟨?_, ⟨hb1.os, hb1.tape, hb1.output, hb1.size, hb1.block⟩⟩
        rw [HV.out]
        simp only [e0b, Bool.false_or]
        exact congrArg (fun b => Ending.returned (Value.bool b)) HI.out
    · have q1 : okD d n i vc va ef pa = false := by simpa using q
      have hv : validD d n i vc va ef pa = false := by
        have q2 : (inB d 1 6 && patOk n i vc va ef pa && noteD d n && decide (vc ≤ cmdsD d)) = false := q1
        unfold validD; rw [q2]; rfl
      have HV := Lib.hid hv
      obtain rfl : bad = true := by rw [hbad, q1]; rfl
      clear hbad
      clear hv q q1
      go_wp2
      go_ret
      exact ⟨by rw [HV.out]; rfl, hb1⟩
end Go.Proofs.YtappnglfmidjoaaGreat.D
