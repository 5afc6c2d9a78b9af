/- ValidCell of the reference. -/
import Derived.Test.YtappnglfmidjoaaGreatCellFa
import Derived.Deep.RegionWith
set_option linter.unusedVariables false
set_option linter.unusedSimpArgs false
namespace Go.Proofs.YtappnglfmidjoaaGreat.D
open Go Go.RowKit Go.Proofs.YtappnglfmidjoaaGreat.DB Go.Great

set_option maxRecDepth 100000 in
set_option maxHeartbeats 4000000 in
theorem rvalid_4 (d n i vc va ef pa k : Int) (w : World) (q1 : inB d 1 6 = true) (q2 : patOk n i vc va ef pa = true) (hk : cmdsD d = k) (h3 : noteD d n = false) : Calls Tryz.prog 8 #[.int .i64 d, .agg (CellV n i vc va ef pa)] w fun e w' => e = .returned (.bool (validD d n i vc va ef pa)) ∧ Below w.heap.size w w' := by
  have hC := CellAt.box w n i vc va ef pa
  have hb : Below w.heap.size w (w.alloc (.cells (CellV n i vc va ef pa) 23)) := (Below.refl _ _).alloc (Nat.le_refl _) _
  have hm : w.heap.size < (w.alloc (.cells (CellV n i vc va ef pa) 23)).heap.size := by simp
  go_enter Tryz.func8, Tryz.ntmps8
  go_upto_region 1 with fail
  generalize w.alloc _ = w1 at hC hb hm ⊢
  go_cut [6] (fun s6 wx => s6 = .int .i64 (errQ d) ∧ CellAt wx w.heap.size n i vc va ef pa ∧ Below w.heap.size w wx ∧ w.heap.size < wx.heap.size)
  case first =>
    go_wp2_with (first | (go_at_call 15; refine (rquirks _ _).mono ?_; rintro _ w2 ⟨rfl, hB2⟩) | (refine wpList_store_rowTo rfl 39 _ _ rfl rfl w2.heap.size (quirkV d) rfl rfl 39 _ (heap_alloc_new w2 _) (quirkV_info d) (Eq.trans (b := 29) (by kernel_rfl) (quirkV_size d).symm) (quirkV_one d) ?_))
    have hm2 : w.heap.size < w2.heap.size := Nat.lt_of_lt_of_le hm hB2.size
    have hb2 := hb.trans (hB2.mono hb.size)
    rw [World.setRow_alloc_new]
    have hC3 := (hC.below hm hB2).below hm2 ((Below.refl _ _).alloc (Nat.le_refl _) (.cells (quirkV d) 39))
    have hb3 := hb2.alloc hb2.size (.cells (quirkV d) 39)
    go_meet
    exact ⟨rfl, hC3, hb3, by simp; omega⟩
  case rest =>
    obtain ⟨rfl, hC1, hb1, hm1⟩ := hcut
    obtain ⟨c0, c1, c2, c3, c4, c5⟩ := id hC1
    have hd : 1 ≤ d ∧ d ≤ 6 := by simpa [inB] using q1
    obtain ⟨hd0, hd1⟩ := hd
    have he : errQ d = 0 := by simp [errQ, q1]
    rw [he]
    clear he
    have hef : 0 ≤ ef ∧ ef ≤ 36 := by
      have := q2
      unfold patOk effB inB at this
      simp at this
      omega
    obtain ⟨ef0, e2⟩ := hef
    have h2 := q2
    go_upto_region 4 with (first | (go_at_call 24; refine (rpat_v h2 _).mono ?_; rintro _ w2 ⟨rfl, hB2⟩))
    have hC2 := hC1.below hm1 hB2
    have hb2 := hb1.trans (hB2.mono hb1.size)
    have hm2 : w.heap.size < w2.heap.size := Nat.lt_of_lt_of_le hm1 hB2.size
    clear hC1 hb1 hm1 hB2 c0 c1 c2 c3 c4 c5
    obtain ⟨c0, -, c2, -, c4, -⟩ := id hC2
    have hm : w.heap.size < w2.heap.size := hm2
    have hv0 : validD d n i vc va ef pa = (noteD d n && decide (vc ≤ cmdsD d) && (ef == 0 || hasB (lettersV d).data.toList (letterR ef))) := by unfold validD; rw [q1, h2]; simp [Bool.and_assoc]
    rw [hk] at hv0
    clear q1 q2
    rw [h3] at hv0
    have HV := Lib.hid hv0
    clear hv0
    have hu0 : undef = Value.tuple #[] := rfl
    first
      | (go_region_with (first | (go_at_call 25; refine (rnote_v hd0 hd1 h3 _).mono ?_; rintro _ w4 ⟨rfl, hB4⟩; have hC4 := hC2.drew.below hm hB4; have hb4 := (below_drew hb2).trans (hB4.mono (below_drew hb2).size); obtain ⟨f0, f1, f2, f3, f4, f5⟩ := id hC4)))
      | fail
    all_goals (go_wp2_with fail)
    all_goals (go_ret; refine ⟨?_, by first | exact hb4 | (subst_vars; exact hb4)⟩; rw [HV.out]; rfl)
end Go.Proofs.YtappnglfmidjoaaGreat.D
