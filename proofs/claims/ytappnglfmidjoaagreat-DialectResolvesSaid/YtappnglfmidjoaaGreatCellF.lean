/- ValidCell of the reference. -/
import Derived.Test.YtappnglfmidjoaaGreatCellF1
import Derived.Test.YtappnglfmidjoaaGreatCellF2
import Derived.Test.YtappnglfmidjoaaGreatCellF3
import Derived.Test.YtappnglfmidjoaaGreatCellF4
import Derived.Deep.RegionWith
set_option linter.unusedVariables false
set_option linter.unusedSimpArgs false
namespace Go.Proofs.YtappnglfmidjoaaGreat.D
open Go Go.RowKit Go.Proofs.YtappnglfmidjoaaGreat.DB Go.Great

set_option maxRecDepth 100000 in
set_option maxHeartbeats 4000000 in
theorem rvalid_0 (d n i vc va ef pa : Int) (w : World) (hx : inB d 1 6 = false ∨ patOk n i vc va ef pa = false) : Calls Tryz.prog 8 #[.int .i64 d, .agg (CellV n i vc va ef pa)] w fun e w' => e = .returned (.bool (validD d n i vc va ef pa)) ∧ Below w.heap.size w w' := by
  have hC := CellAt.box w n i vc va ef pa
  have hb : Below w.heap.size w (w.alloc (.cells (CellV n i vc va ef pa) 23)) := (Below.refl _ _).alloc (Nat.le_refl _) _
  have hm : w.heap.size < (w.alloc (.cells (CellV n i vc va ef pa) 23)).heap.size := by simp
  go_enter Tryz.func8, Tryz.ntmps8
  go_upto_region 1 with fail
  generalize w.alloc _ = w1 at hC hb hm ⊢
  go_cut [6] (fun s6 wx => s6 = .int .i64 (errQ d) ∧ CellAt wx w.heap.size n i vc va ef pa ∧ Below w.heap.size w wx ∧ w.heap.size < wx.heap.size)
  case first =>
    go_wp2_with (first | (go_at_call 15; refine (rquirks _ _).mono ?_; rintro _ w2 ⟨rfl, hB2⟩) | (refine wpList_store_rowTo rfl 39 _ _ rfl rfl w2.heap.size (quirkV d) rfl rfl 39 _ (heap_alloc_new w2 _) (quirkV_info d) (Eq.trans (b := 29) (by kernel_rfl) (quirkV_size d).symm) (quirkV_one d) ?_))
    have hm2 : w.heap.size < w2.heap.size := Nat.lt_of_lt_of_le hm hB2.size
    have hb2 := hb.trans (hB2.mono hb.size)
    rw [World.setRow_alloc_new]
    have hC3 := (hC.below hm hB2).below hm2 ((Below.refl _ _).alloc (Nat.le_refl _) (.cells (quirkV d) 39))
    have hb3 := hb2.alloc hb2.size (.cells (quirkV d) 39)
    go_meet
    exact ⟨rfl, hC3, hb3, by simp; omega⟩
  case rest =>
    obtain ⟨rfl, hC1, hb1, hm1⟩ := hcut
    obtain ⟨c0, c1, c2, c3, c4, c5⟩ := id hC1
    by_cases q1 : inB d 1 6 = true
    · have he : errQ d = 0 := by simp [errQ, q1]
      rw [he]
      clear he
      have h2 : patOk n i vc va ef pa = false := by simpa [q1] using hx
      have hv : validD d n i vc va ef pa = false := by unfold validD; rw [h2]; simp
      have HV := Lib.hid hv
      clear hv q1 hx
      go_wp2_with (first | (go_at_call 24; refine (rpat_v h2 _).mono ?_; rintro _ w2 ⟨rfl, hB2⟩))
      go_ret
      exact ⟨by rw [HV.out]; rfl, hb1.trans (hB2.mono hb1.size)⟩
    · have h1 : inB d 1 6 = false := by simpa using q1
      have hv : validD d n i vc va ef pa = false := by unfold validD; rw [h1]; rfl
      have he : errQ d = 6 := by simp [errQ, h1]
      have HV := Lib.hid hv
      clear hv q1 hx
      rw [he]
      go_wp2
      go_ret
      exact ⟨by rw [HV.out]; rfl, hb1⟩
theorem rvalidCell (d n i vc va ef pa : Int) (w : World) : Calls Tryz.prog 8 #[.int .i64 d, .agg (CellV n i vc va ef pa)] w fun e w' => e = .returned (.bool (validD d n i vc va ef pa)) ∧ Below w.heap.size w w' := by
  cases q1 : inB d 1 6 with
  | false => exact rvalid_0 d n i vc va ef pa w (.inl q1)
  | true =>
    cases q2 : patOk n i vc va ef pa with
    | false => exact rvalid_0 d n i vc va ef pa w (.inr q2)
    | true =>
      cases q3 : noteD d n with
      | false => exact rvalid_4 d n i vc va ef pa _ w q1 q2 rfl q3
      | true =>
        cases q4 : decide (vc ≤ cmdsD d) with
        | false => exact rvalid_3 d n i vc va ef pa _ w q1 q2 rfl q3 q4
        | true =>
          cases q5 : (ef == 0) with
          | true => exact rvalid_1 d n i vc va ef pa _ w q1 q2 rfl q3 q4 q5
          | false => exact rvalid_2 d n i vc va ef pa _ w q1 q2 rfl q3 q4 q5
end Go.Proofs.YtappnglfmidjoaaGreat.D
