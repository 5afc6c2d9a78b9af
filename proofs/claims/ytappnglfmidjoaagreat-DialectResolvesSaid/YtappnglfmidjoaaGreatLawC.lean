/- DialectCells returns true. -/
import Derived.Test.YtappnglfmidjoaaGreatAwake
import Derived.Test.YtappnglfmidjoaaGreatCellF
set_option linter.unusedVariables false
set_option linter.unusedSimpArgs false
namespace Go.Proofs.YtappnglfmidjoaaGreat.D
open Go Go.RowKit Go.Proofs.YtappnglfmidjoaaGreat.DB Go.Great

theorem rvalid_v {d n i vc va ef pa : Int} {b : Bool} (h : validD d n i vc va ef pa = b) (w : World) : Calls Tryz.prog 8 #[.int .i64 d, .agg (CellV n i vc va ef pa)] w fun e w' => e = .returned (.bool b) ∧ Below w.heap.size w w' := h ▸ rvalidCell d n i vc va ef pa w
set_option maxRecDepth 100000 in
set_option maxHeartbeats 4000000 in
theorem cells_any (d n i vc va ef pa : Int) (b : Bool) (h : validD d n i vc va ef pa = b) (w : World) : Calls Tryz.prog 3 #[.int .i64 d, .agg (CellV n i vc va ef pa)] w fun e w' => e = .returned (.bool true) ∧ Below w.heap.size w w' := by
  have hC := CellAt.box w n i vc va ef pa
  have hb : Below w.heap.size w (w.alloc (.cells (CellV n i vc va ef pa) 23)) := (Below.refl _ _).alloc (Nat.le_refl _) _
  have hm : w.heap.size < (w.alloc (.cells (CellV n i vc va ef pa) 23)).heap.size := by simp
  go_enter Tryz.func3, Tryz.ntmps3
  go_upto_region 1 with fail
  generalize w.alloc _ = w1 at hC hb hm ⊢
  obtain ⟨c0, c1, c2, c3, c4, c5⟩ := id hC
  first
    | (go_region_with (first
        | (go_at_call 7; refine (pvalid_v h _).mono ?_; rintro _ w3 ⟨rfl, hB3⟩; have hC3 := hC.drew.below hm hB3; have hm3 := Nat.lt_of_lt_of_le hm hB3.size; have hb3 := (below_drew hb).trans (hB3.mono (below_drew hb).size); obtain ⟨e0, e1, e2, e3, e4, e5⟩ := id hC3)
        | (go_at_call 8; refine (rvalid_v h _).mono ?_; rintro _ w4 ⟨rfl, hB4⟩; have hb4 := hb3.trans (hB4.mono hb3.size))
        | (go_at_call 9; refine (pawake _).mono ?_; rintro _ w5 ⟨rfl, hB5⟩; have hb5 := hb4.trans (hB5.mono hb4.size))))
    | fail
  all_goals (go_wp2_with fail)
  all_goals (go_ret; exact ⟨rfl, hb5⟩)
theorem cells (d n i vc va ef pa : Int) (w : World) : Calls Tryz.prog 3 #[.int .i64 d, .agg (CellV n i vc va ef pa)] w fun e w' => e = .returned (.bool true) ∧ Below w.heap.size w w' := cells_any d n i vc va ef pa _ rfl w
end Go.Proofs.YtappnglfmidjoaaGreat.D
