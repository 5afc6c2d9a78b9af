/- Quirks, Letters, the notes and the volume commands, of both sides. -/
import Derived.Test.YtappnglfmidjoaaGreatCellB
import Derived.Laws.ResultCell
set_option linter.unusedVariables false
set_option linter.unusedSimpArgs false
namespace Go.Proofs.YtappnglfmidjoaaGreat.D
open Go Go.RowKit Go.Proofs.YtappnglfmidjoaaGreat.DB Go.Great

theorem results_row_tmp {P : Program} {fn : Func} {p u : Tmp} {ty : TypeId} (h : fn.results = #[.cell p ty, .tmp u]) (tmps : Array Value) (w : World) (g : Nat) (t : TypeId) (cs : Array Value) (fr : Nat × Nat) (d : TypeDesc)
    (hp : tmps.getD p undef = .pointer (some ⟨g, 0, none⟩)) (hg : w.heap[g]? = some (.cells cs t fr))
    (hu : P.underlying ty = some d) (hd : (match d with | .struct _ | .array _ _ => true | _ => false) = true) (hi : (P.info? ty).map (·.size) = some cs.size) (v : Value) (hv : tmps.getD u undef = v) :
    (results fn tmps).run P w = .ok (.tuple #[.agg cs, v]) w := by
  rw [results_cell_tmp h, hp]
  simp only [asAddr, Sem.run_pure, Result.andThen_ok, run_loadVar_row w g t ty cs fr d hg hu hd hi, hv]
def lowQ (d : Int) : Int := if d = 1 then 49 else if d = 2 then 13 else if d = 3 then 1 else if d = 4 then 1 else if d = 5 then 13 else if d = 6 then 13 else 0
def highQ (d : Int) : Int := if d = 1 then 84 else if d = 2 then 108 else if d = 3 then 96 else if d = 4 then 120 else if d = 5 then 72 else if d = 6 then 108 else 0
theorem quirkV_size (d : Int) : (quirkV d).size = 29 := by
  unfold quirkV; repeat' split
  all_goals rfl
theorem quirkV_low (d : Int) : (quirkV d)[4]? = some (.int .i64 (lowQ d)) := by
  unfold quirkV lowQ; repeat' split
  all_goals rfl
theorem quirkV_high (d : Int) : (quirkV d)[5]? = some (.int .i64 (highQ d)) := by
  unfold quirkV highQ; repeat' split
  all_goals rfl
theorem quirkV_one (d : Int) : (quirkV d).all (·.oneCell') = true := by
  unfold quirkV; repeat' split
  all_goals kernel_rfl
theorem quirkV_info (d : Int) : (Tryz.prog.info? 39).map (·.size) = some (quirkV d).size := by rw [quirkV_size]; exact info39
theorem quirk_ix (d : Int) (h0 : 1 ≤ d) (h1 : d ≤ 6) (w : World) : (Instr.index 62 (.agg tabV) (.int .i64 d)).run Tryz.prog w = .ok (.agg (quirkV d)) w := by
  rcases (by omega : d = 1 ∨ d = 2 ∨ d = 3 ∨ d = 4 ∨ d = 5 ∨ d = 6) with rfl | rfl | rfl | rfl | rfl | rfl <;> kernel_rfl
def errQ (d : Int) : Int := if inB d 1 6 = true then 0 else 6
set_option maxRecDepth 100000 in
set_option maxHeartbeats 2000000 in
theorem pquirks (d : Int) (w : World) : Calls Tryz.prog 14 #[.int .i64 d] w fun e w' => e = .returned (.tuple #[.agg (quirkV d), .int .i64 (errQ d)]) ∧ Below w.heap.size w w' := by
  by_cases q : inB d 1 6 = true
  · have h01 : 1 ≤ d ∧ d ≤ 6 := by simpa [inB] using q
    have hix := quirk_ix d h01.1 h01.2
    have he : errQ d = 0 := by simp [errQ, q]
    rw [he]
    clear he
    go_enter Tryz.func14, Tryz.ntmps14
    go_upto_region 1 with fail
    refine forget_row _ _ 29 (by kernel_rfl) ?_
    intro w1 old hold hx hb
    have HX := Lib.hid hx
    clear hx
    have HB := Lib.hid hb
    have hsz := hb.size
    clear hb
    go_wp2_with (first | (go_at_call 18; refine (pis _ _).mono ?_; rintro _ w2 ⟨rfl, rfl⟩) | (go_at_call 34; refine (ptable _).mono ?_; rintro _ w3 ⟨rfl, hB3⟩; have HX3 := Lib.hid ((hB3.block _ (by have := HX.out; exact (Array.getElem?_eq_some_iff.1 this).1)).trans HX.out); have HB3 := Lib.hid (HB.out.trans (hB3.mono hsz)); clear hB3) | (refine wpList_store_rowTo rfl 39 _ _ rfl rfl w.heap.size (quirkV d) rfl rfl 39 _ HX3.out (by first | exact quirkV_info _ | kernel_rfl) (hold.trans (quirkV_size d).symm) (by first | exact quirkV_one _ | kernel_rfl) ?_))
    refine bodyPost_ret (results_row_tmp Tryz.results14 _ _ w.heap.size 39 (quirkV d) (0, 0) _ rfl (setRow_heap _ _ _ _ _ _ HX3.out) Tryz.underlying39 rfl (quirkV_info d) _ rfl) rfl ⟨rfl, below_setRow HB3.out (Nat.le_refl _) _⟩
  · have he : errQ d = 6 := by simp [errQ, q]
    have h01 : ¬ (1 ≤ d ∧ d ≤ 6) := by simpa [inB] using q
    have hq : quirkV d = qv0 := by unfold quirkV; repeat' (first | rfl | (rw [if_neg (by omega)]))
    rw [he, hq]
    clear he hq
    go_enter Tryz.func14, Tryz.ntmps14
    go_upto_region 1 with fail
    refine forget_row _ _ 29 (by kernel_rfl) ?_
    intro w1 old hold hx hb
    have HX := Lib.hid hx
    clear hx
    go_wp2_with (first | (go_at_call 18; refine (pis _ _).mono ?_; rintro _ w2 ⟨rfl, rfl⟩) | (refine wpList_buildTo rfl 39 _ rfl (some 7) rfl qv0 (by kernel_rfl) ?_) | (refine wpList_store_rowTo rfl 39 _ _ rfl rfl w.heap.size qv0 rfl rfl 39 _ HX.out (by first | exact quirkV_info _ | kernel_rfl) (hold.trans (by kernel_rfl)) (by first | exact quirkV_one _ | kernel_rfl) ?_))
    refine bodyPost_ret (results_row_tmp Tryz.results14 _ _ w.heap.size 39 qv0 (0, 0) _ rfl (setRow_heap _ _ _ _ _ _ HX.out) Tryz.underlying39 rfl (by kernel_rfl) _ rfl) rfl ⟨rfl, below_setRow hb (Nat.le_refl _) _⟩
set_option maxRecDepth 100000 in
set_option maxHeartbeats 2000000 in
theorem rquirks0 (d : Int) (h : ¬ (1 ≤ d ∧ d ≤ 6)) (w : World) : Calls Tryz.prog 15 #[.int .i64 d] w fun e w' => e = .returned (.tuple #[.agg qv0, .int .i64 6]) ∧ Below w.heap.size w w' := by
  have t1 : (d == 1) = false := by simp; omega
  have t2 : (d == 2) = false := by simp; omega
  have t3 : (d == 3) = false := by simp; omega
  have t4 : (d == 4) = false := by simp; omega
  have t5 : (d == 5) = false := by simp; omega
  have t6 : (d == 6) = false := by simp; omega
  go_enter Tryz.func15, Tryz.ntmps15
  go_upto_region 1 with fail
  refine forget_row _ _ 29 (by kernel_rfl) ?_
  intro w1 old hold hx hb
  have HX := Lib.hid hx
  clear hx
  go_wp2_with (first | (refine wpList_buildTo rfl 39 _ rfl (some 23) rfl qv0 (by kernel_rfl) ?_) | (refine wpList_store_rowTo rfl 39 _ _ rfl rfl w.heap.size qv0 rfl rfl 39 _ HX.out (by first | exact quirkV_info _ | kernel_rfl) (hold.trans (by kernel_rfl)) (by first | exact quirkV_one _ | kernel_rfl) ?_))
  refine bodyPost_ret (results_row_tmp Tryz.results15 _ _ w.heap.size 39 qv0 (0, 0) _ rfl (setRow_heap _ _ _ _ _ _ HX.out) Tryz.underlying39 rfl (by kernel_rfl) _ rfl) rfl ⟨rfl, below_setRow hb (Nat.le_refl _) _⟩
set_option maxRecDepth 100000 in
set_option maxHeartbeats 2000000 in
theorem rquirks1 (w : World) : Calls Tryz.prog 15 #[.int .i64 1] w fun e w' => e = .returned (.tuple #[.agg qv1, .int .i64 0]) ∧ Below w.heap.size w w' := by
  go_enter Tryz.func15, Tryz.ntmps15
  go_upto_region 1 with fail
  refine forget_row _ _ 29 (by kernel_rfl) ?_
  intro w1 old hold hx hb
  have HX := Lib.hid hx
  clear hx
  go_wp2_with (first | (refine wpList_buildTo rfl 39 _ rfl (some 7) rfl qv1 (by kernel_rfl) ?_) | (refine wpList_store_rowTo rfl 39 _ _ rfl rfl w.heap.size qv1 rfl rfl 39 _ HX.out (by first | exact quirkV_info _ | kernel_rfl) (hold.trans (by kernel_rfl)) (by first | exact quirkV_one _ | kernel_rfl) ?_))
  refine bodyPost_ret (results_row_tmp Tryz.results15 _ _ w.heap.size 39 qv1 (0, 0) _ rfl (setRow_heap _ _ _ _ _ _ HX.out) Tryz.underlying39 rfl (by kernel_rfl) _ rfl) rfl ⟨rfl, below_setRow hb (Nat.le_refl _) _⟩
set_option maxRecDepth 100000 in
set_option maxHeartbeats 2000000 in
theorem rquirks2 (w : World) : Calls Tryz.prog 15 #[.int .i64 2] w fun e w' => e = .returned (.tuple #[.agg qv2, .int .i64 0]) ∧ Below w.heap.size w w' := by
  go_enter Tryz.func15, Tryz.ntmps15
  go_upto_region 1 with fail
  refine forget_row _ _ 29 (by kernel_rfl) ?_
  intro w1 old hold hx hb
  have HX := Lib.hid hx
  clear hx
  go_wp2_with (first | (refine wpList_buildTo rfl 39 _ rfl (some 10) rfl qv2 (by kernel_rfl) ?_) | (refine wpList_store_rowTo rfl 39 _ _ rfl rfl w.heap.size qv2 rfl rfl 39 _ HX.out (by first | exact quirkV_info _ | kernel_rfl) (hold.trans (by kernel_rfl)) (by first | exact quirkV_one _ | kernel_rfl) ?_))
  refine bodyPost_ret (results_row_tmp Tryz.results15 _ _ w.heap.size 39 qv2 (0, 0) _ rfl (setRow_heap _ _ _ _ _ _ HX.out) Tryz.underlying39 rfl (by kernel_rfl) _ rfl) rfl ⟨rfl, below_setRow hb (Nat.le_refl _) _⟩
set_option maxRecDepth 100000 in
set_option maxHeartbeats 2000000 in
theorem rquirks3 (w : World) : Calls Tryz.prog 15 #[.int .i64 3] w fun e w' => e = .returned (.tuple #[.agg qv3, .int .i64 0]) ∧ Below w.heap.size w w' := by
  go_enter Tryz.func15, Tryz.ntmps15
  go_upto_region 1 with fail
  refine forget_row _ _ 29 (by kernel_rfl) ?_
  intro w1 old hold hx hb
  have HX := Lib.hid hx
  clear hx
  go_wp2_with (first | (refine wpList_buildTo rfl 39 _ rfl (some 13) rfl qv3 (by kernel_rfl) ?_) | (refine wpList_store_rowTo rfl 39 _ _ rfl rfl w.heap.size qv3 rfl rfl 39 _ HX.out (by first | exact quirkV_info _ | kernel_rfl) (hold.trans (by kernel_rfl)) (by first | exact quirkV_one _ | kernel_rfl) ?_))
  refine bodyPost_ret (results_row_tmp Tryz.results15 _ _ w.heap.size 39 qv3 (0, 0) _ rfl (setRow_heap _ _ _ _ _ _ HX.out) Tryz.underlying39 rfl (by kernel_rfl) _ rfl) rfl ⟨rfl, below_setRow hb (Nat.le_refl _) _⟩
set_option maxRecDepth 100000 in
set_option maxHeartbeats 2000000 in
theorem rquirks4 (w : World) : Calls Tryz.prog 15 #[.int .i64 4] w fun e w' => e = .returned (.tuple #[.agg qv4, .int .i64 0]) ∧ Below w.heap.size w w' := by
  go_enter Tryz.func15, Tryz.ntmps15
  go_upto_region 1 with fail
  refine forget_row _ _ 29 (by kernel_rfl) ?_
  intro w1 old hold hx hb
  have HX := Lib.hid hx
  clear hx
  go_wp2_with (first | (refine wpList_buildTo rfl 39 _ rfl (some 16) rfl qv4 (by kernel_rfl) ?_) | (refine wpList_store_rowTo rfl 39 _ _ rfl rfl w.heap.size qv4 rfl rfl 39 _ HX.out (by first | exact quirkV_info _ | kernel_rfl) (hold.trans (by kernel_rfl)) (by first | exact quirkV_one _ | kernel_rfl) ?_))
  refine bodyPost_ret (results_row_tmp Tryz.results15 _ _ w.heap.size 39 qv4 (0, 0) _ rfl (setRow_heap _ _ _ _ _ _ HX.out) Tryz.underlying39 rfl (by kernel_rfl) _ rfl) rfl ⟨rfl, below_setRow hb (Nat.le_refl _) _⟩
set_option maxRecDepth 100000 in
set_option maxHeartbeats 2000000 in
theorem rquirks5 (w : World) : Calls Tryz.prog 15 #[.int .i64 5] w fun e w' => e = .returned (.tuple #[.agg qv5, .int .i64 0]) ∧ Below w.heap.size w w' := by
  go_enter Tryz.func15, Tryz.ntmps15
  go_upto_region 1 with fail
  refine forget_row _ _ 29 (by kernel_rfl) ?_
  intro w1 old hold hx hb
  have HX := Lib.hid hx
  clear hx
  go_wp2_with (first | (refine wpList_buildTo rfl 39 _ rfl (some 19) rfl qv5 (by kernel_rfl) ?_) | (refine wpList_store_rowTo rfl 39 _ _ rfl rfl w.heap.size qv5 rfl rfl 39 _ HX.out (by first | exact quirkV_info _ | kernel_rfl) (hold.trans (by kernel_rfl)) (by first | exact quirkV_one _ | kernel_rfl) ?_))
  refine bodyPost_ret (results_row_tmp Tryz.results15 _ _ w.heap.size 39 qv5 (0, 0) _ rfl (setRow_heap _ _ _ _ _ _ HX.out) Tryz.underlying39 rfl (by kernel_rfl) _ rfl) rfl ⟨rfl, below_setRow hb (Nat.le_refl _) _⟩
set_option maxRecDepth 100000 in
set_option maxHeartbeats 2000000 in
theorem rquirks6 (w : World) : Calls Tryz.prog 15 #[.int .i64 6] w fun e w' => e = .returned (.tuple #[.agg qv6, .int .i64 0]) ∧ Below w.heap.size w w' := by
  go_enter Tryz.func15, Tryz.ntmps15
  go_upto_region 1 with fail
  refine forget_row _ _ 29 (by kernel_rfl) ?_
  intro w1 old hold hx hb
  have HX := Lib.hid hx
  clear hx
  go_wp2_with (first | (refine wpList_buildTo rfl 39 _ rfl (some 22) rfl qv6 (by kernel_rfl) ?_) | (refine wpList_store_rowTo rfl 39 _ _ rfl rfl w.heap.size qv6 rfl rfl 39 _ HX.out (by first | exact quirkV_info _ | kernel_rfl) (hold.trans (by kernel_rfl)) (by first | exact quirkV_one _ | kernel_rfl) ?_))
  refine bodyPost_ret (results_row_tmp Tryz.results15 _ _ w.heap.size 39 qv6 (0, 0) _ rfl (setRow_heap _ _ _ _ _ _ HX.out) Tryz.underlying39 rfl (by kernel_rfl) _ rfl) rfl ⟨rfl, below_setRow hb (Nat.le_refl _) _⟩
theorem rquirks (d : Int) (w : World) : Calls Tryz.prog 15 #[.int .i64 d] w fun e w' => e = .returned (.tuple #[.agg (quirkV d), .int .i64 (errQ d)]) ∧ Below w.heap.size w w' := by
  by_cases q : 1 ≤ d ∧ d ≤ 6
  · rcases (by omega : d = 1 ∨ d = 2 ∨ d = 3 ∨ d = 4 ∨ d = 5 ∨ d = 6) with rfl | rfl | rfl | rfl | rfl | rfl
    · exact rquirks1 w
    · exact rquirks2 w
    · exact rquirks3 w
    · exact rquirks4 w
    · exact rquirks5 w
    · exact rquirks6 w
  · have he : errQ d = 6 := by simp [errQ, inB, q]
    have hq : quirkV d = qv0 := by unfold quirkV; repeat' (first | rfl | (rw [if_neg (by omega)]))
    rw [he, hq]
    exact rquirks0 d q w
end Go.Proofs.YtappnglfmidjoaaGreat.D
