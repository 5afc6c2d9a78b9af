/- Resolve of the program, at its own entry; the dialects' tables are the same. -/
import Derived.Test.YtappnglfmidjoaaGreatRes
set_option linter.unusedVariables false
set_option linter.unusedSimpArgs false
namespace Go.Proofs.YtappnglfmidjoaaGreat.D
open Go Go.RowKit Go.Proofs.YtappnglfmidjoaaGreat.DB Go.Great

set_option maxRecDepth 100000 in
set_option maxHeartbeats 2000000 in
theorem pres_of (d : Int) (mv : Array Value) (ms : List Int) (e p : Int) (hM : MemV mv ms e p) (n i vc va ef pa : Int) (w : World) (L : List (Int × Int × Int)) (ms2 : List Int) (e2 p2 err : Int)
    (h : ∀ w, Calls Tryz.prog 29 #[.agg #[.int .i64 d, .map none], .agg mv, .agg (CellV n i vc va ef pa)] w (Out w L ms2 e2 p2 err)) :
    Calls Tryz.prog 10 #[.int .i64 d, .agg mv, .agg (CellV n i vc va ef pa)] w (Out w L ms2 e2 p2 err) := by
  have Hh := Lib.hid h
  clear h
  go_enter Tryz.func10, Tryz.ntmps10
  go_upto_region 1 with fail
  refine forget3 _ _ 26 (by kernel_rfl) ?_
  intro w1 old hold hA hB hC hb
  have HA := Lib.hid hA
  have HB := Lib.hid hB
  have HC := Lib.hid hC
  have HO := Lib.hid (hold : old.size = 26)
  clear hA hB hC hold
  go_upto_region 2 with fail
  have hal : Below w1.heap.size w1 (w1.alloc (.cells #[.int .i64 d, .map none] 53)) := (Below.refl _ _).alloc (Nat.le_refl _) _
  have HA2 := Lib.hid (blk_below HA.out hal)
  have HB2 := Lib.hid (blk_below HB.out hal)
  have HC2 := Lib.hid (blk_below HC.out hal)
  have HE2 := Lib.hid (heap_alloc_new w1 (.cells #[.int .i64 d, .map none] 53))
  have hb2 := hb.trans (hal.mono hb.size)
  have hbs := hb.size
  clear HA HB HC hal hb
  generalize w1.alloc (.cells #[.int .i64 d, .map none] 53) = w2 at HA2 HB2 HC2 HE2 hb2 ⊢
  have hs2 := hb2.size
  go_wp2_with (first
    | (refine wpList_load_row rfl 53 _ rfl w1.heap.size rfl 53 #[.int .i64 d, .map none] (0, 0) _ HE2.out Tryz.underlying53 rfl info53 ?_)
    | (refine wpList_load_row rfl 28 _ rfl w.heap.size rfl 28 mv (0, 0) _ HA2.out Tryz.underlying28 rfl hM.info ?_)
    | (refine wpList_load_row rfl 23 _ rfl (w.heap.size + 1) rfl 23 (CellV n i vc va ef pa) (0, 0) _ HB2.out Tryz.underlying23 rfl info23 ?_)
    | (go_at_call 29; refine (Hh.out _).mono ?_; rintro _ w3 ⟨v, mv3, rfl, hM3, ho3, hB3⟩; have HC3 := Lib.hid (blk_below HC2.out hB3); have HO3 := Lib.hid ho3; have HM3 := Lib.hid hM3; have hb3 := hb2.trans (hB3.mono hb2.size); clear ho3 hM3)
    | (refine wpList_store_rowTo rfl 28 _ _ rfl rfl (w.heap.size + 1 + 1) mv3 rfl rfl 28 _ HC3.out HM3.out.info (HO.out.trans HM3.out.size.symm) HM3.out.one ?_))
  refine bodyPost_ret (results_tmp_row_tmp Tryz.results10 _ _ (w.heap.size + 1 + 1) 28 mv3 (0, 0) _ rfl (setRow_heap _ _ _ _ _ _ HC3.out) Tryz.underlying28 rfl HM3.out.info _ _ rfl rfl) rfl ⟨_, _, rfl, HM3.out, own_setRow (by decide) HC3.out (own_base hs2 HO3.out) _, below_setRow hb3 (by omega) _⟩
/-- What Resolve comes to. -/
def resL (d n vc va ef pa : Int) (i : Int) (ms : List Int) (e p : Int) : St × Int :=
  if inB d 1 6 = false then (St.mem zeros 0 0, 6) else if memOk ms e p = true ∧ validD d n i vc va ef pa = true then (outS d n vc va ef pa ms e p, 0) else (St.mem zeros 0 0, 1)
theorem pres (d : Int) (mv : Array Value) (ms : List Int) (e p : Int) (hM : MemV mv ms e p) (n i vc va ef pa : Int) (w : World) :
    Calls Tryz.prog 10 #[.int .i64 d, .agg mv, .agg (CellV n i vc va ef pa)] w (Out w (resL d n vc va ef pa i ms e p).1.ops (resL d n vc va ef pa i ms e p).1.slots (resL d n vc va ef pa i ms e p).1.eff (resL d n vc va ef pa i ms e p).1.par (resL d n vc va ef pa i ms e p).2) := by
  refine pres_of d mv ms e p hM n i vc va ef pa w _ _ _ _ _ (fun w => ?_)
  cases q : inB d 1 6 with
  | false => simp only [resL, q, if_true]; exact ptres_a d q mv ms e p hM n i vc va ef pa w
  | true =>
    cases q2 : memOk ms e p with
    | false => simp only [resL, q, q2, if_false, reduceCtorEq, false_and]; exact ptres_b d q mv ms e p hM n i vc va ef pa q2 w
    | true =>
      cases q3 : validD d n i vc va ef pa with
      | false => simp only [resL, q, q2, q3, if_false, reduceCtorEq, and_false]; exact ptres_c d q mv ms e p hM n i vc va ef pa q2 q3 w
      | true => simp only [resL, q, q2, q3, if_false, if_true, reduceCtorEq, and_self]; exact ptres_d d q mv ms e p hM n i vc va ef pa q2 q3 w
end Go.Proofs.YtappnglfmidjoaaGreat.D
