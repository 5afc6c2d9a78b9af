/- awake. -/
import Derived.Test.YtappnglfmidjoaaGreatLaw0
set_option linter.unusedVariables false
set_option linter.unusedSimpArgs false
namespace Go.Proofs.YtappnglfmidjoaaGreat.D
open Go Go.RowKit Go.Proofs.YtappnglfmidjoaaGreat.DB Go.Great

def aw2 : St := (resL 3 0 0 0 2 5 0 zeros 0 0).1
theorem aw1_ops : (resL 2 0 0 0 14 15 0 zeros 0 0).1.ops = [(12, 0, 15)] := by kernel_rfl
theorem aw1_err : (resL 2 0 0 0 14 15 0 zeros 0 0).2 = 0 := by kernel_rfl
theorem aw2_err : (resL 3 0 0 0 2 5 0 zeros 0 0).2 = 0 := by kernel_rfl
theorem aw3_ops : (resL 3 0 0 0 2 0 0 aw2.slots aw2.eff aw2.par).1.ops = [(2, 5, 0)] := by kernel_rfl
theorem aw3_err : (resL 3 0 0 0 2 0 0 aw2.slots aw2.eff aw2.par).2 = 0 := by kernel_rfl
theorem call1 (w : World) : ∃ ms e p, Calls Tryz.prog 10 #[.int .i64 2, .agg zeroM, .agg (CellV 0 0 0 0 14 15)] w (Out w [(12, 0, 15)] ms e p 0) := by
  have h := pres 2 zeroM zeros 0 0 memV_zero 0 0 0 0 14 15 w
  rw [aw1_ops, aw1_err] at h
  exact ⟨_, _, _, h⟩
theorem call2 (w : World) : ∃ L, Calls Tryz.prog 10 #[.int .i64 3, .agg zeroM, .agg (CellV 0 0 0 0 2 5)] w (Out w L aw2.slots aw2.eff aw2.par 0) := by
  have h := pres 3 zeroM zeros 0 0 memV_zero 0 0 0 0 2 5 w
  rw [aw2_err] at h
  exact ⟨_, h⟩
theorem call3 (mv : Array Value) (hM : MemV mv aw2.slots aw2.eff aw2.par) (w : World) : ∃ ms e p, Calls Tryz.prog 10 #[.int .i64 3, .agg mv, .agg (CellV 0 0 0 0 2 0)] w (Out w [(2, 5, 0)] ms e p 0) := by
  have h := pres 3 mv _ _ _ hM 0 0 0 0 2 0 w
  rw [aw3_ops, aw3_err] at h
  exact ⟨_, _, _, h⟩
theorem own_lit (w : World) (x : Int × Int × Int) : (w.alloc (.cells #[.int .i64 x.1, .int .i64 x.2.1, .int .i64 x.2.2] 50)).ownsRow 0 50 3 (.slice (some ⟨w.heap.size, 0, none⟩) 1 1) [x].length (opvs [x]) :=
  ⟨rfl, .inr ⟨w.heap.size, 1, _, rfl, Nat.zero_le _, heap_alloc_new w _, Nat.le_refl _, by decide, rfl, rfl⟩⟩
theorem same_lit (v : Value) (a b c : Int) (w : World) (h : w.ownsRow 0 50 3 v [(a, b, c)].length (opvs [(a, b, c)])) :
    Calls Tryz.prog 12 #[v, .slice (some ⟨w.heap.size, 0, none⟩) 1 1] (w.alloc (.cells #[.int .i64 a, .int .i64 b, .int .i64 c] 50)) fun e w' => e = .returned (.bool true) ∧ Below w.heap.size w w' := by
  have hal : Below w.heap.size w (w.alloc (.cells #[.int .i64 a, .int .i64 b, .int .i64 c] 50)) := (Below.refl _ _).alloc (Nat.le_refl _) _
  refine (psame v _ [(a, b, c)] [(a, b, c)] _ (own_below h hal) (own_lit w (a, b, c))).mono ?_
  rintro e w' ⟨rfl, hB⟩
  exact ⟨by simp, hal.trans (hB.mono hal.size)⟩
set_option maxRecDepth 100000 in
set_option maxHeartbeats 2000000 in
theorem pawake (w : World) : Calls Tryz.prog 9 #[] w fun e w' => e = .returned (.bool true) ∧ Below w.heap.size w w' := by
  go_enter Tryz.func9, Tryz.ntmps9
  go_upto_region 2 with (first
    | (refine wpList_buildTo rfl 28 _ rfl (some 11) rfl zeroM (by kernel_rfl) ?_)
    | (go_at_call 10; obtain ⟨ms1, e1, p1, hc⟩ := call1 w; refine hc.mono ?_; clear hc; rintro _ w1 ⟨v1, mv1, rfl, hM1, ho1, hB1⟩)
    | (refine wpList_store_rowTo rfl 28 _ _ rfl rfl w1.heap.size mv1 rfl rfl 28 _ (heap_alloc_new w1 _) hM1.info (Eq.trans (b := 26) (by kernel_rfl) hM1.size.symm) hM1.one ?_))
  rw [World.setRow_alloc_new]
  have ha1 : Below w1.heap.size w1 (w1.alloc (.cells mv1 28)) := (Below.refl _ _).alloc (Nat.le_refl _) _
  have ho2 := own_below ho1 ha1
  have hb2 := hB1.trans (ha1.mono hB1.size)
  clear ho1
  generalize w1.alloc (.cells mv1 28) = w2 at ho2 hb2 ⊢
  clear ha1 hB1
  have HO2 := Lib.hid ho2
  clear ho2
  go_upto_region 3 with (first
    | (refine wpList_buildTo rfl 28 _ rfl (some 18) rfl zeroM (by kernel_rfl) ?_)
    | (go_at_call 10; obtain ⟨L3, hc⟩ := call2 w2; refine hc.mono ?_; clear hc; rintro _ w3 ⟨v3, mv3, rfl, hM3, ho3, hB3⟩)
    | (refine wpList_store_rowTo rfl 28 _ _ rfl rfl w3.heap.size mv3 rfl rfl 28 _ (heap_alloc_new w3 _) hM3.info (Eq.trans (b := 26) (by kernel_rfl) hM3.size.symm) hM3.one ?_))
  rw [World.setRow_alloc_new]
  have hx4 := heap_alloc_new w3 (.cells mv3 28)
  have ha3 : Below w3.heap.size w3 (w3.alloc (.cells mv3 28)) := (Below.refl _ _).alloc (Nat.le_refl _) _
  have ho4 := own_below HO2.out (hB3.trans (ha3.mono hB3.size))
  have hb4 := hb2.trans ((hB3.trans (ha3.mono hB3.size)).mono hb2.size)
  clear ho3 HO2
  generalize w3.alloc (.cells mv3 28) = w4 at hx4 ho4 hb4 ⊢
  clear ha3 hB3
  have HO4 := Lib.hid ho4
  have HX4 := Lib.hid hx4
  clear ho4 hx4
  go_upto_region 4 with (first
    | (refine wpList_load_row rfl 28 _ rfl w3.heap.size rfl 28 mv3 (0, 0) _ HX4.out Tryz.underlying28 rfl hM3.info ?_)
    | (go_at_call 10; obtain ⟨ms5, e5, p5, hc⟩ := call3 mv3 hM3 w4; refine hc.mono ?_; clear hc; rintro _ w5 ⟨v5, mv5, rfl, hM5, ho5, hB5⟩)
    | (refine wpList_store_rowTo rfl 28 _ _ rfl rfl w5.heap.size mv5 rfl rfl 28 _ (heap_alloc_new w5 _) hM5.info (Eq.trans (b := 26) (by kernel_rfl) hM5.size.symm) hM5.one ?_))
  rw [World.setRow_alloc_new]
  have ha5 : Below w5.heap.size w5 (w5.alloc (.cells mv5 28)) := (Below.refl _ _).alloc (Nat.le_refl _) _
  have ho6 := own_below HO4.out (hB5.trans (ha5.mono hB5.size))
  have ho7 := own_below ho5 ha5
  have hb6 := hb4.trans ((hB5.trans (ha5.mono hB5.size)).mono hb4.size)
  clear HO4 ho5
  generalize w5.alloc (.cells mv5 28) = w6 at ho6 ho7 hb6 ⊢
  clear ha5 hB5
  have HO6 := Lib.hid (own_base (Nat.zero_le _) ho6)
  have HO7 := Lib.hid (own_base (Nat.zero_le _) ho7)
  clear ho6 ho7
  have hal : Below w6.heap.size w6 (w6.alloc (.cells #[.int .i64 12, .int .i64 0, .int .i64 15] 50)) := (Below.refl _ _).alloc (Nat.le_refl _) _
  have c1 := same_lit v1 12 0 15 w6 HO6.out
  have C1 := Lib.hid c1
  clear c1 hal
  go_wp2_with (first
    | (go_at_call_of 12 v1; refine C1.out.mono ?_; rintro _ w8 ⟨rfl, hB8⟩; have HO8 := Lib.hid (own_below HO7.out hB8); have hb8 := hb6.trans (hB8.mono hb6.size); have C2 := Lib.hid (same_lit v5 2 5 0 w8 HO8.out))
    | (go_at_call_of 12 v5; refine C2.out.mono ?_; rintro _ w9 ⟨rfl, hB9⟩))
  go_ret
  exact ⟨rfl, hb8.trans (hB9.mono hb8.size)⟩
end Go.Proofs.YtappnglfmidjoaaGreat.D
