/- DialectRecalls returns true. -/
import Derived.Test.YtappnglfmidjoaaGreatWhole
import Derived.Test.YtappnglfmidjoaaGreatOpen
import Derived.Test.YtappnglfmidjoaaGreatLawT
set_option linter.unusedVariables false
set_option linter.unusedSimpArgs false
namespace Go.Proofs.YtappnglfmidjoaaGreat.D
open Go Go.RowKit Go.Proofs.YtappnglfmidjoaaGreat.DB Go.Great

theorem lawWhole_v {d ef : Int} {b : Bool} (d0 : 1 ≤ d) (d1 : d ≤ 6) (e0 : 0 ≤ ef) (e1 : ef ≤ 36) (h : wholeB d ef = b) (w : World) : Calls Tryz.prog 13 #[.int .i64 d, .int .i64 ef] w fun e w' => e = .returned (.bool b) ∧ w = w' := h ▸ lawWhole d ef w d0 d1 e0 e1
theorem forget2 {P : Program} {c : Code} {Q : Exit → Act → World → Prop} {a : Act} {w : World} {A B : Obj}
    (h : ∀ (w1 : World), w1.heap[w.heap.size]? = some A → w1.heap[w.heap.size + 1]? = some B → Below w.heap.size w w1 → w1.heap.size = w.heap.size + 1 + 1 → c.wp P Q a w1) : c.wp P Q a ((w.alloc A).alloc B) := by
  have s1 : (w.alloc A).heap.size = w.heap.size + 1 := World.size_alloc _ _
  have h0 := heap_alloc_new w A
  have h1 := heap_alloc_new (w.alloc A) B
  rw [s1] at h1
  refine h _ ?_ h1 (((Below.refl _ _).alloc (Nat.le_refl _) _).alloc (by omega) _) (by rw [World.size_alloc, s1])
  rw [Below.heap_alloc _ _ _ (by omega)]; exact h0
theorem pres_v {d n vc va ef pa i : Int} {mv : Array Value} {ms : List Int} {e p : Int} {R : St} {k : Int} (hR : resL d n vc va ef pa i ms e p = (R, k)) (hM : MemV mv ms e p) (w : World) :
    Calls Tryz.prog 10 #[.int .i64 d, .agg mv, .agg (CellV n i vc va ef pa)] w (Out w R.ops R.slots R.eff R.par k) := by
  have h := pres d mv ms e p hM n i vc va ef pa w
  rw [hR] at h
  exact h
theorem wpList_buildTo_g {P : Program} {ops : Array Oper} {rest : List Oper} {o : Oper} {a : Act} {w : World} {Q : Exit → Act → World → Prop} (hw : Region.wanted o (yielded ops a.tmps) = true) (t : TypeId) (parts : Array (Nat × Operand)) (ho : o.op = .build t parts)
    (d : Option Tmp) (hd : o.dst = d) (cells : Array Value) (hf : P.built t (parts.map fun (i, x) => (i, a.eval x)).toList = some cells)
    (h : wpList P ops Q rest (a.put d (.agg cells)) w) : wpList P ops Q (o :: rest) a w := by
  subst hd
  refine wpList_step (fun K hK => ?_)
  rw [if_pos hw]
  refine wp_build t parts ho (by rw [hf]; rfl) ?_
  rw [hf]
  exact hK _ _ h
theorem own_far {q base b T : Nat} {w : World} {cs0 : Array Value} {v : Value} {n : Nat} {xs : List Value} (ho : w.ownsRow base q 3 v n xs) (hc : w.heap[b]? = some (.cells cs0 T (0, 0))) (hT : T ≠ q) (o : Nat) (u : Value) : (w.setCell ⟨b, o, none⟩ u).ownsRow base q 3 v n xs := by
  obtain ⟨o1, o2⟩ := ho
  refine ⟨o1, ?_⟩
  rcases o2 with o2 | ⟨g, cap, cur, rfl, hg, hh, r⟩
  · exact .inl o2
  · refine .inr ⟨g, cap, cur, rfl, hg, (Below.heap_setCell _ _ _ _ ?_).trans hh, r⟩
    show g ≠ b
    rintro rfl
    rw [hc] at hh
    injection hh with hh
    injection hh with _ hh _
    exact hT hh
theorem same_self {va vb : Value} {L : List (Int × Int × Int)} {w : World} (ha : w.ownsRow 0 50 3 va L.length (opvs L)) (hb : w.ownsRow 0 50 3 vb L.length (opvs L)) :
    Calls Tryz.prog 12 #[va, vb] w fun e w' => e = .returned (.bool true) ∧ Below w.heap.size w w' :=
  (psame va vb L L w ha hb).mono fun _ _ ⟨h1, h2⟩ => ⟨by rw [h1]; simp, h2⟩
theorem own_nil {base : Nat} {w : World} {v : Value} (h : w.ownsRow base 50 3 v ([] : List (Int × Int × Int)).length (opvs [])) : ∃ a cap, v = .slice a 0 cap := by
  obtain ⟨a, n, cap, rfl, hn, _⟩ := own_cells h
  exact ⟨a, cap, by rw [hn]; rfl⟩
set_option maxRecDepth 100000 in
set_option maxHeartbeats 4000000 in
theorem recalls_a (d : Int) (mv : Array Value) (ms : List Int) (e p : Int) (hM : MemV mv ms e p) (n i vc va ef pa : Int) (w : World) (R : St) (k : Int) (hR : resL d n 0 0 ef pa i ms e p = (R, k)) (hk : (k != 0) = true) (hz : R = St.mem zeros 0 0) : Calls Tryz.prog 5 #[.int .i64 d, .agg mv, .agg (CellV n i vc va ef pa)] w fun e w' => e = .returned (.bool true) ∧ Below w.heap.size w w' := by
  subst hz
  have HR := Lib.hid hR
  clear hR
  go_enter Tryz.func5, Tryz.ntmps5
  go_upto_region 1 with fail
  refine forget2 ?_
  intro w1 hA hB hb hs
  have fB2 := frozen_of hB 2
  have fB3 := frozen_of hB 3
  have c2 := (cell_of hB 2).trans rfl
  have c3 := (cell_of hB 3).trans rfl
  have HA := Lib.hid hA
  have HB := Lib.hid hB
  clear hA hB
  go_upto_region 2 with fail
  have hB2 := DB.heap_setCell_same _ _ 3 (.int .i64 0) (DB.heap_setCell_same w1 (w.heap.size + 1) 2 (.int .i64 0) HB.out)
  have hA2 := ((Below.heap_setCell (w1.setCell ⟨w.heap.size + 1, 2, none⟩ (.int .i64 0)) ⟨w.heap.size + 1, 3, none⟩ (.int .i64 0) w.heap.size (by show w.heap.size ≠ w.heap.size + 1; omega)).trans (Below.heap_setCell w1 ⟨w.heap.size + 1, 2, none⟩ (.int .i64 0) w.heap.size (by show w.heap.size ≠ w.heap.size + 1; omega))).trans HA.out
  have hb2 := (hb.setCell (p := ⟨w.heap.size + 1, 2, none⟩) (by show w.heap.size ≤ w.heap.size + 1; omega) (.int .i64 0)).setCell (p := ⟨w.heap.size + 1, 3, none⟩) (by show w.heap.size ≤ w.heap.size + 1; omega) (.int .i64 0)
  clear fB2 fB3 c2 c3 HA HB hb
  generalize (w1.setCell ⟨w.heap.size + 1, 2, none⟩ (.int .i64 0)).setCell ⟨w.heap.size + 1, 3, none⟩ (.int .i64 0) = w2 at hA2 hB2 hb2 ⊢
  replace hB2 : w2.heap[w.heap.size + 1]? = some (.cells (CellV n i 0 0 ef pa) 23 (0, 0)) := hB2
  have HA2 := Lib.hid hA2
  have HB2 := Lib.hid hB2
  clear hA2 hB2
  go_upto_region 3 with (first
    | (refine wpList_load_row rfl 28 _ rfl w.heap.size rfl 28 mv (0, 0) _ HA2.out Tryz.underlying28 rfl hM.info ?_)
    | (refine wpList_load_row rfl 23 _ rfl (w.heap.size + 1) rfl 23 (CellV n i 0 0 ef pa) (0, 0) _ HB2.out Tryz.underlying23 rfl info23 ?_)
    | (go_at_call 10; refine (pres_v HR.out hM _).mono ?_; rintro _ w3 ⟨v, mv1, rfl, hM1, ho1, hB3⟩)
    | (refine wpList_store_rowTo rfl 28 _ _ rfl rfl w3.heap.size mv1 rfl rfl 28 _ (heap_alloc_new w3 _) hM1.info (Eq.trans (b := 26) (by kernel_rfl) hM1.size.symm) hM1.one ?_))
  rw [World.setRow_alloc_new]
  have hx4 := heap_alloc_new w3 (.cells mv1 28)
  have ha4 : Below w3.heap.size w3 (w3.alloc (.cells mv1 28)) := (Below.refl _ _).alloc (Nat.le_refl _) _
  have hB4 := hB3.trans (ha4.mono hB3.size)
  have HA4 := Lib.hid (blk_below HA2.out hB4)
  have HB4 := Lib.hid (blk_below HB2.out hB4)
  have hb4 := hb2.trans (hB4.mono hb2.size)
  have ho4 := own_below ho1 ha4
  have HX4 := Lib.hid hx4
  have hs4 : w.heap.size + 1 < w3.heap.size := by
    have := (Array.getElem?_eq_some_iff.1 (blk_below HB2.out hB3)).1
    omega
  clear HA2 HB2 ha4 hB4 hB3 ho1 hx4 hb2
  generalize w3.alloc (.cells mv1 28) = w4 at HA4 HB4 hb4 ho4 HX4 ⊢
  obtain ⟨va', cap', hv'⟩ := own_nil ho4
  subst hv'
  clear ho4
  have hz1 : mv1 = zeroM := hM1.inj memV_zero
  subst hz1
  have hq := memV_zero.eql
  go_wp2_with (first
    | (refine wpList_load_row_g (by rfl) 28 _ rfl w3.heap.size rfl 28 _ (0, 0) _ HX4.out Tryz.underlying28 rfl hM1.info ?_)
    | (refine wpList_load_row_g (by rfl) 28 _ rfl w.heap.size rfl 28 mv (0, 0) _ HA4.out Tryz.underlying28 rfl hM.info ?_)
    | (go_at_call 9; refine (pawake _).mono ?_; rintro _ w9 ⟨rfl, hB9⟩)
    | (refine wpList_buildTo_g (by rfl) 28 _ rfl (some 30) rfl zeroM (by kernel_rfl) ?_))
  go_ret
  exact ⟨rfl, hb4.trans (hB9.mono hb4.size)⟩
set_option maxRecDepth 100000 in
set_option maxHeartbeats 4000000 in
theorem recalls_b1 (d : Int) (mv : Array Value) (ms : List Int) (e p : Int) (hM : MemV mv ms e p) (n i vc va ef pa : Int) (w : World) (R : St) (k : Int) (hR : resL d n 0 0 ef pa i ms e p = (R, k)) (hk0 : k = 0) (hef0 : (ef == 0) = true) (h5 : (d != 5) = true) (hz : R = St.mem ms e p) (hpa : (pa == 0) = true) : Calls Tryz.prog 5 #[.int .i64 d, .agg mv, .agg (CellV n i vc va ef pa)] w fun e w' => e = .returned (.bool true) ∧ Below w.heap.size w w' := by
  subst hk0
  obtain ⟨z1, z2, z3, z4⟩ := res_good (show (resL d n 0 0 ef pa i ms e p).2 = 0 by rw [hR])
  have hd : 1 ≤ d ∧ d ≤ 6 := by simpa [inB] using z1
  have hef : 0 ≤ ef ∧ ef ≤ 36 := by
    unfold validD patOk effB inB at z3
    simp only [Bool.and_eq_true, decide_eq_true_eq] at z3
    exact z3.1.1.1.2.2.2.1.1
  obtain ⟨d0, d1⟩ := hd
  obtain ⟨e0, e1⟩ := hef
  clear z1 z2 z3 z4
  subst hz
  have HR := Lib.hid hR
  clear hR
  go_enter Tryz.func5, Tryz.ntmps5
  go_upto_region 1 with fail
  refine forget2 ?_
  intro w1 hA hB hb hs
  have fB2 := frozen_of hB 2
  have fB3 := frozen_of hB 3
  have c2 := (cell_of hB 2).trans rfl
  have c3 := (cell_of hB 3).trans rfl
  have HA := Lib.hid hA
  have HB := Lib.hid hB
  clear hA hB
  go_upto_region 2 with fail
  have hB2 := DB.heap_setCell_same _ _ 3 (.int .i64 0) (DB.heap_setCell_same w1 (w.heap.size + 1) 2 (.int .i64 0) HB.out)
  have hA2 := ((Below.heap_setCell (w1.setCell ⟨w.heap.size + 1, 2, none⟩ (.int .i64 0)) ⟨w.heap.size + 1, 3, none⟩ (.int .i64 0) w.heap.size (by show w.heap.size ≠ w.heap.size + 1; omega)).trans (Below.heap_setCell w1 ⟨w.heap.size + 1, 2, none⟩ (.int .i64 0) w.heap.size (by show w.heap.size ≠ w.heap.size + 1; omega))).trans HA.out
  have hb2 := (hb.setCell (p := ⟨w.heap.size + 1, 2, none⟩) (by show w.heap.size ≤ w.heap.size + 1; omega) (.int .i64 0)).setCell (p := ⟨w.heap.size + 1, 3, none⟩) (by show w.heap.size ≤ w.heap.size + 1; omega) (.int .i64 0)
  clear fB2 fB3 c2 c3 HA HB hb
  generalize (w1.setCell ⟨w.heap.size + 1, 2, none⟩ (.int .i64 0)).setCell ⟨w.heap.size + 1, 3, none⟩ (.int .i64 0) = w2 at hA2 hB2 hb2 ⊢
  replace hB2 : w2.heap[w.heap.size + 1]? = some (.cells (CellV n i 0 0 ef pa) 23 (0, 0)) := hB2
  have HA2 := Lib.hid hA2
  have HB2 := Lib.hid hB2
  clear hA2 hB2
  go_upto_region 3 with (first
    | (refine wpList_load_row rfl 28 _ rfl w.heap.size rfl 28 mv (0, 0) _ HA2.out Tryz.underlying28 rfl hM.info ?_)
    | (refine wpList_load_row rfl 23 _ rfl (w.heap.size + 1) rfl 23 (CellV n i 0 0 ef pa) (0, 0) _ HB2.out Tryz.underlying23 rfl info23 ?_)
    | (go_at_call 10; refine (pres_v HR.out hM _).mono ?_; rintro _ w3 ⟨v, mv1, rfl, hM1, ho1, hB3⟩)
    | (refine wpList_store_rowTo rfl 28 _ _ rfl rfl w3.heap.size mv1 rfl rfl 28 _ (heap_alloc_new w3 _) hM1.info (Eq.trans (b := 26) (by kernel_rfl) hM1.size.symm) hM1.one ?_))
  rw [World.setRow_alloc_new]
  have hx4 := heap_alloc_new w3 (.cells mv1 28)
  have ha4 : Below w3.heap.size w3 (w3.alloc (.cells mv1 28)) := (Below.refl _ _).alloc (Nat.le_refl _) _
  have hB4 := hB3.trans (ha4.mono hB3.size)
  have HA4 := Lib.hid (blk_below HA2.out hB4)
  have HB4 := Lib.hid (blk_below HB2.out hB4)
  have hb4 := hb2.trans (hB4.mono hb2.size)
  have ho4 := own_below ho1 ha4
  have HX4 := Lib.hid hx4
  have hs4 : w.heap.size + 1 < w3.heap.size := by
    have := (Array.getElem?_eq_some_iff.1 (blk_below HB2.out hB3)).1
    omega
  clear HA2 HB2 ha4 hB4 hB3 ho1 hx4 hb2
  generalize w3.alloc (.cells mv1 28) = w4 at HA4 HB4 hb4 ho4 HX4 ⊢
  obtain ⟨va', cap', hv'⟩ := own_nil ho4
  subst hv'
  clear ho4
  have hz1 : mv1 = mv := hM1.inj hM
  subst hz1
  have hq := hM.neq
  obtain ⟨g0, g1, g2, g3, g4, g5⟩ := CellAt.of HB4.out
  go_wp2_with (first
    | (refine wpList_load_row_g (by rfl) 28 _ rfl w3.heap.size rfl 28 _ (0, 0) _ HX4.out Tryz.underlying28 rfl hM1.info ?_)
    | (refine wpList_load_row_g (by rfl) 28 _ rfl w.heap.size rfl 28 _ (0, 0) _ HA4.out Tryz.underlying28 rfl hM.info ?_)
    | (go_at_call 9; refine (pawake _).mono ?_; rintro _ w9 ⟨rfl, hB9⟩))
  go_ret
  exact ⟨rfl, hb4.trans (hB9.mono hb4.size)⟩
set_option maxRecDepth 100000 in
set_option maxHeartbeats 4000000 in
theorem recalls_b2 (d : Int) (mv : Array Value) (ms : List Int) (e p : Int) (hM : MemV mv ms e p) (n i vc va ef pa : Int) (w : World) (R : St) (k : Int) (hR : resL d n 0 0 ef pa i ms e p = (R, k)) (hk0 : k = 0) (hef0 : (ef == 0) = true) (h5 : (d != 5) = true) (hz : R = St.mem ms e p) (hpa : (pa == 0) = false) (hwh : wholeB d ef = false) : Calls Tryz.prog 5 #[.int .i64 d, .agg mv, .agg (CellV n i vc va ef pa)] w fun e w' => e = .returned (.bool true) ∧ Below w.heap.size w w' := by
  subst hk0
  obtain ⟨z1, z2, z3, z4⟩ := res_good (show (resL d n 0 0 ef pa i ms e p).2 = 0 by rw [hR])
  have hd : 1 ≤ d ∧ d ≤ 6 := by simpa [inB] using z1
  have hef : 0 ≤ ef ∧ ef ≤ 36 := by
    unfold validD patOk effB inB at z3
    simp only [Bool.and_eq_true, decide_eq_true_eq] at z3
    exact z3.1.1.1.2.2.2.1.1
  obtain ⟨d0, d1⟩ := hd
  obtain ⟨e0, e1⟩ := hef
  clear z1 z2 z3 z4
  subst hz
  have HR := Lib.hid hR
  clear hR
  go_enter Tryz.func5, Tryz.ntmps5
  go_upto_region 1 with fail
  refine forget2 ?_
  intro w1 hA hB hb hs
  have fB2 := frozen_of hB 2
  have fB3 := frozen_of hB 3
  have c2 := (cell_of hB 2).trans rfl
  have c3 := (cell_of hB 3).trans rfl
  have HA := Lib.hid hA
  have HB := Lib.hid hB
  clear hA hB
  go_upto_region 2 with fail
  have hB2 := DB.heap_setCell_same _ _ 3 (.int .i64 0) (DB.heap_setCell_same w1 (w.heap.size + 1) 2 (.int .i64 0) HB.out)
  have hA2 := ((Below.heap_setCell (w1.setCell ⟨w.heap.size + 1, 2, none⟩ (.int .i64 0)) ⟨w.heap.size + 1, 3, none⟩ (.int .i64 0) w.heap.size (by show w.heap.size ≠ w.heap.size + 1; omega)).trans (Below.heap_setCell w1 ⟨w.heap.size + 1, 2, none⟩ (.int .i64 0) w.heap.size (by show w.heap.size ≠ w.heap.size + 1; omega))).trans HA.out
  have hb2 := (hb.setCell (p := ⟨w.heap.size + 1, 2, none⟩) (by show w.heap.size ≤ w.heap.size + 1; omega) (.int .i64 0)).setCell (p := ⟨w.heap.size + 1, 3, none⟩) (by show w.heap.size ≤ w.heap.size + 1; omega) (.int .i64 0)
  clear fB2 fB3 c2 c3 HA HB hb
  generalize (w1.setCell ⟨w.heap.size + 1, 2, none⟩ (.int .i64 0)).setCell ⟨w.heap.size + 1, 3, none⟩ (.int .i64 0) = w2 at hA2 hB2 hb2 ⊢
  replace hB2 : w2.heap[w.heap.size + 1]? = some (.cells (CellV n i 0 0 ef pa) 23 (0, 0)) := hB2
  have HA2 := Lib.hid hA2
  have HB2 := Lib.hid hB2
  clear hA2 hB2
  go_upto_region 3 with (first
    | (refine wpList_load_row rfl 28 _ rfl w.heap.size rfl 28 mv (0, 0) _ HA2.out Tryz.underlying28 rfl hM.info ?_)
    | (refine wpList_load_row rfl 23 _ rfl (w.heap.size + 1) rfl 23 (CellV n i 0 0 ef pa) (0, 0) _ HB2.out Tryz.underlying23 rfl info23 ?_)
    | (go_at_call 10; refine (pres_v HR.out hM _).mono ?_; rintro _ w3 ⟨v, mv1, rfl, hM1, ho1, hB3⟩)
    | (refine wpList_store_rowTo rfl 28 _ _ rfl rfl w3.heap.size mv1 rfl rfl 28 _ (heap_alloc_new w3 _) hM1.info (Eq.trans (b := 26) (by kernel_rfl) hM1.size.symm) hM1.one ?_))
  rw [World.setRow_alloc_new]
  have hx4 := heap_alloc_new w3 (.cells mv1 28)
  have ha4 : Below w3.heap.size w3 (w3.alloc (.cells mv1 28)) := (Below.refl _ _).alloc (Nat.le_refl _) _
  have hB4 := hB3.trans (ha4.mono hB3.size)
  have HA4 := Lib.hid (blk_below HA2.out hB4)
  have HB4 := Lib.hid (blk_below HB2.out hB4)
  have hb4 := hb2.trans (hB4.mono hb2.size)
  have ho4 := own_below ho1 ha4
  have HX4 := Lib.hid hx4
  have hs4 : w.heap.size + 1 < w3.heap.size := by
    have := (Array.getElem?_eq_some_iff.1 (blk_below HB2.out hB3)).1
    omega
  clear HA2 HB2 ha4 hB4 hB3 ho1 hx4 hb2
  generalize w3.alloc (.cells mv1 28) = w4 at HA4 HB4 hb4 ho4 HX4 ⊢
  obtain ⟨va', cap', hv'⟩ := own_nil ho4
  subst hv'
  clear ho4
  have hz1 : mv1 = mv := hM1.inj hM
  subst hz1
  have hq := hM.neq
  obtain ⟨g0, g1, g2, g3, g4, g5⟩ := CellAt.of HB4.out
  go_wp2_with (first
    | (refine wpList_load_row_g (by rfl) 28 _ rfl w3.heap.size rfl 28 _ (0, 0) _ HX4.out Tryz.underlying28 rfl hM1.info ?_)
    | (refine wpList_load_row_g (by rfl) 28 _ rfl w.heap.size rfl 28 _ (0, 0) _ HA4.out Tryz.underlying28 rfl hM.info ?_)
    | (go_at_call 13; refine (lawWhole_v d0 d1 e0 e1 hwh _).mono ?_; rintro _ ww ⟨rfl, rfl⟩)
    | (go_at_call 9; refine (pawake _).mono ?_; rintro _ w9 ⟨rfl, hB9⟩))
  go_ret
  exact ⟨rfl, hb4.trans (hB9.mono hb4.size)⟩
set_option maxRecDepth 100000 in
set_option maxHeartbeats 4000000 in
theorem recalls_c1 (d : Int) (mv : Array Value) (ms : List Int) (e p : Int) (hM : MemV mv ms e p) (n i vc va ef pa : Int) (w : World) (R : St) (k : Int) (hR : resL d n 0 0 ef pa i ms e p = (R, k)) (hk0 : k = 0) (hef0 : (ef == 0) = false) (hpa : (pa == 0) = true) : Calls Tryz.prog 5 #[.int .i64 d, .agg mv, .agg (CellV n i vc va ef pa)] w fun e w' => e = .returned (.bool true) ∧ Below w.heap.size w w' := by
  subst hk0
  obtain ⟨z1, z2, z3, z4⟩ := res_good (show (resL d n 0 0 ef pa i ms e p).2 = 0 by rw [hR])
  have hd : 1 ≤ d ∧ d ≤ 6 := by simpa [inB] using z1
  have hef : 0 ≤ ef ∧ ef ≤ 36 := by
    unfold validD patOk effB inB at z3
    simp only [Bool.and_eq_true, decide_eq_true_eq] at z3
    exact z3.1.1.1.2.2.2.1.1
  obtain ⟨d0, d1⟩ := hd
  obtain ⟨e0, e1⟩ := hef
  clear z1 z2 z3 z4
  have HR := Lib.hid hR
  clear hR
  go_enter Tryz.func5, Tryz.ntmps5
  go_upto_region 1 with fail
  refine forget2 ?_
  intro w1 hA hB hb hs
  have fB2 := frozen_of hB 2
  have fB3 := frozen_of hB 3
  have c2 := (cell_of hB 2).trans rfl
  have c3 := (cell_of hB 3).trans rfl
  have HA := Lib.hid hA
  have HB := Lib.hid hB
  clear hA hB
  go_upto_region 2 with fail
  have hB2 := DB.heap_setCell_same _ _ 3 (.int .i64 0) (DB.heap_setCell_same w1 (w.heap.size + 1) 2 (.int .i64 0) HB.out)
  have hA2 := ((Below.heap_setCell (w1.setCell ⟨w.heap.size + 1, 2, none⟩ (.int .i64 0)) ⟨w.heap.size + 1, 3, none⟩ (.int .i64 0) w.heap.size (by show w.heap.size ≠ w.heap.size + 1; omega)).trans (Below.heap_setCell w1 ⟨w.heap.size + 1, 2, none⟩ (.int .i64 0) w.heap.size (by show w.heap.size ≠ w.heap.size + 1; omega))).trans HA.out
  have hb2 := (hb.setCell (p := ⟨w.heap.size + 1, 2, none⟩) (by show w.heap.size ≤ w.heap.size + 1; omega) (.int .i64 0)).setCell (p := ⟨w.heap.size + 1, 3, none⟩) (by show w.heap.size ≤ w.heap.size + 1; omega) (.int .i64 0)
  clear fB2 fB3 c2 c3 HA HB hb
  generalize (w1.setCell ⟨w.heap.size + 1, 2, none⟩ (.int .i64 0)).setCell ⟨w.heap.size + 1, 3, none⟩ (.int .i64 0) = w2 at hA2 hB2 hb2 ⊢
  replace hB2 : w2.heap[w.heap.size + 1]? = some (.cells (CellV n i 0 0 ef pa) 23 (0, 0)) := hB2
  have HA2 := Lib.hid hA2
  have HB2 := Lib.hid hB2
  clear hA2 hB2
  go_upto_region 3 with (first
    | (refine wpList_load_row rfl 28 _ rfl w.heap.size rfl 28 mv (0, 0) _ HA2.out Tryz.underlying28 rfl hM.info ?_)
    | (refine wpList_load_row rfl 23 _ rfl (w.heap.size + 1) rfl 23 (CellV n i 0 0 ef pa) (0, 0) _ HB2.out Tryz.underlying23 rfl info23 ?_)
    | (go_at_call 10; refine (pres_v HR.out hM _).mono ?_; rintro _ w3 ⟨v, mv1, rfl, hM1, ho1, hB3⟩)
    | (refine wpList_store_rowTo rfl 28 _ _ rfl rfl w3.heap.size mv1 rfl rfl 28 _ (heap_alloc_new w3 _) hM1.info (Eq.trans (b := 26) (by kernel_rfl) hM1.size.symm) hM1.one ?_))
  rw [World.setRow_alloc_new]
  have hx4 := heap_alloc_new w3 (.cells mv1 28)
  have ha4 : Below w3.heap.size w3 (w3.alloc (.cells mv1 28)) := (Below.refl _ _).alloc (Nat.le_refl _) _
  have hB4 := hB3.trans (ha4.mono hB3.size)
  have HA4 := Lib.hid (blk_below HA2.out hB4)
  have HB4 := Lib.hid (blk_below HB2.out hB4)
  have hb4 := hb2.trans (hB4.mono hb2.size)
  have ho4 := own_below ho1 ha4
  have HX4 := Lib.hid hx4
  have hs4 : w.heap.size + 1 < w3.heap.size := by
    have := (Array.getElem?_eq_some_iff.1 (blk_below HB2.out hB3)).1
    omega
  clear HA2 HB2 ha4 hB4 hB3 ho1 hx4 hb2
  generalize w3.alloc (.cells mv1 28) = w4 at HA4 HB4 hb4 ho4 HX4 ⊢
  obtain ⟨g0, g1, g2, g3, g4, g5⟩ := CellAt.of HB4.out
  go_wp2_with (first
    | (go_at_call 9; refine (pawake _).mono ?_; rintro _ w9 ⟨rfl, hB9⟩))
  go_ret
  exact ⟨rfl, hb4.trans (hB9.mono hb4.size)⟩
set_option maxRecDepth 100000 in
set_option maxHeartbeats 4000000 in
theorem recalls_c2 (d : Int) (mv : Array Value) (ms : List Int) (e p : Int) (hM : MemV mv ms e p) (n i vc va ef pa : Int) (w : World) (R : St) (k : Int) (hR : resL d n 0 0 ef pa i ms e p = (R, k)) (hk0 : k = 0) (hef0 : (ef == 0) = false) (hpa : (pa == 0) = false) (hwh : wholeB d ef = false) : Calls Tryz.prog 5 #[.int .i64 d, .agg mv, .agg (CellV n i vc va ef pa)] w fun e w' => e = .returned (.bool true) ∧ Below w.heap.size w w' := by
  subst hk0
  obtain ⟨z1, z2, z3, z4⟩ := res_good (show (resL d n 0 0 ef pa i ms e p).2 = 0 by rw [hR])
  have hd : 1 ≤ d ∧ d ≤ 6 := by simpa [inB] using z1
  have hef : 0 ≤ ef ∧ ef ≤ 36 := by
    unfold validD patOk effB inB at z3
    simp only [Bool.and_eq_true, decide_eq_true_eq] at z3
    exact z3.1.1.1.2.2.2.1.1
  obtain ⟨d0, d1⟩ := hd
  obtain ⟨e0, e1⟩ := hef
  clear z1 z2 z3 z4
  have HR := Lib.hid hR
  clear hR
  go_enter Tryz.func5, Tryz.ntmps5
  go_upto_region 1 with fail
  refine forget2 ?_
  intro w1 hA hB hb hs
  have fB2 := frozen_of hB 2
  have fB3 := frozen_of hB 3
  have c2 := (cell_of hB 2).trans rfl
  have c3 := (cell_of hB 3).trans rfl
  have HA := Lib.hid hA
  have HB := Lib.hid hB
  clear hA hB
  go_upto_region 2 with fail
  have hB2 := DB.heap_setCell_same _ _ 3 (.int .i64 0) (DB.heap_setCell_same w1 (w.heap.size + 1) 2 (.int .i64 0) HB.out)
  have hA2 := ((Below.heap_setCell (w1.setCell ⟨w.heap.size + 1, 2, none⟩ (.int .i64 0)) ⟨w.heap.size + 1, 3, none⟩ (.int .i64 0) w.heap.size (by show w.heap.size ≠ w.heap.size + 1; omega)).trans (Below.heap_setCell w1 ⟨w.heap.size + 1, 2, none⟩ (.int .i64 0) w.heap.size (by show w.heap.size ≠ w.heap.size + 1; omega))).trans HA.out
  have hb2 := (hb.setCell (p := ⟨w.heap.size + 1, 2, none⟩) (by show w.heap.size ≤ w.heap.size + 1; omega) (.int .i64 0)).setCell (p := ⟨w.heap.size + 1, 3, none⟩) (by show w.heap.size ≤ w.heap.size + 1; omega) (.int .i64 0)
  clear fB2 fB3 c2 c3 HA HB hb
  generalize (w1.setCell ⟨w.heap.size + 1, 2, none⟩ (.int .i64 0)).setCell ⟨w.heap.size + 1, 3, none⟩ (.int .i64 0) = w2 at hA2 hB2 hb2 ⊢
  replace hB2 : w2.heap[w.heap.size + 1]? = some (.cells (CellV n i 0 0 ef pa) 23 (0, 0)) := hB2
  have HA2 := Lib.hid hA2
  have HB2 := Lib.hid hB2
  clear hA2 hB2
  go_upto_region 3 with (first
    | (refine wpList_load_row rfl 28 _ rfl w.heap.size rfl 28 mv (0, 0) _ HA2.out Tryz.underlying28 rfl hM.info ?_)
    | (refine wpList_load_row rfl 23 _ rfl (w.heap.size + 1) rfl 23 (CellV n i 0 0 ef pa) (0, 0) _ HB2.out Tryz.underlying23 rfl info23 ?_)
    | (go_at_call 10; refine (pres_v HR.out hM _).mono ?_; rintro _ w3 ⟨v, mv1, rfl, hM1, ho1, hB3⟩)
    | (refine wpList_store_rowTo rfl 28 _ _ rfl rfl w3.heap.size mv1 rfl rfl 28 _ (heap_alloc_new w3 _) hM1.info (Eq.trans (b := 26) (by kernel_rfl) hM1.size.symm) hM1.one ?_))
  rw [World.setRow_alloc_new]
  have hx4 := heap_alloc_new w3 (.cells mv1 28)
  have ha4 : Below w3.heap.size w3 (w3.alloc (.cells mv1 28)) := (Below.refl _ _).alloc (Nat.le_refl _) _
  have hB4 := hB3.trans (ha4.mono hB3.size)
  have HA4 := Lib.hid (blk_below HA2.out hB4)
  have HB4 := Lib.hid (blk_below HB2.out hB4)
  have hb4 := hb2.trans (hB4.mono hb2.size)
  have ho4 := own_below ho1 ha4
  have HX4 := Lib.hid hx4
  have hs4 : w.heap.size + 1 < w3.heap.size := by
    have := (Array.getElem?_eq_some_iff.1 (blk_below HB2.out hB3)).1
    omega
  clear HA2 HB2 ha4 hB4 hB3 ho1 hx4 hb2
  generalize w3.alloc (.cells mv1 28) = w4 at HA4 HB4 hb4 ho4 HX4 ⊢
  obtain ⟨g0, g1, g2, g3, g4, g5⟩ := CellAt.of HB4.out
  go_wp2_with (first
    | (go_at_call 13; refine (lawWhole_v d0 d1 e0 e1 hwh _).mono ?_; rintro _ ww ⟨rfl, rfl⟩)
    | (go_at_call 9; refine (pawake _).mono ?_; rintro _ w9 ⟨rfl, hB9⟩))
  go_ret
  exact ⟨rfl, hb4.trans (hB9.mono hb4.size)⟩
set_option maxRecDepth 100000 in
set_option maxHeartbeats 4000000 in
theorem recalls_e1 (d : Int) (mv : Array Value) (ms : List Int) (e p : Int) (hM : MemV mv ms e p) (n i vc va ef pa : Int) (w : World) (R : St) (k : Int) (hR : resL d n 0 0 ef pa i ms e p = (R, k)) (hk0 : k = 0) (hef0 : (ef == 0) = true) (h5 : (d != 5) = false) (hpa : (pa == 0) = true) : Calls Tryz.prog 5 #[.int .i64 d, .agg mv, .agg (CellV n i vc va ef pa)] w fun e w' => e = .returned (.bool true) ∧ Below w.heap.size w w' := by
  subst hk0
  obtain ⟨z1, z2, z3, z4⟩ := res_good (show (resL d n 0 0 ef pa i ms e p).2 = 0 by rw [hR])
  have hd : 1 ≤ d ∧ d ≤ 6 := by simpa [inB] using z1
  have hef : 0 ≤ ef ∧ ef ≤ 36 := by
    unfold validD patOk effB inB at z3
    simp only [Bool.and_eq_true, decide_eq_true_eq] at z3
    exact z3.1.1.1.2.2.2.1.1
  obtain ⟨d0, d1⟩ := hd
  obtain ⟨e0, e1⟩ := hef
  clear z1 z2 z3 z4
  have HR := Lib.hid hR
  clear hR
  go_enter Tryz.func5, Tryz.ntmps5
  go_upto_region 1 with fail
  refine forget2 ?_
  intro w1 hA hB hb hs
  have fB2 := frozen_of hB 2
  have fB3 := frozen_of hB 3
  have c2 := (cell_of hB 2).trans rfl
  have c3 := (cell_of hB 3).trans rfl
  have HA := Lib.hid hA
  have HB := Lib.hid hB
  clear hA hB
  go_upto_region 2 with fail
  have hB2 := DB.heap_setCell_same _ _ 3 (.int .i64 0) (DB.heap_setCell_same w1 (w.heap.size + 1) 2 (.int .i64 0) HB.out)
  have hA2 := ((Below.heap_setCell (w1.setCell ⟨w.heap.size + 1, 2, none⟩ (.int .i64 0)) ⟨w.heap.size + 1, 3, none⟩ (.int .i64 0) w.heap.size (by show w.heap.size ≠ w.heap.size + 1; omega)).trans (Below.heap_setCell w1 ⟨w.heap.size + 1, 2, none⟩ (.int .i64 0) w.heap.size (by show w.heap.size ≠ w.heap.size + 1; omega))).trans HA.out
  have hb2 := (hb.setCell (p := ⟨w.heap.size + 1, 2, none⟩) (by show w.heap.size ≤ w.heap.size + 1; omega) (.int .i64 0)).setCell (p := ⟨w.heap.size + 1, 3, none⟩) (by show w.heap.size ≤ w.heap.size + 1; omega) (.int .i64 0)
  clear fB2 fB3 c2 c3 HA HB hb
  generalize (w1.setCell ⟨w.heap.size + 1, 2, none⟩ (.int .i64 0)).setCell ⟨w.heap.size + 1, 3, none⟩ (.int .i64 0) = w2 at hA2 hB2 hb2 ⊢
  replace hB2 : w2.heap[w.heap.size + 1]? = some (.cells (CellV n i 0 0 ef pa) 23 (0, 0)) := hB2
  have HA2 := Lib.hid hA2
  have HB2 := Lib.hid hB2
  clear hA2 hB2
  go_upto_region 3 with (first
    | (refine wpList_load_row rfl 28 _ rfl w.heap.size rfl 28 mv (0, 0) _ HA2.out Tryz.underlying28 rfl hM.info ?_)
    | (refine wpList_load_row rfl 23 _ rfl (w.heap.size + 1) rfl 23 (CellV n i 0 0 ef pa) (0, 0) _ HB2.out Tryz.underlying23 rfl info23 ?_)
    | (go_at_call 10; refine (pres_v HR.out hM _).mono ?_; rintro _ w3 ⟨v, mv1, rfl, hM1, ho1, hB3⟩)
    | (refine wpList_store_rowTo rfl 28 _ _ rfl rfl w3.heap.size mv1 rfl rfl 28 _ (heap_alloc_new w3 _) hM1.info (Eq.trans (b := 26) (by kernel_rfl) hM1.size.symm) hM1.one ?_))
  rw [World.setRow_alloc_new]
  have hx4 := heap_alloc_new w3 (.cells mv1 28)
  have ha4 : Below w3.heap.size w3 (w3.alloc (.cells mv1 28)) := (Below.refl _ _).alloc (Nat.le_refl _) _
  have hB4 := hB3.trans (ha4.mono hB3.size)
  have HA4 := Lib.hid (blk_below HA2.out hB4)
  have HB4 := Lib.hid (blk_below HB2.out hB4)
  have hb4 := hb2.trans (hB4.mono hb2.size)
  have ho4 := own_below ho1 ha4
  have HX4 := Lib.hid hx4
  have hs4 : w.heap.size + 1 < w3.heap.size := by
    have := (Array.getElem?_eq_some_iff.1 (blk_below HB2.out hB3)).1
    omega
  clear HA2 HB2 ha4 hB4 hB3 ho1 hx4 hb2
  generalize w3.alloc (.cells mv1 28) = w4 at HA4 HB4 hb4 ho4 HX4 ⊢
  obtain ⟨g0, g1, g2, g3, g4, g5⟩ := CellAt.of HB4.out
  go_wp2_with (first
    | (go_at_call 9; refine (pawake _).mono ?_; rintro _ w9 ⟨rfl, hB9⟩))
  go_ret
  exact ⟨rfl, hb4.trans (hB9.mono hb4.size)⟩
set_option maxRecDepth 100000 in
set_option maxHeartbeats 4000000 in
theorem recalls_e2 (d : Int) (mv : Array Value) (ms : List Int) (e p : Int) (hM : MemV mv ms e p) (n i vc va ef pa : Int) (w : World) (R : St) (k : Int) (hR : resL d n 0 0 ef pa i ms e p = (R, k)) (hk0 : k = 0) (hef0 : (ef == 0) = true) (h5 : (d != 5) = false) (hpa : (pa == 0) = false) (hwh : wholeB d ef = false) : Calls Tryz.prog 5 #[.int .i64 d, .agg mv, .agg (CellV n i vc va ef pa)] w fun e w' => e = .returned (.bool true) ∧ Below w.heap.size w w' := by
  subst hk0
  obtain ⟨z1, z2, z3, z4⟩ := res_good (show (resL d n 0 0 ef pa i ms e p).2 = 0 by rw [hR])
  have hd : 1 ≤ d ∧ d ≤ 6 := by simpa [inB] using z1
  have hef : 0 ≤ ef ∧ ef ≤ 36 := by
    unfold validD patOk effB inB at z3
    simp only [Bool.and_eq_true, decide_eq_true_eq] at z3
    exact z3.1.1.1.2.2.2.1.1
  obtain ⟨d0, d1⟩ := hd
  obtain ⟨e0, e1⟩ := hef
  clear z1 z2 z3 z4
  have HR := Lib.hid hR
  clear hR
  go_enter Tryz.func5, Tryz.ntmps5
  go_upto_region 1 with fail
  refine forget2 ?_
  intro w1 hA hB hb hs
  have fB2 := frozen_of hB 2
  have fB3 := frozen_of hB 3
  have c2 := (cell_of hB 2).trans rfl
  have c3 := (cell_of hB 3).trans rfl
  have HA := Lib.hid hA
  have HB := Lib.hid hB
  clear hA hB
  go_upto_region 2 with fail
  have hB2 := DB.heap_setCell_same _ _ 3 (.int .i64 0) (DB.heap_setCell_same w1 (w.heap.size + 1) 2 (.int .i64 0) HB.out)
  have hA2 := ((Below.heap_setCell (w1.setCell ⟨w.heap.size + 1, 2, none⟩ (.int .i64 0)) ⟨w.heap.size + 1, 3, none⟩ (.int .i64 0) w.heap.size (by show w.heap.size ≠ w.heap.size + 1; omega)).trans (Below.heap_setCell w1 ⟨w.heap.size + 1, 2, none⟩ (.int .i64 0) w.heap.size (by show w.heap.size ≠ w.heap.size + 1; omega))).trans HA.out
  have hb2 := (hb.setCell (p := ⟨w.heap.size + 1, 2, none⟩) (by show w.heap.size ≤ w.heap.size + 1; omega) (.int .i64 0)).setCell (p := ⟨w.heap.size + 1, 3, none⟩) (by show w.heap.size ≤ w.heap.size + 1; omega) (.int .i64 0)
  clear fB2 fB3 c2 c3 HA HB hb
  generalize (w1.setCell ⟨w.heap.size + 1, 2, none⟩ (.int .i64 0)).setCell ⟨w.heap.size + 1, 3, none⟩ (.int .i64 0) = w2 at hA2 hB2 hb2 ⊢
  replace hB2 : w2.heap[w.heap.size + 1]? = some (.cells (CellV n i 0 0 ef pa) 23 (0, 0)) := hB2
  have HA2 := Lib.hid hA2
  have HB2 := Lib.hid hB2
  clear hA2 hB2
  go_upto_region 3 with (first
    | (refine wpList_load_row rfl 28 _ rfl w.heap.size rfl 28 mv (0, 0) _ HA2.out Tryz.underlying28 rfl hM.info ?_)
    | (refine wpList_load_row rfl 23 _ rfl (w.heap.size + 1) rfl 23 (CellV n i 0 0 ef pa) (0, 0) _ HB2.out Tryz.underlying23 rfl info23 ?_)
    | (go_at_call 10; refine (pres_v HR.out hM _).mono ?_; rintro _ w3 ⟨v, mv1, rfl, hM1, ho1, hB3⟩)
    | (refine wpList_store_rowTo rfl 28 _ _ rfl rfl w3.heap.size mv1 rfl rfl 28 _ (heap_alloc_new w3 _) hM1.info (Eq.trans (b := 26) (by kernel_rfl) hM1.size.symm) hM1.one ?_))
  rw [World.setRow_alloc_new]
  have hx4 := heap_alloc_new w3 (.cells mv1 28)
  have ha4 : Below w3.heap.size w3 (w3.alloc (.cells mv1 28)) := (Below.refl _ _).alloc (Nat.le_refl _) _
  have hB4 := hB3.trans (ha4.mono hB3.size)
  have HA4 := Lib.hid (blk_below HA2.out hB4)
  have HB4 := Lib.hid (blk_below HB2.out hB4)
  have hb4 := hb2.trans (hB4.mono hb2.size)
  have ho4 := own_below ho1 ha4
  have HX4 := Lib.hid hx4
  have hs4 : w.heap.size + 1 < w3.heap.size := by
    have := (Array.getElem?_eq_some_iff.1 (blk_below HB2.out hB3)).1
    omega
  clear HA2 HB2 ha4 hB4 hB3 ho1 hx4 hb2
  generalize w3.alloc (.cells mv1 28) = w4 at HA4 HB4 hb4 ho4 HX4 ⊢
  obtain ⟨g0, g1, g2, g3, g4, g5⟩ := CellAt.of HB4.out
  go_wp2_with (first
    | (go_at_call 13; refine (lawWhole_v d0 d1 e0 e1 hwh _).mono ?_; rintro _ ww ⟨rfl, rfl⟩)
    | (go_at_call 9; refine (pawake _).mono ?_; rintro _ w9 ⟨rfl, hB9⟩))
  go_ret
  exact ⟨rfl, hb4.trans (hB9.mono hb4.size)⟩
set_option maxRecDepth 100000 in
set_option maxHeartbeats 4000000 in
theorem recalls_r (d : Int) (mv : Array Value) (ms : List Int) (e p : Int) (hM : MemV mv ms e p) (n i vc va ef pa : Int) (w : World) (R : St) (k : Int) (hR : resL d n 0 0 ef pa i ms e p = (R, k)) (R2 : St) (hR2 : resL d n 0 0 ef 0 i R.slots R.eff R.par = (R2, 0)) (r1 : R2.ops = R.ops) (r2 : R2.slots = R.slots) (r3 : R2.eff = R.eff) (r4 : R2.par = R.par) (hk0 : k = 0) (hef0 : (ef == 0) = false) (hpa : (pa == 0) = false) (hwh : wholeB d ef = true) : Calls Tryz.prog 5 #[.int .i64 d, .agg mv, .agg (CellV n i vc va ef pa)] w fun e w' => e = .returned (.bool true) ∧ Below w.heap.size w w' := by
  subst hk0
  obtain ⟨z1, z2, z3, z4⟩ := res_good (show (resL d n 0 0 ef pa i ms e p).2 = 0 by rw [hR])
  have hd : 1 ≤ d ∧ d ≤ 6 := by simpa [inB] using z1
  have hef : 0 ≤ ef ∧ ef ≤ 36 := by
    unfold validD patOk effB inB at z3
    simp only [Bool.and_eq_true, decide_eq_true_eq] at z3
    exact z3.1.1.1.2.2.2.1.1
  obtain ⟨d0, d1⟩ := hd
  obtain ⟨e0, e1⟩ := hef
  clear z1 z2 z3 z4
  have HR2 := Lib.hid hR2
  have r1' := Lib.hid r1
  have r2' := Lib.hid r2
  have r3' := Lib.hid r3
  have r4' := Lib.hid r4
  clear hR2 r1 r2 r3 r4
  have HR := Lib.hid hR
  clear hR
  go_enter Tryz.func5, Tryz.ntmps5
  go_upto_region 1 with fail
  refine forget2 ?_
  intro w1 hA hB hb hs
  have fB2 := frozen_of hB 2
  have fB3 := frozen_of hB 3
  have c2 := (cell_of hB 2).trans rfl
  have c3 := (cell_of hB 3).trans rfl
  have HA := Lib.hid hA
  have HB := Lib.hid hB
  clear hA hB
  go_upto_region 2 with fail
  have hB2 := DB.heap_setCell_same _ _ 3 (.int .i64 0) (DB.heap_setCell_same w1 (w.heap.size + 1) 2 (.int .i64 0) HB.out)
  have hA2 := ((Below.heap_setCell (w1.setCell ⟨w.heap.size + 1, 2, none⟩ (.int .i64 0)) ⟨w.heap.size + 1, 3, none⟩ (.int .i64 0) w.heap.size (by show w.heap.size ≠ w.heap.size + 1; omega)).trans (Below.heap_setCell w1 ⟨w.heap.size + 1, 2, none⟩ (.int .i64 0) w.heap.size (by show w.heap.size ≠ w.heap.size + 1; omega))).trans HA.out
  have hb2 := (hb.setCell (p := ⟨w.heap.size + 1, 2, none⟩) (by show w.heap.size ≤ w.heap.size + 1; omega) (.int .i64 0)).setCell (p := ⟨w.heap.size + 1, 3, none⟩) (by show w.heap.size ≤ w.heap.size + 1; omega) (.int .i64 0)
  clear fB2 fB3 c2 c3 HA HB hb
  generalize (w1.setCell ⟨w.heap.size + 1, 2, none⟩ (.int .i64 0)).setCell ⟨w.heap.size + 1, 3, none⟩ (.int .i64 0) = w2 at hA2 hB2 hb2 ⊢
  replace hB2 : w2.heap[w.heap.size + 1]? = some (.cells (CellV n i 0 0 ef pa) 23 (0, 0)) := hB2
  have HA2 := Lib.hid hA2
  have HB2 := Lib.hid hB2
  clear hA2 hB2
  go_upto_region 3 with (first
    | (refine wpList_load_row rfl 28 _ rfl w.heap.size rfl 28 mv (0, 0) _ HA2.out Tryz.underlying28 rfl hM.info ?_)
    | (refine wpList_load_row rfl 23 _ rfl (w.heap.size + 1) rfl 23 (CellV n i 0 0 ef pa) (0, 0) _ HB2.out Tryz.underlying23 rfl info23 ?_)
    | (go_at_call 10; refine (pres_v HR.out hM _).mono ?_; rintro _ w3 ⟨v, mv1, rfl, hM1, ho1, hB3⟩)
    | (refine wpList_store_rowTo rfl 28 _ _ rfl rfl w3.heap.size mv1 rfl rfl 28 _ (heap_alloc_new w3 _) hM1.info (Eq.trans (b := 26) (by kernel_rfl) hM1.size.symm) hM1.one ?_))
  rw [World.setRow_alloc_new]
  have hx4 := heap_alloc_new w3 (.cells mv1 28)
  have ha4 : Below w3.heap.size w3 (w3.alloc (.cells mv1 28)) := (Below.refl _ _).alloc (Nat.le_refl _) _
  have hB4 := hB3.trans (ha4.mono hB3.size)
  have HA4 := Lib.hid (blk_below HA2.out hB4)
  have HB4 := Lib.hid (blk_below HB2.out hB4)
  have hb4 := hb2.trans (hB4.mono hb2.size)
  have ho4 := own_below ho1 ha4
  have HX4 := Lib.hid hx4
  have hs4 : w.heap.size + 1 < w3.heap.size := by
    have := (Array.getElem?_eq_some_iff.1 (blk_below HB2.out hB3)).1
    omega
  clear HA2 HB2 ha4 hB4 hB3 ho1 hx4 hb2
  generalize w3.alloc (.cells mv1 28) = w4 at HA4 HB4 hb4 ho4 HX4 ⊢
  obtain ⟨g0, g1, g2, g3, g4, g5⟩ := CellAt.of HB4.out
  have f5 := frozen_of HB4.out 5
  have HO4 := Lib.hid ho4
  clear ho4
  go_upto_region 10 with (first
    | (go_at_call 13; refine (lawWhole_v d0 d1 e0 e1 hwh _).mono ?_; rintro _ ww ⟨rfl, rfl⟩))
  have hB5 := DB.heap_setCell_same _ _ 5 (.int .i64 0) HB4.out
  have hX5 := (Below.heap_setCell w4 ⟨w.heap.size + 1, 5, none⟩ (.int .i64 0) w3.heap.size (by show w3.heap.size ≠ w.heap.size + 1; omega)).trans HX4.out
  have hb5 := hb4.setCell (p := ⟨w.heap.size + 1, 5, none⟩) (by show w.heap.size ≤ w.heap.size + 1; omega) (.int .i64 0)
  have ho5 := own_far HO4.out HB4.out (by decide) 5 (.int .i64 0)
  clear g0 g1 g2 g3 g4 g5 f5 HA4 HB4 hb4 HX4 HO4
  generalize w4.setCell ⟨w.heap.size + 1, 5, none⟩ (.int .i64 0) = w5 at hB5 hX5 hb5 ho5 ⊢
  replace hB5 : w5.heap[w.heap.size + 1]? = some (.cells (CellV n i 0 0 ef 0) 23 (0, 0)) := hB5
  have HB5 := Lib.hid hB5
  have HX5 := Lib.hid hX5
  have HO5 := Lib.hid ho5
  clear hB5 hX5 ho5
  go_upto_region 11 with (first
    | (refine wpList_load_row rfl 28 _ rfl w3.heap.size rfl 28 mv1 (0, 0) _ HX5.out Tryz.underlying28 rfl hM1.info ?_)
    | (refine wpList_load_row rfl 23 _ rfl (w.heap.size + 1) rfl 23 (CellV n i 0 0 ef 0) (0, 0) _ HB5.out Tryz.underlying23 rfl info23 ?_)
    | (go_at_call 10; refine (pres_v HR2.out hM1 _).mono ?_; rintro _ w6 ⟨v2, mv2, rfl, hM2, ho2, hB6⟩)
    | (refine wpList_store_rowTo rfl 28 _ _ rfl rfl w6.heap.size mv2 rfl rfl 28 _ (heap_alloc_new w6 _) hM2.info (Eq.trans (b := 26) (by kernel_rfl) hM2.size.symm) hM2.one ?_))
  rw [World.setRow_alloc_new]
  rw [r2'.out, r3'.out, r4'.out] at hM2
  have hz2 : mv2 = mv1 := hM2.inj hM1
  subst hz2
  rw [r1'.out] at ho2
  have hx7 := heap_alloc_new w6 (.cells mv2 28)
  have ha7 : Below w6.heap.size w6 (w6.alloc (.cells mv2 28)) := (Below.refl _ _).alloc (Nat.le_refl _) _
  have hB7 := hB6.trans (ha7.mono hB6.size)
  have HX7 := Lib.hid (blk_below HX5.out hB7)
  have hb7 := hb5.trans (hB7.mono hb5.size)
  have HO7 := Lib.hid (own_base (Nat.zero_le _) (own_below HO5.out hB7))
  have HP7 := Lib.hid (own_base (Nat.zero_le _) (own_below ho2 ha7))
  have HY7 := Lib.hid hx7
  clear HX5 hb5 HO5 ho2 hx7 ha7 hB7 hB6 HB5
  generalize w6.alloc (.cells mv2 28) = w7 at HX7 hb7 HO7 HP7 HY7 ⊢
  have C1 := Lib.hid (same_self HO7.out HP7.out)
  have hq := hM1.eql
  go_wp2_with (first
    | (go_at_call 12; refine C1.out.mono ?_; rintro _ w8 ⟨rfl, hB8⟩; have HX8 := Lib.hid (blk_below HX7.out hB8); have HY8 := Lib.hid (blk_below HY7.out hB8); have hb8 := hb7.trans (hB8.mono hb7.size))
    | (refine wpList_load_row_g (by rfl) 28 _ rfl w3.heap.size rfl 28 _ (0, 0) _ HX8.out Tryz.underlying28 rfl hM1.info ?_)
    | (refine wpList_load_row_g (by rfl) 28 _ rfl w6.heap.size rfl 28 _ (0, 0) _ HY8.out Tryz.underlying28 rfl hM1.info ?_)
    | (go_at_call 9; refine (pawake _).mono ?_; rintro _ w9 ⟨rfl, hB9⟩))
  go_ret
  exact ⟨rfl, hb8.trans (hB9.mono hb8.size)⟩
theorem recalls (d : Int) (mv : Array Value) (ms : List Int) (e p : Int) (hM : MemV mv ms e p) (n i vc va ef pa : Int) (w : World) : Calls Tryz.prog 5 #[.int .i64 d, .agg mv, .agg (CellV n i vc va ef pa)] w fun e w' => e = .returned (.bool true) ∧ Below w.heap.size w w' := by
  obtain ⟨R, k, hR⟩ : ∃ R k, resL d n 0 0 ef pa i ms e p = (R, k) := ⟨_, _, rfl⟩
  by_cases hk : k = 0
  · by_cases hef : ef = 0
    · by_cases h5 : d = 5
      · have hwh : wholeB d ef = false := by subst hef; rfl
        by_cases hpa : pa = 0
        · exact recalls_e1 d mv ms e p hM n i vc va ef pa w R k hR hk (by simp [hef]) (by simp [h5]) (by simp [hpa])
        · exact recalls_e2 d mv ms e p hM n i vc va ef pa w R k hR hk (by simp [hef]) (by simp [h5]) (by simp [hpa]) hwh
      · have hwh : wholeB d ef = false := by subst hef; rfl
        have hz : R = St.mem ms e p := by
          subst hef
          have := res_none (d := d) (n := n) (pa := pa) (i := i) (ms := ms) (e := e) (p := p) h5 (by rw [hR]; exact hk)
          rw [hR] at this
          exact this
        by_cases hpa : pa = 0
        · exact recalls_b1 d mv ms e p hM n i vc va ef pa w R k hR hk (by simp [hef]) (by simp [h5]) hz (by simp [hpa])
        · exact recalls_b2 d mv ms e p hM n i vc va ef pa w R k hR hk (by simp [hef]) (by simp [h5]) hz (by simp [hpa]) hwh
    · by_cases hpa : pa = 0
      · exact recalls_c1 d mv ms e p hM n i vc va ef pa w R k hR hk (by simp [hef]) (by simp [hpa])
      · cases hwh : wholeB d ef with
        | false => exact recalls_c2 d mv ms e p hM n i vc va ef pa w R k hR hk (by simp [hef]) (by simp [hpa]) hwh
        | true =>
          obtain ⟨R2, h2, r1, r2, r3, r4⟩ := res_recall (d := d) (n := n) (i := i) hM.len hpa hwh (by rw [hR]; exact hk) R (by rw [hR])
          exact recalls_r d mv ms e p hM n i vc va ef pa w R k hR R2 h2 r1 r2 r3 r4 hk (by simp [hef]) (by simp [hpa]) hwh
  · have hz : R = St.mem zeros 0 0 := by
      have := res_bad (d := d) (n := n) (vc := 0) (va := 0) (ef := ef) (pa := pa) (i := i) (ms := ms) (e := e) (p := p) (by rw [hR]; exact hk)
      rw [hR] at this
      exact this
    exact recalls_a d mv ms e p hM n i vc va ef pa w R k hR (by simp [hk]) hz
end Go.Proofs.YtappnglfmidjoaaGreat.D
