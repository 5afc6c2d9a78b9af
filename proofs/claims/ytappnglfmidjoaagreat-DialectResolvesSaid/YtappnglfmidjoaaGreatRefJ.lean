/- Resolve of the reference. -/
import Derived.Test.YtappnglfmidjoaaGreatRefI
import Derived.Test.YtappnglfmidjoaaGreatLawC
import Derived.StillTailTactics
set_option linter.unusedVariables false
set_option linter.unusedSimpArgs false
namespace Go.Proofs.YtappnglfmidjoaaGreat.D
open Go Go.RowKit Go.Proofs.YtappnglfmidjoaaGreat.DB Go.Great

theorem tab_some1 {c : Int} (h : hasL 1 c = true) : ∃ F, tabOf 1 c = some F := by
  obtain ⟨b, hb, rfl⟩ := has_or h
  have hb2 : b ∈ [(48 : UInt8), (49 : UInt8), (50 : UInt8), (51 : UInt8), (52 : UInt8), (53 : UInt8), (54 : UInt8), (55 : UInt8), (56 : UInt8), (57 : UInt8), (65 : UInt8), (66 : UInt8), (67 : UInt8), (68 : UInt8), (69 : UInt8), (70 : UInt8)] := hb
  simp only [List.mem_cons, List.not_mem_nil, or_false] at hb2
  rcases hb2 with rfl | rfl | rfl | rfl | rfl | rfl | rfl | rfl | rfl | rfl | rfl | rfl | rfl | rfl | rfl | rfl
  · exact ⟨_, rfl⟩
  · exact ⟨_, rfl⟩
  · exact ⟨_, rfl⟩
  · exact ⟨_, rfl⟩
  · exact ⟨_, rfl⟩
  · exact ⟨_, rfl⟩
  · exact ⟨_, rfl⟩
  · exact ⟨_, rfl⟩
  · exact ⟨_, rfl⟩
  · exact ⟨_, rfl⟩
  · exact ⟨_, rfl⟩
  · exact ⟨_, rfl⟩
  · exact ⟨_, rfl⟩
  · exact ⟨_, rfl⟩
  · exact ⟨_, rfl⟩
  · exact ⟨_, rfl⟩
theorem tab_some2 {c : Int} (h : hasL 2 c = true) : ∃ F, tabOf 2 c = some F := by
  obtain ⟨b, hb, rfl⟩ := has_or h
  have hb2 : b ∈ [(65 : UInt8), (66 : UInt8), (67 : UInt8), (68 : UInt8), (69 : UInt8), (70 : UInt8), (71 : UInt8), (72 : UInt8), (73 : UInt8), (74 : UInt8), (75 : UInt8), (76 : UInt8), (79 : UInt8), (81 : UInt8), (82 : UInt8), (83 : UInt8), (84 : UInt8), (85 : UInt8), (86 : UInt8), (88 : UInt8)] := hb
  simp only [List.mem_cons, List.not_mem_nil, or_false] at hb2
  rcases hb2 with rfl | rfl | rfl | rfl | rfl | rfl | rfl | rfl | rfl | rfl | rfl | rfl | rfl | rfl | rfl | rfl | rfl | rfl | rfl | rfl
  · exact ⟨_, rfl⟩
  · exact ⟨_, rfl⟩
  · exact ⟨_, rfl⟩
  · exact ⟨_, rfl⟩
  · exact ⟨_, rfl⟩
  · exact ⟨_, rfl⟩
  · exact ⟨_, rfl⟩
  · exact ⟨_, rfl⟩
  · exact ⟨_, rfl⟩
  · exact ⟨_, rfl⟩
  · exact ⟨_, rfl⟩
  · exact ⟨_, rfl⟩
  · exact ⟨_, rfl⟩
  · exact ⟨_, rfl⟩
  · exact ⟨_, rfl⟩
  · exact ⟨_, rfl⟩
  · exact ⟨_, rfl⟩
  · exact ⟨_, rfl⟩
  · exact ⟨_, rfl⟩
  · exact ⟨_, rfl⟩
theorem tab_some3 {c : Int} (h : hasL 3 c = true) : ∃ F, tabOf 3 c = some F := by
  obtain ⟨b, hb, rfl⟩ := has_or h
  have hb2 : b ∈ [(48 : UInt8), (49 : UInt8), (50 : UInt8), (51 : UInt8), (52 : UInt8), (53 : UInt8), (54 : UInt8), (55 : UInt8), (56 : UInt8), (57 : UInt8), (65 : UInt8), (66 : UInt8), (67 : UInt8), (68 : UInt8), (69 : UInt8), (70 : UInt8), (71 : UInt8), (72 : UInt8), (75 : UInt8), (76 : UInt8), (80 : UInt8), (82 : UInt8), (84 : UInt8), (88 : UInt8)] := hb
  simp only [List.mem_cons, List.not_mem_nil, or_false] at hb2
  rcases hb2 with rfl | rfl | rfl | rfl | rfl | rfl | rfl | rfl | rfl | rfl | rfl | rfl | rfl | rfl | rfl | rfl | rfl | rfl | rfl | rfl | rfl | rfl | rfl | rfl
  · exact ⟨_, rfl⟩
  · exact ⟨_, rfl⟩
  · exact ⟨_, rfl⟩
  · exact ⟨_, rfl⟩
  · exact ⟨_, rfl⟩
  · exact ⟨_, rfl⟩
  · exact ⟨_, rfl⟩
  · exact ⟨_, rfl⟩
  · exact ⟨_, rfl⟩
  · exact ⟨_, rfl⟩
  · exact ⟨_, rfl⟩
  · exact ⟨_, rfl⟩
  · exact ⟨_, rfl⟩
  · exact ⟨_, rfl⟩
  · exact ⟨_, rfl⟩
  · exact ⟨_, rfl⟩
  · exact ⟨_, rfl⟩
  · exact ⟨_, rfl⟩
  · exact ⟨_, rfl⟩
  · exact ⟨_, rfl⟩
  · exact ⟨_, rfl⟩
  · exact ⟨_, rfl⟩
  · exact ⟨_, rfl⟩
  · exact ⟨_, rfl⟩
theorem tab_some4 {c : Int} (h : hasL 4 c = true) : ∃ F, tabOf 4 c = some F := by
  obtain ⟨b, hb, rfl⟩ := has_or h
  have hb2 : b ∈ [(65 : UInt8), (66 : UInt8), (67 : UInt8), (68 : UInt8), (69 : UInt8), (70 : UInt8), (71 : UInt8), (72 : UInt8), (73 : UInt8), (74 : UInt8), (75 : UInt8), (76 : UInt8), (77 : UInt8), (78 : UInt8), (79 : UInt8), (80 : UInt8), (81 : UInt8), (82 : UInt8), (83 : UInt8), (84 : UInt8), (85 : UInt8), (86 : UInt8), (87 : UInt8), (88 : UInt8), (89 : UInt8), (90 : UInt8)] := hb
  simp only [List.mem_cons, List.not_mem_nil, or_false] at hb2
  rcases hb2 with rfl | rfl | rfl | rfl | rfl | rfl | rfl | rfl | rfl | rfl | rfl | rfl | rfl | rfl | rfl | rfl | rfl | rfl | rfl | rfl | rfl | rfl | rfl | rfl | rfl | rfl
  · exact ⟨_, rfl⟩
  · exact ⟨_, rfl⟩
  · exact ⟨_, rfl⟩
  · exact ⟨_, rfl⟩
  · exact ⟨_, rfl⟩
  · exact ⟨_, rfl⟩
  · exact ⟨_, rfl⟩
  · exact ⟨_, rfl⟩
  · exact ⟨_, rfl⟩
  · exact ⟨_, rfl⟩
  · exact ⟨_, rfl⟩
  · exact ⟨_, rfl⟩
  · exact ⟨_, rfl⟩
  · exact ⟨_, rfl⟩
  · exact ⟨_, rfl⟩
  · exact ⟨_, rfl⟩
  · exact ⟨_, rfl⟩
  · exact ⟨_, rfl⟩
  · exact ⟨_, rfl⟩
  · exact ⟨_, rfl⟩
  · exact ⟨_, rfl⟩
  · exact ⟨_, rfl⟩
  · exact ⟨_, rfl⟩
  · exact ⟨_, rfl⟩
  · exact ⟨_, rfl⟩
  · exact ⟨_, rfl⟩
theorem tab_some6 {c : Int} (h : hasL 6 c = true) : ∃ F, tabOf 6 c = some F := by
  obtain ⟨b, hb, rfl⟩ := has_or h
  have hb2 : b ∈ [(48 : UInt8), (49 : UInt8), (50 : UInt8), (51 : UInt8), (52 : UInt8), (65 : UInt8), (66 : UInt8), (67 : UInt8), (68 : UInt8), (69 : UInt8), (70 : UInt8), (78 : UInt8), (83 : UInt8)] := hb
  simp only [List.mem_cons, List.not_mem_nil, or_false] at hb2
  rcases hb2 with rfl | rfl | rfl | rfl | rfl | rfl | rfl | rfl | rfl | rfl | rfl | rfl | rfl
  · exact ⟨_, rfl⟩
  · exact ⟨_, rfl⟩
  · exact ⟨_, rfl⟩
  · exact ⟨_, rfl⟩
  · exact ⟨_, rfl⟩
  · exact ⟨_, rfl⟩
  · exact ⟨_, rfl⟩
  · exact ⟨_, rfl⟩
  · exact ⟨_, rfl⟩
  · exact ⟨_, rfl⟩
  · exact ⟨_, rfl⟩
  · exact ⟨_, rfl⟩
  · exact ⟨_, rfl⟩
theorem r_effect (base b : Nat) (w : World) (S : St) (d n p : Int) (F : St → St) (d0 : 1 ≤ d) (d1 : d ≤ 6) (h5 : ¬ d = 5) (n0 : 1 ≤ n) (n1 : n ≤ 36) (hl0 : hasL d (letterR n) = true) (hF : tabOf d (letterR n) = some F) (px0 : 0 ≤ p) (px1 : p ≤ 255) (hl : S.ops.length ≤ 700) (hA : RAt base w b S) :
    Calls Tryz.prog 33 #[.pointer (some ⟨b, 0, none⟩), .int .i64 d, .int .i64 n, .int .i64 p] w fun e w' => e = .returned (.tuple #[]) ∧ RAt base w' b (F (S.put p)) ∧ Kp 50 base b w w' := by
  rcases (by omega : d = 1 ∨ d = 2 ∨ d = 3 ∨ d = 4 ∨ d = 6) with rfl | rfl | rfl | rfl | rfl
  · exact r_effect_1 base b w S n _ p F n0 n1 rfl hl0 hF px0 px1 hl hA
  · exact r_effect_2 base b w S n _ p F n0 n1 rfl hl0 hF px0 px1 hl hA
  · exact r_effect_3 base b w S n _ p F n0 n1 rfl hl0 hF px0 px1 hl hA
  · exact r_effect_4 base b w S n _ p F n0 n1 rfl hl0 hF px0 px1 hl hA
  · exact r_effect_6 base b w S n _ p F n0 n1 rfl hl0 hF px0 px1 hl hA
theorem tab_some (d : Int) (d0 : 1 ≤ d) (d1 : d ≤ 6) (h5 : ¬ d = 5) {c : Int} (h : hasL d c = true) : ∃ F, tabOf d c = some F := by
  rcases (by omega : d = 1 ∨ d = 2 ∨ d = 3 ∨ d = 4 ∨ d = 6) with rfl | rfl | rfl | rfl | rfl
  · exact tab_some1 h
  · exact tab_some2 h
  · exact tab_some3 h
  · exact tab_some4 h
  · exact tab_some6 h
def St.rEff (d ef pa : Int) (S : St) : St := if ef = 0 then S else if d = 5 then St.rCompose (letterR ef) (S.put pa) else match tabOf d (letterR ef) with | some F => F (S.put pa) | none => S
def St.rS (d n vc va ef pa : Int) (S : St) : St := St.rEff d ef pa (if d = 5 then St.rLast n ef pa (St.colS d vc va S) else St.colS d vc va S)
theorem rCompose_ops (c : Int) (S : St) : (St.rCompose c S).ops.length ≤ S.ops.length + 1 := by
  unfold St.rCompose
  split
  · omega
  · cases h : tCompose c with
    | none => simp
    | some F =>
      simp only []
      unfold tCompose mset at h
      repeat' (first | (split at h) | cases h)
      all_goals simp [St.fParam, St.fBoth, St.fLowHalf, St.fUnless0, St.ops_ask]
      all_goals (try split) <;> simp [St.ops_ask]
theorem rLast_ops (n e p : Int) (S : St) : (St.rLast n e p S).ops.length ≤ S.ops.length + 1 := by
  unfold St.rLast
  repeat' split
  all_goals first | (simp; done) | exact rCompose_ops _ _ | omega
theorem build58 (mv : Array Value) (h : mv.size = 26) (w : World) : (Instr.build 58 #[(0, .agg mv)]).run Tryz.prog w = .ok (.agg (mv ++ #[.int .i64 0, .int .i64 0, .int .i64 0, .slice none 0 0])) w := by
  obtain ⟨l⟩ := mv
  simp only [List.size_toArray] at h
  iterate 26 (rcases l with _ | ⟨v, l⟩; · (simp at h))
  rcases l with _ | ⟨v, l⟩
  · exact run_build w 58 _ _ (by kernel_rfl)
  · simp at h
theorem wpList_build1 {P : Program} {ops : Array Oper} {rest : List Oper} {o : Oper} {a : Act} {Q : Exit → Act → World → Prop} {w : World} (hg : o.guard = none) (t : TypeId) (i : Nat) (x : Operand) (hop : o.op = Op.build t #[(i, x)]) (u z : Value) (hx : a.eval x = u)
    (hrun : (Instr.build t #[(i, u)]).run P w = .ok z w) (hn : wpList P ops Q rest (a.put o.dst z) w) : wpList P ops Q (o :: rest) a w := by
  refine wpList_plain hg fun K' hK' => ?_
  unfold Oper.wp
  simp [execOp, hop, hx, hrun, Result.andThen]
  exact hK' _ _ hn
theorem At.startR {mv : Array Value} {ms : List Int} {e p : Int} (hM : MemV mv ms e p) {w : World} {b base : Nat} (hb : base ≤ b) (hx : w.heap[b]? = some (.cells (mv ++ #[.int .i64 0, .int .i64 0, .int .i64 0, .slice none 0 0]) 58)) :
    RAt base w b (St.mem ms e p) := by
  have hs := hM.size
  have hl := hM.len
  refine ⟨hb, hM.len, _, hx, by simp [hs], ?_, ?_, ?_, ?_, ?_, ?_, .slice none 0 0, ?_, ?_⟩
  · intro i hi
    rw [Array.getElem?_append, if_pos (by omega)]
    refine hM.slot ?_
    show ms[i]? = some (ms.getD i 0)
    rw [List.getD_eq_getElem?_getD, List.getElem?_eq_getElem (by omega)]
    rfl
  · rw [Array.getElem?_append, if_pos (by omega)]; exact hM.ceff
  · rw [Array.getElem?_append, if_pos (by omega)]; exact hM.cpar
  · rw [Array.getElem?_append, if_neg (by omega), hs]; rfl
  · rw [Array.getElem?_append, if_neg (by omega), hs]; rfl
  · rw [Array.getElem?_append, if_neg (by omega), hs]; rfl
  · rw [Array.getElem?_append, if_neg (by omega), hs]; rfl
  · exact ⟨rfl, .inl ⟨rfl, rfl⟩⟩
theorem rquirks_v' {d k : Int} (h : errQ d = k) (w : World) : Calls Tryz.prog 15 #[.int .i64 d] w fun e w' => e = .returned (.tuple #[.agg (quirkV d), .int .i64 k]) ∧ Below w.heap.size w w' := h ▸ rquirks d w
theorem rmem_v {mv : Array Value} {ms : List Int} {e p : Int} {b : Bool} (hM : MemV mv ms e p) (h : memOk ms e p = b) (w : World) : Calls Tryz.prog 30 #[.agg mv] w fun e' w' => e' = .returned (.bool b) ∧ Below w.heap.size w w' :=
  (rremembered mv ms e p hM w).mono fun _ _ ⟨h1, h2⟩ => ⟨h ▸ h1, h2 ▸ (Below.refl _ _).alloc (Nat.le_refl _) _⟩
set_option maxRecDepth 100000 in
set_option maxHeartbeats 4000000 in
theorem rres_a (d : Int) (mv : Array Value) (ms : List Int) (e p : Int) (hM : MemV mv ms e p) (n i vc va ef pa : Int) (hd : inB d 1 6 = false) (w : World) :
    Calls Tryz.prog 11 #[.int .i64 d, .agg mv, .agg (CellV n i vc va ef pa)] w (Out w [] zeros 0 0 6) := by
  have he : errQ d = 6 := by simp [errQ, hd]
  go_enter Tryz.func11, Tryz.ntmps11
  go_upto_region 1 with fail
  refine forget3 _ _ 26 (by kernel_rfl) ?_
  intro w1 old hold hA hB hC hb
  have HA := Lib.hid hA
  have HB := Lib.hid hB
  have HC := Lib.hid hC
  have HO := Lib.hid (hold : old.size = 26)
  clear hA hB hC hold
  go_upto_region 2 with (first
    | (go_at_call 15; refine (rquirks_v' he _).mono ?_; rintro _ w2 ⟨rfl, hB2⟩)
    | (refine wpList_store_rowTo rfl 39 _ _ rfl rfl w2.heap.size (quirkV d) rfl rfl 39 _ (heap_alloc_new w2 _) (quirkV_info d) (Eq.trans (b := 29) (by kernel_rfl) (quirkV_size d).symm) (quirkV_one d) ?_))
  rw [World.setRow_alloc_new]
  have ha3 := hB2.trans (((Below.refl w2.heap.size w2).alloc (Nat.le_refl _) (.cells (quirkV d) 39)).mono hB2.size)
  have HA3 := Lib.hid (blk_below HA.out ha3)
  have HB3 := Lib.hid (blk_below HB.out ha3)
  have HC3 := Lib.hid (blk_below HC.out ha3)
  have hb3 := hb.trans (ha3.mono hb.size)
  clear HA HB HC hb ha3 hB2
  generalize w2.alloc (.cells (quirkV d) 39) = w3 at HA3 HB3 HC3 hb3 ⊢
  obtain ⟨g0, g1, g2, g3, g4, g5⟩ := CellAt.of HB3.out
  go_wp2_with (first
    | (refine wpList_buildTo rfl 28 _ rfl (some 19) rfl zeroM (by kernel_rfl) ?_)
    | (refine wpList_store_rowTo rfl 28 _ _ rfl rfl (w.heap.size + 1 + 1) zeroM rfl rfl 28 _ HC3.out memV_zero.info (HO.out.trans memV_zero.size.symm) memV_zero.one ?_))
  refine bodyPost_ret (results_tmp_row_tmp Tryz.results11 _ _ (w.heap.size + 1 + 1) 28 zeroM (0, 0) _ rfl (setRow_heap _ _ _ _ _ _ HC3.out) Tryz.underlying28 rfl memV_zero.info _ _ rfl rfl) rfl ⟨_, _, rfl, memV_zero, ⟨rfl, .inl ⟨rfl, rfl⟩⟩, below_setRow hb3 (by omega) _⟩
set_option maxRecDepth 100000 in
set_option maxHeartbeats 4000000 in
theorem rres_b (d : Int) (mv : Array Value) (ms : List Int) (e p : Int) (hM : MemV mv ms e p) (n i vc va ef pa : Int) (hd : inB d 1 6 = true) (hm : memOk ms e p = false) (w : World) :
    Calls Tryz.prog 11 #[.int .i64 d, .agg mv, .agg (CellV n i vc va ef pa)] w (Out w [] zeros 0 0 1) := by
  have he : errQ d = 0 := by simp [errQ, hd]
  go_enter Tryz.func11, Tryz.ntmps11
  go_upto_region 1 with fail
  refine forget3 _ _ 26 (by kernel_rfl) ?_
  intro w1 old hold hA hB hC hb
  have HA := Lib.hid hA
  have HB := Lib.hid hB
  have HC := Lib.hid hC
  have HO := Lib.hid (hold : old.size = 26)
  clear hA hB hC hold
  go_upto_region 2 with (first
    | (go_at_call 15; refine (rquirks_v' he _).mono ?_; rintro _ w2 ⟨rfl, hB2⟩)
    | (refine wpList_store_rowTo rfl 39 _ _ rfl rfl w2.heap.size (quirkV d) rfl rfl 39 _ (heap_alloc_new w2 _) (quirkV_info d) (Eq.trans (b := 29) (by kernel_rfl) (quirkV_size d).symm) (quirkV_one d) ?_))
  rw [World.setRow_alloc_new]
  have ha3 := hB2.trans (((Below.refl w2.heap.size w2).alloc (Nat.le_refl _) (.cells (quirkV d) 39)).mono hB2.size)
  have HA3 := Lib.hid (blk_below HA.out ha3)
  have HB3 := Lib.hid (blk_below HB.out ha3)
  have HC3 := Lib.hid (blk_below HC.out ha3)
  have hb3 := hb.trans (ha3.mono hb.size)
  clear HA HB HC hb ha3 hB2
  generalize w2.alloc (.cells (quirkV d) 39) = w3 at HA3 HB3 HC3 hb3 ⊢
  obtain ⟨g0, g1, g2, g3, g4, g5⟩ := CellAt.of HB3.out
  go_wp2_with (first
    | (refine wpList_load_row rfl 28 _ rfl w.heap.size rfl 28 mv (0, 0) _ HA3.out Tryz.underlying28 rfl hM.info ?_)
    | (go_at_call 30; refine (rmem_v hM hm _).mono ?_; rintro _ w4 ⟨rfl, hB4⟩; have HA4 := Lib.hid (blk_below HA3.out hB4); have HB4 := Lib.hid (blk_below HB3.out hB4); have HC4 := Lib.hid (blk_below HC3.out hB4); have hb4 := hb3.trans (hB4.mono hb3.size); obtain ⟨f0, f1, f2, f3, f4, f5⟩ := CellAt.of HB4.out)
    | (refine wpList_buildTo rfl 28 _ rfl (some 30) rfl zeroM (by kernel_rfl) ?_)
    | (refine wpList_store_rowTo rfl 28 _ _ rfl rfl (w.heap.size + 1 + 1) zeroM rfl rfl 28 _ HC4.out memV_zero.info (HO.out.trans memV_zero.size.symm) memV_zero.one ?_))
  refine bodyPost_ret (results_tmp_row_tmp Tryz.results11 _ _ (w.heap.size + 1 + 1) 28 zeroM (0, 0) _ rfl (setRow_heap _ _ _ _ _ _ HC4.out) Tryz.underlying28 rfl memV_zero.info _ _ rfl rfl) rfl ⟨_, _, rfl, memV_zero, ⟨rfl, .inl ⟨rfl, rfl⟩⟩, below_setRow hb4 (by omega) _⟩
set_option maxRecDepth 100000 in
set_option maxHeartbeats 4000000 in
theorem rres_c (d : Int) (mv : Array Value) (ms : List Int) (e p : Int) (hM : MemV mv ms e p) (n i vc va ef pa : Int) (hd : inB d 1 6 = true) (hm : memOk ms e p = true) (hv : validD d n i vc va ef pa = false) (w : World) :
    Calls Tryz.prog 11 #[.int .i64 d, .agg mv, .agg (CellV n i vc va ef pa)] w (Out w [] zeros 0 0 1) := by
  have he : errQ d = 0 := by simp [errQ, hd]
  go_enter Tryz.func11, Tryz.ntmps11
  go_upto_region 1 with fail
  refine forget3 _ _ 26 (by kernel_rfl) ?_
  intro w1 old hold hA hB hC hb
  have HA := Lib.hid hA
  have HB := Lib.hid hB
  have HC := Lib.hid hC
  have HO := Lib.hid (hold : old.size = 26)
  clear hA hB hC hold
  go_upto_region 2 with (first
    | (go_at_call 15; refine (rquirks_v' he _).mono ?_; rintro _ w2 ⟨rfl, hB2⟩)
    | (refine wpList_store_rowTo rfl 39 _ _ rfl rfl w2.heap.size (quirkV d) rfl rfl 39 _ (heap_alloc_new w2 _) (quirkV_info d) (Eq.trans (b := 29) (by kernel_rfl) (quirkV_size d).symm) (quirkV_one d) ?_))
  rw [World.setRow_alloc_new]
  have ha3 := hB2.trans (((Below.refl w2.heap.size w2).alloc (Nat.le_refl _) (.cells (quirkV d) 39)).mono hB2.size)
  have HA3 := Lib.hid (blk_below HA.out ha3)
  have HB3 := Lib.hid (blk_below HB.out ha3)
  have HC3 := Lib.hid (blk_below HC.out ha3)
  have hb3 := hb.trans (ha3.mono hb.size)
  clear HA HB HC hb ha3 hB2
  generalize w2.alloc (.cells (quirkV d) 39) = w3 at HA3 HB3 HC3 hb3 ⊢
  obtain ⟨g0, g1, g2, g3, g4, g5⟩ := CellAt.of HB3.out
  go_wp2_with (first
    | (refine wpList_load_row rfl 28 _ rfl w.heap.size rfl 28 mv (0, 0) _ HA3.out Tryz.underlying28 rfl hM.info ?_)
    | (go_at_call 30; refine (rmem_v hM hm _).mono ?_; rintro _ w4 ⟨rfl, hB4⟩; have HA4 := Lib.hid (blk_below HA3.out hB4); have HB4 := Lib.hid (blk_below HB3.out hB4); have HC4 := Lib.hid (blk_below HC3.out hB4); have hb4 := hb3.trans (hB4.mono hb3.size); obtain ⟨f0, f1, f2, f3, f4, f5⟩ := CellAt.of HB4.out)
    | (go_at_call 8; refine (rvalid_v hv _).mono ?_; rintro _ w5 ⟨rfl, hB5⟩; have HA5 := Lib.hid (blk_below HA4.out hB5); have HB5 := Lib.hid (blk_below HB4.out hB5); have HC5 := Lib.hid (blk_below HC4.out hB5); have hb5 := hb4.trans (hB5.mono hb4.size))
    | (refine wpList_buildTo rfl 28 _ rfl (some 30) rfl zeroM (by kernel_rfl) ?_)
    | (refine wpList_store_rowTo rfl 28 _ _ rfl rfl (w.heap.size + 1 + 1) zeroM rfl rfl 28 _ HC5.out memV_zero.info (HO.out.trans memV_zero.size.symm) memV_zero.one ?_))
  refine bodyPost_ret (results_tmp_row_tmp Tryz.results11 _ _ (w.heap.size + 1 + 1) 28 zeroM (0, 0) _ rfl (setRow_heap _ _ _ _ _ _ HC5.out) Tryz.underlying28 rfl memV_zero.info _ _ rfl rfl) rfl ⟨_, _, rfl, memV_zero, ⟨rfl, .inl ⟨rfl, rfl⟩⟩, below_setRow hb5 (by omega) _⟩
end Go.Proofs.YtappnglfmidjoaaGreat.D
