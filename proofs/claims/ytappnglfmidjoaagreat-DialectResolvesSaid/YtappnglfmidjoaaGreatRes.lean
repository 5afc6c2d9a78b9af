/- Resolve of the program. -/
import Derived.Test.YtappnglfmidjoaaGreatCellE
import Derived.Test.YtappnglfmidjoaaGreatAnswer
import Derived.Deep.WholeRow
import Derived.StillTailTactics
set_option linter.unusedVariables false
set_option linter.unusedSimpArgs false
namespace Go.Proofs.YtappnglfmidjoaaGreat.D
open Go Go.RowKit Go.Proofs.YtappnglfmidjoaaGreat.DB Go.Great

theorem results_tmp_row_tmp {P : Program} {fn : Func} {t1 p u : Tmp} {ty : TypeId} (h : fn.results = #[.tmp t1, .cell p ty, .tmp u]) (tmps : Array Value) (w : World) (g : Nat) (t : TypeId) (cs : Array Value) (fr : Nat × Nat) (d : TypeDesc)
    (hp : tmps.getD p undef = .pointer (some ⟨g, 0, none⟩)) (hg : w.heap[g]? = some (.cells cs t fr))
    (hu : P.underlying ty = some d) (hd : (match d with | .struct _ | .array _ _ => true | _ => false) = true) (hi : (P.info? ty).map (·.size) = some cs.size) (x v : Value) (hx : tmps.getD t1 undef = x) (hv : tmps.getD u undef = v) :
    (results fn tmps).run P w = .ok (.tuple #[x, .agg cs, v]) w := by
  have hp' : tmps[p]?.getD undef = .pointer (some ⟨g, 0, none⟩) := by simpa using hp
  have hx' : tmps[t1]?.getD undef = x := by simpa using hx
  have hv' : tmps[u]?.getD undef = v := by simpa using hv
  simp [results, h, hp', hx', hv', asAddr, Sem.run_bind, run_loadVar_row w g t ty cs fr d hg hu hd hi]
/-- What a resolving gives: the operations in a row of new memory, the memory, the error. -/
def Out (w : World) (L : List (Int × Int × Int)) (ms : List Int) (e p err : Int) (En : Ending) (w' : World) : Prop :=
  ∃ v mv, En = .returned (.tuple #[v, .agg mv, .int .i64 err]) ∧ MemV mv ms e p ∧ w'.ownsRow w.heap.size 50 3 v L.length (opvs L) ∧ Below w.heap.size w w'
def zeros : List Int := List.replicate 24 0
def zeroM : Array Value := (zeros.map (Value.int .i64) ++ [Value.int .i64 0, Value.int .i64 0]).toArray
theorem memV_zero : MemV zeroM zeros 0 0 := ⟨rfl, rfl⟩
theorem builtM : Tryz.prog.built 28 [] = some zeroM := by kernel_rfl
theorem MemV.info {mv : Array Value} {ms : List Int} {e p : Int} (h : MemV mv ms e p) : (Tryz.prog.info? 28).map (·.size) = some mv.size := by rw [h.size]; exact info28
theorem MemV.one {mv : Array Value} {ms : List Int} {e p : Int} (h : MemV mv ms e p) : mv.all (·.oneCell') = true := by
  rw [h.arr]
  refine all_oneCell_toArray ?_
  intro v hv
  rcases List.mem_append.1 hv with hv | hv
  · obtain ⟨x, _, rfl⟩ := List.mem_map.1 hv; rfl
  · simp at hv; rcases hv with rfl | rfl <;> rfl
theorem _root_.Go.Proofs.YtappnglfmidjoaaGreat.DB.At.range {q T oP N base b : Nat} {w : World} {S : St} (h : At q T oP N base w b S) : w.rangeAt b 0 (S.slots.map (Value.int .i64) ++ [Value.int .i64 S.eff, Value.int .i64 S.par]) := by
  intro j v hv
  rw [Nat.zero_add]
  rw [List.getElem?_append] at hv
  split at hv
  · rename_i hj
    have hj' : j < 24 := by simpa [h.len] using hj
    rw [h.slot j hj', ← hv, List.getElem?_map, List.getD_eq_getElem?_getD, List.getElem?_eq_getElem (by rw [h.len]; exact hj')]
    rfl
  · rename_i hj
    have hl : (S.slots.map (Value.int .i64)).length = 24 := by simp [h.len]
    rw [hl] at hv hj
    have h2 := (List.getElem?_eq_some_iff.1 hv).1
    simp at h2
    rcases (by omega : j = 24 ∨ j = 25) with rfl | rfl
    · rw [h.ceff]; exact hv
    · rw [h.cpar]; exact hv
theorem own_setRow {q base b T : Nat} {w : World} {cs0 : Array Value} (hT : T ≠ q) (hc : w.heap[b]? = some (.cells cs0 T (0, 0))) {v : Value} {n : Nat} {xs : List Value} (ho : w.ownsRow base q 3 v n xs) (cs : Array Value) : (w.setRow b cs).ownsRow base q 3 v n xs := by
  obtain ⟨o1, o2⟩ := ho
  refine ⟨o1, ?_⟩
  rcases o2 with o2 | ⟨g, cap, cur, rfl, hg, hh, r⟩
  · exact .inl o2
  · refine .inr ⟨g, cap, cur, rfl, hg, ?_, r⟩
    have hne : b ≠ g := by
      rintro rfl
      rw [hc] at hh
      injection hh with hh
      injection hh with _ hh _
      exact hT hh
    show (w.heap.modify b _)[g]? = _
    rw [Array.getElem?_modify, if_neg hne]
    exact hh
theorem own_drew {q base : Nat} {w : World} {v : Value} {n : Nat} {xs : List Value} (ho : w.ownsRow base q 3 v n xs) : (w.drew).ownsRow base q 3 v n xs := ho
theorem own_base {q base base' : Nat} {w : World} {v : Value} {n : Nat} {xs : List Value} (h : base' ≤ base) (ho : w.ownsRow base q 3 v n xs) : w.ownsRow base' q 3 v n xs := by
  obtain ⟨o1, o2⟩ := ho
  refine ⟨o1, ?_⟩
  rcases o2 with o2 | ⟨g, cap, cur, rfl, hg, hh, r⟩
  · exact .inl o2
  · exact .inr ⟨g, cap, cur, rfl, by omega, hh, r⟩
theorem own_below {q base : Nat} {w w' : World} {v : Value} {n : Nat} {xs : List Value} (ho : w.ownsRow base q 3 v n xs) (hb : Below w.heap.size w w') : w'.ownsRow base q 3 v n xs := by
  obtain ⟨o1, o2⟩ := ho
  refine ⟨o1, ?_⟩
  rcases o2 with o2 | ⟨g, cap, cur, rfl, hg, hh, r⟩
  · exact .inl o2
  · exact .inr ⟨g, cap, cur, rfl, hg, (hb.block g (Array.getElem?_eq_some_iff.1 hh).1).trans hh, r⟩
theorem forget4 {P : Program} {c : Code} {Q : Exit → Act → World → Prop} {a : Act} {w : World} {A B C : Obj} (cs : Array Value) (t n : Nat) (hn : cs.size = n)
    (h : ∀ (w1 : World) (old : Array Value), old.size = n → w1.heap[w.heap.size]? = some A → w1.heap[w.heap.size + 1]? = some B → w1.heap[w.heap.size + 1 + 1]? = some C → w1.heap[w.heap.size + 1 + 1 + 1]? = some (.cells old t (0, 0)) → Below w.heap.size w w1 → c.wp P Q a w1) : c.wp P Q a ((((w.alloc A).alloc B).alloc C).alloc (.cells cs t)) := by
  have s1 : (w.alloc A).heap.size = w.heap.size + 1 := World.size_alloc _ _
  have s2 : ((w.alloc A).alloc B).heap.size = w.heap.size + 1 + 1 := by rw [World.size_alloc, s1]
  have s3 : (((w.alloc A).alloc B).alloc C).heap.size = w.heap.size + 1 + 1 + 1 := by rw [World.size_alloc, s2]
  have h0 := heap_alloc_new w A
  have h1 := heap_alloc_new (w.alloc A) B
  have h2 := heap_alloc_new ((w.alloc A).alloc B) C
  have h3 := heap_alloc_new (((w.alloc A).alloc B).alloc C) (.cells cs t)
  rw [s1] at h1
  rw [s2] at h2
  rw [s3] at h3
  have o := fun (w : World) (O : Obj) (i : Nat) (hi : i < w.heap.size) => Below.heap_alloc w O i hi
  refine h _ cs hn ?_ ?_ ?_ h3 ?_
  · rw [o _ _ _ (by omega), o _ _ _ (by omega), o _ _ _ (by omega)]; exact h0
  · rw [o _ _ _ (by omega), o _ _ _ (by omega)]; exact h1
  · rw [o _ _ _ (by omega)]; exact h2
  · exact ((((Below.refl _ _).alloc (Nat.le_refl _) _).alloc (by omega) _).alloc (by omega) _).alloc (by omega) _
theorem forget3 {P : Program} {c : Code} {Q : Exit → Act → World → Prop} {a : Act} {w : World} {A B : Obj} (cs : Array Value) (t n : Nat) (hn : cs.size = n)
    (h : ∀ (w1 : World) (old : Array Value), old.size = n → w1.heap[w.heap.size]? = some A → w1.heap[w.heap.size + 1]? = some B → w1.heap[w.heap.size + 1 + 1]? = some (.cells old t (0, 0)) → Below w.heap.size w w1 → c.wp P Q a w1) : c.wp P Q a (((w.alloc A).alloc B).alloc (.cells cs t)) := by
  have s1 : (w.alloc A).heap.size = w.heap.size + 1 := World.size_alloc _ _
  have s2 : ((w.alloc A).alloc B).heap.size = w.heap.size + 1 + 1 := by rw [World.size_alloc, s1]
  have h0 := heap_alloc_new w A
  have h1 := heap_alloc_new (w.alloc A) B
  have h2 := heap_alloc_new ((w.alloc A).alloc B) (.cells cs t)
  rw [s1] at h1
  rw [s2] at h2
  have o := fun (w : World) (O : Obj) (i : Nat) (hi : i < w.heap.size) => Below.heap_alloc w O i hi
  refine h _ cs hn ?_ ?_ h2 ?_
  · rw [o _ _ _ (by omega), o _ _ _ (by omega)]; exact h0
  · rw [o _ _ _ (by omega)]; exact h1
  · exact (((Below.refl _ _).alloc (Nat.le_refl _) _).alloc (by omega) _).alloc (by omega) _
theorem blk_below {w w' : World} {b : Nat} {o : Obj} (h : w.heap[b]? = some o) (hb : Below w.heap.size w w') : w'.heap[b]? = some o := (hb.block b (Array.getElem?_eq_some_iff.1 h).1).trans h
def outS (d n vc va ef pa : Int) (ms : List Int) (e p : Int) : St := St.askedS d n vc va ef pa (St.mem ms e p)
set_option maxRecDepth 100000 in
set_option maxHeartbeats 2000000 in
theorem ptres_a (d : Int) (h : inB d 1 6 = false) (mv : Array Value) (ms : List Int) (e p : Int) (hM : MemV mv ms e p) (n i vc va ef pa : Int) (w : World) :
    Calls Tryz.prog 29 #[.agg #[.int .i64 d, .map none], .agg mv, .agg (CellV n i vc va ef pa)] w (Out w [] zeros 0 0 6) := by
  go_enter Tryz.func29, Tryz.ntmps29
  go_upto_region 1 with fail
  refine forget4 _ _ 26 (by kernel_rfl) ?_
  intro w1 old hold hA hB hC hD hb
  have c0 := (cell_of hA 0).trans rfl
  have HA := Lib.hid hA
  have HB := Lib.hid hB
  have HC := Lib.hid hC
  have HD := Lib.hid hD
  have HO := Lib.hid (hold : old.size = 26)
  clear hA hB hC hD hold
  go_wp2_with (first | (go_at_call 18; refine (pis_v h _).mono ?_; rintro _ w2 ⟨rfl, rfl⟩) | (refine wpList_buildTo rfl 28 _ rfl (some 15) rfl zeroM (by kernel_rfl) ?_) | (refine wpList_store_rowTo rfl 28 _ _ rfl rfl (w.heap.size + 1 + 1 + 1) zeroM rfl rfl 28 _ HD.out memV_zero.info (HO.out.trans memV_zero.size.symm) memV_zero.one ?_))
  refine bodyPost_ret (results_tmp_row_tmp Tryz.results29 _ _ (w.heap.size + 1 + 1 + 1) 28 zeroM (0, 0) _ rfl (setRow_heap _ _ _ _ _ _ HD.out) Tryz.underlying28 rfl memV_zero.info _ _ rfl rfl) rfl ⟨_, _, rfl, memV_zero, ⟨rfl, .inl ⟨rfl, rfl⟩⟩, below_setRow hb (by omega) _⟩
theorem mem_bounds {ms : List Int} {e p : Int} (h : memOk ms e p = true) : 0 ≤ e ∧ e ≤ 36 := by
  unfold memOk at h
  simp only [Bool.and_eq_true, decide_eq_true_eq] at h
  exact h.2.1
theorem valid_bounds {d n i vc va ef pa : Int} (h : validD d n i vc va ef pa = true) : 0 ≤ ef ∧ ef ≤ 36 ∧ vc ≤ 10 ∧ 0 ≤ va ∧ va ≤ 99 := by
  unfold validD patOk volB effB inB at h
  simp only [Bool.and_eq_true, decide_eq_true_eq] at h
  obtain ⟨⟨⟨⟨_, ⟨_, h1⟩⟩, _⟩, h2⟩, _⟩ := h
  have h3 : cmdsD d ≤ 10 := by unfold cmdsD; repeat' split
                               all_goals omega
  omega
theorem wpStill_load_mid {P : Program} {ops : Array Oper} {w : World} {Q : Act → Prop} {a : Act} {op : Oper} {rest : List Oper} (hgd : op.guard = none) (ty : TypeId) (x : Operand) (ho : op.op = .load ty x)
    (b o : Nat) (hx : a.eval x = .pointer (some ⟨b, o, none⟩)) (cs : List Value) (d : TypeDesc) (hc : w.rangeAt b o cs)
    (hu : P.underlying ty = some d) (hd : d.isRow = true) (hi : (P.info? ty).map (·.size) = some cs.length)
    (h : wpStill P ops w Q rest (a.put op.dst (.agg cs.toArray))) : wpStill P ops w Q (op :: rest) a := by
  refine wpStill_step (fun K hK => ?_)
  have hw : Region.wanted op (yielded ops a.tmps) = true := by unfold Region.wanted; rw [hgd]
  rw [if_pos hw]
  unfold Oper.still execOp
  simp only [ho, hx, Instr.loadAt, Instr.sureAddr, Sem.run_bind, Sem.run_pure, Result.andThen_ok, run_loadVar_mid w b o ty cs d hc hu hd hi]
  exact ⟨rfl, hK _ h⟩
theorem CellAt.of {w : World} {m : Nat} {n i vc va ef pa : Int} (h : w.heap[m]? = some (.cells (CellV n i vc va ef pa) 23 (0, 0))) : CellAt w m n i vc va ef pa :=
  ⟨(cell_of h 0).trans rfl, (cell_of h 1).trans rfl, (cell_of h 2).trans rfl, (cell_of h 3).trans rfl, (cell_of h 4).trans rfl, (cell_of h 5).trans rfl⟩
theorem pmem_v {mv : Array Value} {ms : List Int} {e p : Int} {b : Bool} (hM : MemV mv ms e p) (h : memOk ms e p = b) (w : World) : Calls Tryz.prog 37 #[.agg mv] w fun e' w' => e' = .returned (.bool b) ∧ Below w.heap.size w w' :=
  (pvalidMemory mv ms e p hM w).mono fun _ _ ⟨h1, h2⟩ => ⟨h ▸ h1, h2 ▸ (Below.refl _ _).alloc (Nat.le_refl _) _⟩
theorem pvalid_v {d n i vc va ef pa : Int} {b : Bool} (h : validD d n i vc va ef pa = b) (w : World) : Calls Tryz.prog 7 #[.int .i64 d, .agg (CellV n i vc va ef pa)] w fun e w' => e = .returned (.bool b) ∧ Below w.heap.size w w' := h ▸ pvalidCell d n i vc va ef pa w
set_option maxRecDepth 100000 in
set_option maxHeartbeats 2000000 in
theorem ptres_b (d : Int) (h : inB d 1 6 = true) (mv : Array Value) (ms : List Int) (e p : Int) (hM : MemV mv ms e p) (n i vc va ef pa : Int) (hm : memOk ms e p = false) (w : World) :
    Calls Tryz.prog 29 #[.agg #[.int .i64 d, .map none], .agg mv, .agg (CellV n i vc va ef pa)] w (Out w [] zeros 0 0 1) := by
  go_enter Tryz.func29, Tryz.ntmps29
  go_upto_region 1 with fail
  refine forget4 _ _ 26 (by kernel_rfl) ?_
  intro w1 old hold hA hB hC hD hb
  have c0 := (cell_of hA 0).trans rfl
  have HA := Lib.hid hA
  have HB := Lib.hid hB
  have HC := Lib.hid hC
  have HD := Lib.hid hD
  have HO := Lib.hid (hold : old.size = 26)
  have hs1 := (Array.getElem?_eq_some_iff.1 hD).1
  clear hA hB hC hD hold
  go_wp2_with (first | (go_at_call 18; refine (pis_v h _).mono ?_; rintro _ w2 ⟨rfl, rfl⟩) | (refine wpList_load_row rfl 28 _ rfl (w.heap.size + 1) rfl 28 mv (0, 0) _ HB.out Tryz.underlying28 rfl hM.info ?_) | (go_at_call 37; refine (pmem_v hM hm _).mono ?_; rintro _ w3 ⟨rfl, hB3⟩; have c3 := (cell_of (blk_below HA.out hB3) 0).trans rfl; have hC3 := CellAt.of (blk_below HC.out hB3); have HA3 := Lib.hid (blk_below HA.out hB3); have HB3 := Lib.hid (blk_below HB.out hB3); have HC3 := Lib.hid (blk_below HC.out hB3); have HD3 := Lib.hid (blk_below HD.out hB3); have hb3 := hb.trans (hB3.mono hb.size); obtain ⟨f0, f1, f2, f3, f4, f5⟩ := hC3) | (refine wpList_buildTo rfl 28 _ rfl (some 27) rfl zeroM (by kernel_rfl) ?_) | (refine wpList_store_rowTo rfl 28 _ _ rfl rfl (w.heap.size + 1 + 1 + 1) zeroM rfl rfl 28 _ HD3.out memV_zero.info (HO.out.trans memV_zero.size.symm) memV_zero.one ?_))
  refine bodyPost_ret (results_tmp_row_tmp Tryz.results29 _ _ (w.heap.size + 1 + 1 + 1) 28 zeroM (0, 0) _ rfl (setRow_heap _ _ _ _ _ _ HD3.out) Tryz.underlying28 rfl memV_zero.info _ _ rfl rfl) rfl ⟨_, _, rfl, memV_zero, ⟨rfl, .inl ⟨rfl, rfl⟩⟩, below_setRow hb3 (by omega) _⟩
set_option maxRecDepth 100000 in
set_option maxHeartbeats 2000000 in
theorem ptres_c (d : Int) (h : inB d 1 6 = true) (mv : Array Value) (ms : List Int) (e p : Int) (hM : MemV mv ms e p) (n i vc va ef pa : Int) (hm : memOk ms e p = true) (hv : validD d n i vc va ef pa = false) (w : World) :
    Calls Tryz.prog 29 #[.agg #[.int .i64 d, .map none], .agg mv, .agg (CellV n i vc va ef pa)] w (Out w [] zeros 0 0 1) := by
  go_enter Tryz.func29, Tryz.ntmps29
  go_upto_region 1 with fail
  refine forget4 _ _ 26 (by kernel_rfl) ?_
  intro w1 old hold hA hB hC hD hb
  have c0 := (cell_of hA 0).trans rfl
  have HA := Lib.hid hA
  have HB := Lib.hid hB
  have HC := Lib.hid hC
  have HD := Lib.hid hD
  have HO := Lib.hid (hold : old.size = 26)
  have hs1 := (Array.getElem?_eq_some_iff.1 hD).1
  clear hA hB hC hD hold
  go_wp2_with (first | (go_at_call 18; refine (pis_v h _).mono ?_; rintro _ w2 ⟨rfl, rfl⟩) | (refine wpList_load_row rfl 28 _ rfl (w.heap.size + 1) rfl 28 mv (0, 0) _ HB.out Tryz.underlying28 rfl hM.info ?_) | (go_at_call 37; refine (pmem_v hM hm _).mono ?_; rintro _ w3 ⟨rfl, hB3⟩; have c3 := (cell_of (blk_below HA.out hB3) 0).trans rfl; have hC3 := CellAt.of (blk_below HC.out hB3); have HA3 := Lib.hid (blk_below HA.out hB3); have HB3 := Lib.hid (blk_below HB.out hB3); have HC3 := Lib.hid (blk_below HC.out hB3); have HD3 := Lib.hid (blk_below HD.out hB3); have hb3 := hb.trans (hB3.mono hb.size); obtain ⟨f0, f1, f2, f3, f4, f5⟩ := hC3) | (go_at_call 7; refine (pvalid_v hv _).mono ?_; rintro _ w4 ⟨rfl, hB4⟩; have HA4 := Lib.hid (blk_below HA3.out hB4); have HB4 := Lib.hid (blk_below HB3.out hB4); have HC4 := Lib.hid (blk_below HC3.out hB4); have HD4 := Lib.hid (blk_below HD3.out hB4); have hb4 := hb3.trans (hB4.mono hb3.size)) | (refine wpList_buildTo rfl 28 _ rfl (some 27) rfl zeroM (by kernel_rfl) ?_) | (refine wpList_store_rowTo rfl 28 _ _ rfl rfl (w.heap.size + 1 + 1 + 1) zeroM rfl rfl 28 _ HD4.out memV_zero.info (HO.out.trans memV_zero.size.symm) memV_zero.one ?_))
  refine bodyPost_ret (results_tmp_row_tmp Tryz.results29 _ _ (w.heap.size + 1 + 1 + 1) 28 zeroM (0, 0) _ rfl (setRow_heap _ _ _ _ _ _ HD4.out) Tryz.underlying28 rfl memV_zero.info _ _ rfl rfl) rfl ⟨_, _, rfl, memV_zero, ⟨rfl, .inl ⟨rfl, rfl⟩⟩, below_setRow hb4 (by omega) _⟩
set_option maxRecDepth 100000 in
set_option maxHeartbeats 2000000 in
theorem ptres_d (d : Int) (h : inB d 1 6 = true) (mv : Array Value) (ms : List Int) (e p : Int) (hM : MemV mv ms e p) (n i vc va ef pa : Int) (hm : memOk ms e p = true) (hv : validD d n i vc va ef pa = true) (w : World) :
    Calls Tryz.prog 29 #[.agg #[.int .i64 d, .map none], .agg mv, .agg (CellV n i vc va ef pa)] w (Out w (outS d n vc va ef pa ms e p).ops (outS d n vc va ef pa ms e p).slots (outS d n vc va ef pa ms e p).eff (outS d n vc va ef pa ms e p).par 0) := by
  have hd : 1 ≤ d ∧ d ≤ 6 := by simpa [inB] using h
  have hbd := valid_bounds hv
  have hme := mem_bounds hm
  go_enter Tryz.func29, Tryz.ntmps29
  go_upto_region 1 with fail
  refine forget4 _ _ 26 (by kernel_rfl) ?_
  intro w1 old hold hA hB hC hD hb
  have c0 := (cell_of hA 0).trans rfl
  have HA := Lib.hid hA
  have HB := Lib.hid hB
  have HC := Lib.hid hC
  have HD := Lib.hid hD
  have HO := Lib.hid (hold : old.size = 26)
  have hs1 := (Array.getElem?_eq_some_iff.1 hD).1
  clear hA hB hC hD hold
  go_upto_region 5 with (first | (go_at_call 18; refine (pis_v h _).mono ?_; rintro _ w2 ⟨rfl, rfl⟩) | (refine wpList_load_row rfl 28 _ rfl (w.heap.size + 1) rfl 28 mv (0, 0) _ HB.out Tryz.underlying28 rfl hM.info ?_) | (go_at_call 37; refine (pmem_v hM hm _).mono ?_; rintro _ w3 ⟨rfl, hB3⟩; have c3 := (cell_of (blk_below HA.out hB3) 0).trans rfl; have hC3 := CellAt.of (blk_below HC.out hB3); have HA3 := Lib.hid (blk_below HA.out hB3); have HB3 := Lib.hid (blk_below HB.out hB3); have HC3 := Lib.hid (blk_below HC.out hB3); have HD3 := Lib.hid (blk_below HD.out hB3); have hb3 := hb.trans (hB3.mono hb.size); obtain ⟨f0, f1, f2, f3, f4, f5⟩ := hC3) | (go_at_call 7; refine (pvalid_v hv _).mono ?_; rintro _ w4 ⟨rfl, hB4⟩; have HA4 := Lib.hid (blk_below HA3.out hB4); have HB4 := Lib.hid (blk_below HB3.out hB4); have HC4 := Lib.hid (blk_below HC3.out hB4); have HD4 := Lib.hid (blk_below HD3.out hB4); have hb4 := hb3.trans (hB4.mono hb3.size)))
  clear HA HB HC HD HA3 HB3 HC3 HD3 hb hb3
  go_upto_region 6 with (first
    | (refine wpList_load_row rfl 53 _ rfl w.heap.size rfl 53 #[.int .i64 d, .map none] (0, 0) _ HA4.out Tryz.underlying53 rfl info53 ?_)
    | (refine wpList_load_row rfl 28 _ rfl (w.heap.size + 1) rfl 28 mv (0, 0) _ HB4.out Tryz.underlying28 rfl hM.info ?_)
    | (refine wpList_load_row rfl 23 _ rfl (w.heap.size + 1 + 1) rfl 23 (CellV n i vc va ef pa) (0, 0) _ HC4.out Tryz.underlying23 rfl info23 ?_)
    | (go_at_call 38; refine (pasked d hd.1 hd.2 mv ms e p hM n i vc va ef pa _ hbd.1 hbd.2.1 hme.1 hme.2 hbd.2.2.1 hbd.2.2.2.1 hbd.2.2.2.2).mono ?_; rintro _ w5 ⟨b, rfl, hA5, hB5⟩; have hs4 := hb4.size; have HD5 := Lib.hid (blk_below HD4.out hB5); have hb5 := hb4.trans (hB5.mono hb4.size)))
  clear HA4 HB4 HC4 HD4 hb4
  replace hA5 : PAt _ w5 b (outS d n vc va ef pa ms e p) := hA5
  obtain ⟨v, hv5, ho5⟩ := hA5.cops
  replace hv5 : w5.drew.cell? ⟨b, 30, none⟩ = some v := hv5
  have hr5 := hA5.drew.range
  have hM5 : MemV ((outS d n vc va ef pa ms e p).slots.map (Value.int .i64) ++ [Value.int .i64 (outS d n vc va ef pa ms e p).eff, Value.int .i64 (outS d n vc va ef pa ms e p).par]).toArray (outS d n vc va ef pa ms e p).slots (outS d n vc va ef pa ms e p).eff (outS d n vc va ef pa ms e p).par := ⟨hA5.len, rfl⟩
  have hl5 : ((outS d n vc va ef pa ms e p).slots.map (Value.int .i64) ++ [Value.int .i64 (outS d n vc va ef pa ms e p).eff, Value.int .i64 (outS d n vc va ef pa ms e p).par]).length = 26 := by have := hM5.size; simpa using this
  have ho6 := own_base (base' := w.heap.size) (by have := hs4; omega) (own_drew ho5)
  generalize outS d n vc va ef pa ms e p = S at *
  generalize hcl : S.slots.map (Value.int .i64) ++ [Value.int .i64 S.eff, Value.int .i64 S.par] = cl at hr5 hM5 hl5
  have HR5 := Lib.hid hr5
  have HM5 := Lib.hid hM5
  have HO6 := Lib.hid ho6
  have hD6 : w5.drew.heap[w.heap.size + 1 + 1 + 1]? = some (.cells old 28 (0, 0)) := HD5.out
  have HD6 := Lib.hid hD6
  have hb6 := below_drew hb5
  have hi6 : (Tryz.prog.info? 28).map (·.size) = some cl.length := by rw [hl5]; exact info28
  have HI6 := Lib.hid hi6
  have HL5 := Lib.hid hl5
  clear hr5 hM5 hl5 ho5 ho6 hD6 HD5 hi6 hcl hA5 hB5
  go_still_tail 9, (by kernel_rfl)
  refine wpStill_load_mid rfl 28 _ rfl b 0 rfl cl _ HR5.out Tryz.underlying28 rfl HI6.out ?_
  repeat still_step
  refine wpStill_nil ?_
  change wpList _ _ _ _ _ w5.drew
  generalize w5.drew = w6 at hv5 HR5 HO6 HD6 hb6 ⊢
  go_wp2_with (first
    | (refine wpList_store_rowTo rfl 28 _ _ rfl rfl (w.heap.size + 1 + 1 + 1) cl.toArray rfl rfl 28 _ HD6.out HM5.out.info (HO.out.trans HM5.out.size.symm) HM5.out.one ?_))
  refine bodyPost_ret (results_tmp_row_tmp Tryz.results29 _ _ (w.heap.size + 1 + 1 + 1) 28 cl.toArray (0, 0) _ rfl (setRow_heap _ _ _ _ _ _ HD6.out) Tryz.underlying28 rfl HM5.out.info _ _ rfl rfl) rfl ⟨_, _, rfl, HM5.out, own_setRow (by decide) HD6.out HO6.out _, below_setRow hb6 (by omega) _⟩
end Go.Proofs.YtappnglfmidjoaaGreat.D
