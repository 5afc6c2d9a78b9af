/- Resolve of the reference: the ways on which a cell is resolved. -/
import Derived.Test.YtappnglfmidjoaaGreatRefJ
set_option linter.unusedVariables false
set_option linter.unusedSimpArgs false
namespace Go.Proofs.YtappnglfmidjoaaGreat.D
open Go Go.RowKit Go.Proofs.YtappnglfmidjoaaGreat.DB Go.Great

set_option maxRecDepth 100000 in
set_option maxHeartbeats 4000000 in
theorem rres_v_e (d : Int) (mv : Array Value) (ms : List Int) (e p : Int) (hM : MemV mv ms e p) (n i vc va ef pa : Int) (hd : inB d 1 6 = true) (hm : memOk ms e p = true) (hv : validD d n i vc va ef pa = true) (hpa0 : 0 ≤ pa) (hpa1 : pa ≤ 255) (S1 S2 S3 : St) (h1 : St.colS d vc va (St.mem ms e p) = S1) (v0 : (vc != 0) = true) (hvc : 1 ≤ vc) (va0 : 0 ≤ va) (va1 : va ≤ 99) (hdc : d = 2 ∧ vc ≤ 1 ∨ d = 3 ∧ vc ≤ 8 ∨ d = 4 ∧ vc ≤ 10) (h5 : (d == 5) = false) (hd5 : ¬ d = 5) (h2 : S1 = S2) (hef0 : 0 ≤ ef) (hef1 : ef ≤ 36) (hE : (ef != 0) = true) (hE1 : 1 ≤ ef) (F : St → St) (hF : tabOf d (letterR ef) = some F) (hL : hasL d (letterR ef) = true) (h3 : F (S2.put pa) = S3) (o1 : S1.ops.length ≤ 1) (o2 : S2.ops.length ≤ 2)  (w : World) :
    Calls Tryz.prog 11 #[.int .i64 d, .agg mv, .agg (CellV n i vc va ef pa)] w (Out w S3.ops S3.slots S3.eff S3.par 0) := by
  have he : errQ d = 0 := by simp [errQ, hd]
  have hdd : 1 ≤ d ∧ d ≤ 6 := by simpa [inB] using hd
  have H1 := Lib.hid h1
  have H2 := Lib.hid h2
  have H3 := Lib.hid h3
  clear h1 h2 h3
  have HVC := Lib.hid hvc
  have HD5 := Lib.hid hd5
  clear hvc hd5
  have HDC := Lib.hid hdc
  clear hdc
  have HF := Lib.hid hF
  have HLL := Lib.hid hL
  clear hF hL
  go_enter Tryz.func11, Tryz.ntmps11
  go_upto_region 1 with fail
  refine forget3 _ _ 26 (by kernel_rfl) ?_
  intro w1 old hold hA hB hC hb
  have HA := Lib.hid hA
  have HB := Lib.hid hB
  have HC := Lib.hid hC
  have HO := Lib.hid (hold : old.size = 26)
  clear hA hB hC hold
  go_upto_region 2 with (first
    | (go_at_call 15; refine (rquirks_v' he _).mono ?_; rintro _ w2 ⟨rfl, hB2⟩)
    | (refine wpList_store_rowTo rfl 39 _ _ rfl rfl w2.heap.size (quirkV d) rfl rfl 39 _ (heap_alloc_new w2 _) (quirkV_info d) (Eq.trans (b := 29) (by kernel_rfl) (quirkV_size d).symm) (quirkV_one d) ?_))
  rw [World.setRow_alloc_new]
  have ha3 := hB2.trans (((Below.refl w2.heap.size w2).alloc (Nat.le_refl _) (.cells (quirkV d) 39)).mono hB2.size)
  have HA3 := Lib.hid (blk_below HA.out ha3)
  have HB3 := Lib.hid (blk_below HB.out ha3)
  have HC3 := Lib.hid (blk_below HC.out ha3)
  have hb3 := hb.trans (ha3.mono hb.size)
  clear HA HB HC hb ha3 hB2
  generalize w2.alloc (.cells (quirkV d) 39) = w3 at HA3 HB3 HC3 hb3 ⊢
  obtain ⟨g0, g1, g2, g3, g4, g5⟩ := CellAt.of HB3.out
  go_upto_region 6 with (first
    | (refine wpList_load_row rfl 28 _ rfl w.heap.size rfl 28 mv (0, 0) _ HA3.out Tryz.underlying28 rfl hM.info ?_)
    | (go_at_call 30; refine (rmem_v hM hm _).mono ?_; rintro _ w4 ⟨rfl, hB4⟩; have HA4 := Lib.hid (blk_below HA3.out hB4); have HB4 := Lib.hid (blk_below HB3.out hB4); have HC4 := Lib.hid (blk_below HC3.out hB4); have hb4 := hb3.trans (hB4.mono hb3.size); obtain ⟨f0, f1, f2, f3, f4, f5⟩ := CellAt.of HB4.out)
    | (go_at_call 8; refine (rvalid_v hv _).mono ?_; rintro _ w5 ⟨rfl, hB5⟩; have HA5 := Lib.hid (blk_below HA4.out hB5); have HB5 := Lib.hid (blk_below HB4.out hB5); have HC5 := Lib.hid (blk_below HC4.out hB5); have hb5 := hb4.trans (hB5.mono hb4.size)))
  clear HA3 HB3 HC3 HA4 HB4 HC4 hb3 hb4 g0 g1 g2 g3 g4 g5 f0 f1 f2 f3 f4 f5 hB4 hB5
  obtain ⟨ca, hca, hbl⟩ : ∃ ca, ca = mv ++ #[.int .i64 0, .int .i64 0, .int .i64 0, .slice none 0 0] ∧ ∀ w, (Instr.build 58 #[(0, .agg mv)]).run Tryz.prog w = .ok (.agg ca) w := ⟨_, rfl, build58 mv hM.size⟩
  have HBL := Lib.hid hbl
  have HCA := Lib.hid hca
  clear hbl hca
  go_upto_region 7 with (first
    | (refine wpList_load_row rfl 28 _ rfl w.heap.size rfl 28 mv (0, 0) _ HA5.out Tryz.underlying28 rfl hM.info ?_)
    | (refine wpList_build1 rfl 58 0 _ rfl (.agg mv) (.agg ca) rfl (HBL.out _) ?_))
  have hx6 := heap_alloc_new w5 (.cells ca 58)
  rw [HCA.out] at hx6
  have hA6 : RAt w.heap.size (w5.alloc (.cells ca 58)) w5.heap.size (St.mem ms e p) := At.startR hM hb5.size (by rw [HCA.out]; exact hx6)
  have hal : Below w5.heap.size w5 (w5.alloc (.cells ca 58)) := (Below.refl _ _).alloc (Nat.le_refl _) _
  have HB6 := Lib.hid (blk_below HB5.out hal)
  have HC6 := Lib.hid (blk_below HC5.out hal)
  have hb6 := hb5.trans (hal.mono hb5.size)
  have hn1 : w.heap.size + 1 < w5.heap.size := (Array.getElem?_eq_some_iff.1 HB5.out).1
  have hn2 : w.heap.size + 1 + 1 < w5.heap.size := (Array.getElem?_eq_some_iff.1 HC5.out).1
  have hn0 : w.heap.size ≤ w5.heap.size := hb5.size
  clear HA5 HB5 HC5 hb5 hal hx6 HBL HCA
  generalize w5.alloc (.cells ca 58) = w6 at hA6 HB6 HC6 hb6 ⊢
  generalize w5.heap.size = b at hA6 hn0 hn1 hn2 ⊢
  obtain ⟨g0, g1, g2, g3, g4, g5⟩ := CellAt.of HB6.out
  go_upto_region 13 with (first
    | (go_at_call 31; refine (r_column w.heap.size b _ (St.mem ms e p) d vc va HDC.out HVC.out va0 va1 (by simp [St.mem]) hA6).mono ?_; rintro _ w7 ⟨rfl, hA7, hK7⟩; have HB7 := Lib.hid (apart_new hK7 HB6.out (by omega) (by decide)); have HC7 := Lib.hid (apart_new hK7 HC6.out (by omega) (by decide)); have hb7 := hb6.trans (hK7.below hn0 (Nat.le_refl _) hb6.size); obtain ⟨z70, z71, z72, z73, z74, z75⟩ := CellAt.of HB7.out)
    | (go_at_call 33; refine (r_effect w.heap.size b _ S2 d ef pa F hdd.1 hdd.2 HD5.out hE1 hef1 HLL.out HF.out hpa0 hpa1 (by omega) (At.eq (At.eq hA7 (show _ = S1 from by rw [← H1.out]; unfold St.colS; rw [if_pos (by have := HVC.out; omega)])) H2.out)).mono ?_; rintro _ w9 ⟨rfl, hA9, hK9⟩; have HB9 := Lib.hid (apart_new hK9 HB7.out (by omega) (by decide)); have HC9 := Lib.hid (apart_new hK9 HC7.out (by omega) (by decide)); have hb9 := hb7.trans (hK9.below hn0 (Nat.le_refl _) hb7.size); obtain ⟨z90, z91, z92, z93, z94, z95⟩ := CellAt.of HB9.out))
  have hAF : RAt w.heap.size w9 b S3 := (At.eq hA9 H3.out)
  obtain ⟨v, hv5, ho5⟩ := hAF.cops
  replace hv5 : w9.drew.cell? ⟨b, 29, none⟩ = some v := hv5
  have hr5 := hAF.drew.range
  have hM5 : MemV (S3.slots.map (Value.int .i64) ++ [Value.int .i64 S3.eff, Value.int .i64 S3.par]).toArray S3.slots S3.eff S3.par := ⟨hAF.len, rfl⟩
  have hl5 : (S3.slots.map (Value.int .i64) ++ [Value.int .i64 S3.eff, Value.int .i64 S3.par]).length = 26 := by have := hM5.size; simpa using this
  have ho6 := own_drew ho5
  generalize hcl : S3.slots.map (Value.int .i64) ++ [Value.int .i64 S3.eff, Value.int .i64 S3.par] = cl at hr5 hM5 hl5
  have HR5 := Lib.hid hr5
  have HM5 := Lib.hid hM5
  have HO6 := Lib.hid ho6
  have hD6 : w9.drew.heap[w.heap.size + 1 + 1]? = some (.cells old 28 (0, 0)) := HC9.out
  have HD6 := Lib.hid hD6
  have hb16 := below_drew hb9
  have hi6 : (Tryz.prog.info? 28).map (·.size) = some cl.length := by rw [hl5]; exact info28
  have HI6 := Lib.hid hi6
  clear hr5 hM5 hl5 ho5 ho6 hD6 hi6 hcl hAF
  go_still_tail 9, (by kernel_rfl)
  refine wpStill_load_mid rfl 28 _ rfl b 0 rfl cl _ HR5.out Tryz.underlying28 rfl HI6.out ?_
  repeat still_step
  refine wpStill_nil ?_
  change wpList _ _ _ _ _ w9.drew
  generalize w9.drew = w16 at hv5 HR5 HO6 HD6 hb16 ⊢
  go_wp2_with (first
    | (refine wpList_store_rowTo rfl 28 _ _ rfl rfl (w.heap.size + 1 + 1) cl.toArray rfl rfl 28 _ HD6.out HM5.out.info (HO.out.trans HM5.out.size.symm) HM5.out.one ?_))
  refine bodyPost_ret (results_tmp_row_tmp Tryz.results11 _ _ (w.heap.size + 1 + 1) 28 cl.toArray (0, 0) _ rfl (setRow_heap _ _ _ _ _ _ HD6.out) Tryz.underlying28 rfl HM5.out.info _ _ rfl rfl) rfl ⟨_, _, rfl, HM5.out, own_setRow (by decide) HD6.out HO6.out _, below_setRow hb16 (by omega) _⟩
set_option maxRecDepth 100000 in
set_option maxHeartbeats 4000000 in
theorem rres_v_n (d : Int) (mv : Array Value) (ms : List Int) (e p : Int) (hM : MemV mv ms e p) (n i vc va ef pa : Int) (hd : inB d 1 6 = true) (hm : memOk ms e p = true) (hv : validD d n i vc va ef pa = true) (hpa0 : 0 ≤ pa) (hpa1 : pa ≤ 255) (S1 S2 S3 : St) (h1 : St.colS d vc va (St.mem ms e p) = S1) (v0 : (vc != 0) = true) (hvc : 1 ≤ vc) (va0 : 0 ≤ va) (va1 : va ≤ 99) (hdc : d = 2 ∧ vc ≤ 1 ∨ d = 3 ∧ vc ≤ 8 ∨ d = 4 ∧ vc ≤ 10) (h5 : (d == 5) = false) (hd5 : ¬ d = 5) (h2 : S1 = S2) (hef0 : 0 ≤ ef) (hef1 : ef ≤ 36) (hE : (ef != 0) = false) (h3 : S2 = S3) (o1 : S1.ops.length ≤ 1) (o2 : S2.ops.length ≤ 2)  (w : World) :
    Calls Tryz.prog 11 #[.int .i64 d, .agg mv, .agg (CellV n i vc va ef pa)] w (Out w S3.ops S3.slots S3.eff S3.par 0) := by
  have he : errQ d = 0 := by simp [errQ, hd]
  have hdd : 1 ≤ d ∧ d ≤ 6 := by simpa [inB] using hd
  have H1 := Lib.hid h1
  have H2 := Lib.hid h2
  have H3 := Lib.hid h3
  clear h1 h2 h3
  have HVC := Lib.hid hvc
  have HD5 := Lib.hid hd5
  clear hvc hd5
  have HDC := Lib.hid hdc
  clear hdc
  go_enter Tryz.func11, Tryz.ntmps11
  go_upto_region 1 with fail
  refine forget3 _ _ 26 (by kernel_rfl) ?_
  intro w1 old hold hA hB hC hb
  have HA := Lib.hid hA
  have HB := Lib.hid hB
  have HC := Lib.hid hC
  have HO := Lib.hid (hold : old.size = 26)
  clear hA hB hC hold
  go_upto_region 2 with (first
    | (go_at_call 15; refine (rquirks_v' he _).mono ?_; rintro _ w2 ⟨rfl, hB2⟩)
    | (refine wpList_store_rowTo rfl 39 _ _ rfl rfl w2.heap.size (quirkV d) rfl rfl 39 _ (heap_alloc_new w2 _) (quirkV_info d) (Eq.trans (b := 29) (by kernel_rfl) (quirkV_size d).symm) (quirkV_one d) ?_))
  rw [World.setRow_alloc_new]
  have ha3 := hB2.trans (((Below.refl w2.heap.size w2).alloc (Nat.le_refl _) (.cells (quirkV d) 39)).mono hB2.size)
  have HA3 := Lib.hid (blk_below HA.out ha3)
  have HB3 := Lib.hid (blk_below HB.out ha3)
  have HC3 := Lib.hid (blk_below HC.out ha3)
  have hb3 := hb.trans (ha3.mono hb.size)
  clear HA HB HC hb ha3 hB2
  generalize w2.alloc (.cells (quirkV d) 39) = w3 at HA3 HB3 HC3 hb3 ⊢
  obtain ⟨g0, g1, g2, g3, g4, g5⟩ := CellAt.of HB3.out
  go_upto_region 6 with (first
    | (refine wpList_load_row rfl 28 _ rfl w.heap.size rfl 28 mv (0, 0) _ HA3.out Tryz.underlying28 rfl hM.info ?_)
    | (go_at_call 30; refine (rmem_v hM hm _).mono ?_; rintro _ w4 ⟨rfl, hB4⟩; have HA4 := Lib.hid (blk_below HA3.out hB4); have HB4 := Lib.hid (blk_below HB3.out hB4); have HC4 := Lib.hid (blk_below HC3.out hB4); have hb4 := hb3.trans (hB4.mono hb3.size); obtain ⟨f0, f1, f2, f3, f4, f5⟩ := CellAt.of HB4.out)
    | (go_at_call 8; refine (rvalid_v hv _).mono ?_; rintro _ w5 ⟨rfl, hB5⟩; have HA5 := Lib.hid (blk_below HA4.out hB5); have HB5 := Lib.hid (blk_below HB4.out hB5); have HC5 := Lib.hid (blk_below HC4.out hB5); have hb5 := hb4.trans (hB5.mono hb4.size)))
  clear HA3 HB3 HC3 HA4 HB4 HC4 hb3 hb4 g0 g1 g2 g3 g4 g5 f0 f1 f2 f3 f4 f5 hB4 hB5
  obtain ⟨ca, hca, hbl⟩ : ∃ ca, ca = mv ++ #[.int .i64 0, .int .i64 0, .int .i64 0, .slice none 0 0] ∧ ∀ w, (Instr.build 58 #[(0, .agg mv)]).run Tryz.prog w = .ok (.agg ca) w := ⟨_, rfl, build58 mv hM.size⟩
  have HBL := Lib.hid hbl
  have HCA := Lib.hid hca
  clear hbl hca
  go_upto_region 7 with (first
    | (refine wpList_load_row rfl 28 _ rfl w.heap.size rfl 28 mv (0, 0) _ HA5.out Tryz.underlying28 rfl hM.info ?_)
    | (refine wpList_build1 rfl 58 0 _ rfl (.agg mv) (.agg ca) rfl (HBL.out _) ?_))
  have hx6 := heap_alloc_new w5 (.cells ca 58)
  rw [HCA.out] at hx6
  have hA6 : RAt w.heap.size (w5.alloc (.cells ca 58)) w5.heap.size (St.mem ms e p) := At.startR hM hb5.size (by rw [HCA.out]; exact hx6)
  have hal : Below w5.heap.size w5 (w5.alloc (.cells ca 58)) := (Below.refl _ _).alloc (Nat.le_refl _) _
  have HB6 := Lib.hid (blk_below HB5.out hal)
  have HC6 := Lib.hid (blk_below HC5.out hal)
  have hb6 := hb5.trans (hal.mono hb5.size)
  have hn1 : w.heap.size + 1 < w5.heap.size := (Array.getElem?_eq_some_iff.1 HB5.out).1
  have hn2 : w.heap.size + 1 + 1 < w5.heap.size := (Array.getElem?_eq_some_iff.1 HC5.out).1
  have hn0 : w.heap.size ≤ w5.heap.size := hb5.size
  clear HA5 HB5 HC5 hb5 hal hx6 HBL HCA
  generalize w5.alloc (.cells ca 58) = w6 at hA6 HB6 HC6 hb6 ⊢
  generalize w5.heap.size = b at hA6 hn0 hn1 hn2 ⊢
  obtain ⟨g0, g1, g2, g3, g4, g5⟩ := CellAt.of HB6.out
  go_upto_region 13 with (first
    | (go_at_call 31; refine (r_column w.heap.size b _ (St.mem ms e p) d vc va HDC.out HVC.out va0 va1 (by simp [St.mem]) hA6).mono ?_; rintro _ w7 ⟨rfl, hA7, hK7⟩; have HB7 := Lib.hid (apart_new hK7 HB6.out (by omega) (by decide)); have HC7 := Lib.hid (apart_new hK7 HC6.out (by omega) (by decide)); have hb7 := hb6.trans (hK7.below hn0 (Nat.le_refl _) hb6.size); obtain ⟨z70, z71, z72, z73, z74, z75⟩ := CellAt.of HB7.out))
  have hAF : RAt w.heap.size w7 b S3 := (At.eq (At.eq (At.eq hA7 (show _ = S1 from by rw [← H1.out]; unfold St.colS; rw [if_pos (by have := HVC.out; omega)])) H2.out) H3.out)
  obtain ⟨v, hv5, ho5⟩ := hAF.cops
  replace hv5 : w7.drew.cell? ⟨b, 29, none⟩ = some v := hv5
  have hr5 := hAF.drew.range
  have hM5 : MemV (S3.slots.map (Value.int .i64) ++ [Value.int .i64 S3.eff, Value.int .i64 S3.par]).toArray S3.slots S3.eff S3.par := ⟨hAF.len, rfl⟩
  have hl5 : (S3.slots.map (Value.int .i64) ++ [Value.int .i64 S3.eff, Value.int .i64 S3.par]).length = 26 := by have := hM5.size; simpa using this
  have ho6 := own_drew ho5
  generalize hcl : S3.slots.map (Value.int .i64) ++ [Value.int .i64 S3.eff, Value.int .i64 S3.par] = cl at hr5 hM5 hl5
  have HR5 := Lib.hid hr5
  have HM5 := Lib.hid hM5
  have HO6 := Lib.hid ho6
  have hD6 : w7.drew.heap[w.heap.size + 1 + 1]? = some (.cells old 28 (0, 0)) := HC7.out
  have HD6 := Lib.hid hD6
  have hb16 := below_drew hb7
  have hi6 : (Tryz.prog.info? 28).map (·.size) = some cl.length := by rw [hl5]; exact info28
  have HI6 := Lib.hid hi6
  clear hr5 hM5 hl5 ho5 ho6 hD6 hi6 hcl hAF
  go_still_tail 9, (by kernel_rfl)
  refine wpStill_load_mid rfl 28 _ rfl b 0 rfl cl _ HR5.out Tryz.underlying28 rfl HI6.out ?_
  repeat still_step
  refine wpStill_nil ?_
  change wpList _ _ _ _ _ w7.drew
  generalize w7.drew = w16 at hv5 HR5 HO6 HD6 hb16 ⊢
  go_wp2_with (first
    | (refine wpList_store_rowTo rfl 28 _ _ rfl rfl (w.heap.size + 1 + 1) cl.toArray rfl rfl 28 _ HD6.out HM5.out.info (HO.out.trans HM5.out.size.symm) HM5.out.one ?_))
  refine bodyPost_ret (results_tmp_row_tmp Tryz.results11 _ _ (w.heap.size + 1 + 1) 28 cl.toArray (0, 0) _ rfl (setRow_heap _ _ _ _ _ _ HD6.out) Tryz.underlying28 rfl HM5.out.info _ _ rfl rfl) rfl ⟨_, _, rfl, HM5.out, own_setRow (by decide) HD6.out HO6.out _, below_setRow hb16 (by omega) _⟩
set_option maxRecDepth 100000 in
set_option maxHeartbeats 4000000 in
theorem rres_e (d : Int) (mv : Array Value) (ms : List Int) (e p : Int) (hM : MemV mv ms e p) (n i vc va ef pa : Int) (hd : inB d 1 6 = true) (hm : memOk ms e p = true) (hv : validD d n i vc va ef pa = true) (hpa0 : 0 ≤ pa) (hpa1 : pa ≤ 255) (S1 S2 S3 : St) (h1 : St.colS d vc va (St.mem ms e p) = S1) (v0 : (vc != 0) = false) (hvc : vc = 0) (h5 : (d == 5) = false) (hd5 : ¬ d = 5) (h2 : S1 = S2) (hef0 : 0 ≤ ef) (hef1 : ef ≤ 36) (hE : (ef != 0) = true) (hE1 : 1 ≤ ef) (F : St → St) (hF : tabOf d (letterR ef) = some F) (hL : hasL d (letterR ef) = true) (h3 : F (S2.put pa) = S3) (o1 : S1.ops.length ≤ 1) (o2 : S2.ops.length ≤ 2)  (w : World) :
    Calls Tryz.prog 11 #[.int .i64 d, .agg mv, .agg (CellV n i vc va ef pa)] w (Out w S3.ops S3.slots S3.eff S3.par 0) := by
  have he : errQ d = 0 := by simp [errQ, hd]
  have hdd : 1 ≤ d ∧ d ≤ 6 := by simpa [inB] using hd
  have H1 := Lib.hid h1
  have H2 := Lib.hid h2
  have H3 := Lib.hid h3
  clear h1 h2 h3
  have HVC := Lib.hid hvc
  have HD5 := Lib.hid hd5
  clear hvc hd5
  have HF := Lib.hid hF
  have HLL := Lib.hid hL
  clear hF hL
  go_enter Tryz.func11, Tryz.ntmps11
  go_upto_region 1 with fail
  refine forget3 _ _ 26 (by kernel_rfl) ?_
  intro w1 old hold hA hB hC hb
  have HA := Lib.hid hA
  have HB := Lib.hid hB
  have HC := Lib.hid hC
  have HO := Lib.hid (hold : old.size = 26)
  clear hA hB hC hold
  go_upto_region 2 with (first
    | (go_at_call 15; refine (rquirks_v' he _).mono ?_; rintro _ w2 ⟨rfl, hB2⟩)
    | (refine wpList_store_rowTo rfl 39 _ _ rfl rfl w2.heap.size (quirkV d) rfl rfl 39 _ (heap_alloc_new w2 _) (quirkV_info d) (Eq.trans (b := 29) (by kernel_rfl) (quirkV_size d).symm) (quirkV_one d) ?_))
  rw [World.setRow_alloc_new]
  have ha3 := hB2.trans (((Below.refl w2.heap.size w2).alloc (Nat.le_refl _) (.cells (quirkV d) 39)).mono hB2.size)
  have HA3 := Lib.hid (blk_below HA.out ha3)
  have HB3 := Lib.hid (blk_below HB.out ha3)
  have HC3 := Lib.hid (blk_below HC.out ha3)
  have hb3 := hb.trans (ha3.mono hb.size)
  clear HA HB HC hb ha3 hB2
  generalize w2.alloc (.cells (quirkV d) 39) = w3 at HA3 HB3 HC3 hb3 ⊢
  obtain ⟨g0, g1, g2, g3, g4, g5⟩ := CellAt.of HB3.out
  go_upto_region 6 with (first
    | (refine wpList_load_row rfl 28 _ rfl w.heap.size rfl 28 mv (0, 0) _ HA3.out Tryz.underlying28 rfl hM.info ?_)
    | (go_at_call 30; refine (rmem_v hM hm _).mono ?_; rintro _ w4 ⟨rfl, hB4⟩; have HA4 := Lib.hid (blk_below HA3.out hB4); have HB4 := Lib.hid (blk_below HB3.out hB4); have HC4 := Lib.hid (blk_below HC3.out hB4); have hb4 := hb3.trans (hB4.mono hb3.size); obtain ⟨f0, f1, f2, f3, f4, f5⟩ := CellAt.of HB4.out)
    | (go_at_call 8; refine (rvalid_v hv _).mono ?_; rintro _ w5 ⟨rfl, hB5⟩; have HA5 := Lib.hid (blk_below HA4.out hB5); have HB5 := Lib.hid (blk_below HB4.out hB5); have HC5 := Lib.hid (blk_below HC4.out hB5); have hb5 := hb4.trans (hB5.mono hb4.size)))
  clear HA3 HB3 HC3 HA4 HB4 HC4 hb3 hb4 g0 g1 g2 g3 g4 g5 f0 f1 f2 f3 f4 f5 hB4 hB5
  obtain ⟨ca, hca, hbl⟩ : ∃ ca, ca = mv ++ #[.int .i64 0, .int .i64 0, .int .i64 0, .slice none 0 0] ∧ ∀ w, (Instr.build 58 #[(0, .agg mv)]).run Tryz.prog w = .ok (.agg ca) w := ⟨_, rfl, build58 mv hM.size⟩
  have HBL := Lib.hid hbl
  have HCA := Lib.hid hca
  clear hbl hca
  go_upto_region 7 with (first
    | (refine wpList_load_row rfl 28 _ rfl w.heap.size rfl 28 mv (0, 0) _ HA5.out Tryz.underlying28 rfl hM.info ?_)
    | (refine wpList_build1 rfl 58 0 _ rfl (.agg mv) (.agg ca) rfl (HBL.out _) ?_))
  have hx6 := heap_alloc_new w5 (.cells ca 58)
  rw [HCA.out] at hx6
  have hA6 : RAt w.heap.size (w5.alloc (.cells ca 58)) w5.heap.size (St.mem ms e p) := At.startR hM hb5.size (by rw [HCA.out]; exact hx6)
  have hal : Below w5.heap.size w5 (w5.alloc (.cells ca 58)) := (Below.refl _ _).alloc (Nat.le_refl _) _
  have HB6 := Lib.hid (blk_below HB5.out hal)
  have HC6 := Lib.hid (blk_below HC5.out hal)
  have hb6 := hb5.trans (hal.mono hb5.size)
  have hn1 : w.heap.size + 1 < w5.heap.size := (Array.getElem?_eq_some_iff.1 HB5.out).1
  have hn2 : w.heap.size + 1 + 1 < w5.heap.size := (Array.getElem?_eq_some_iff.1 HC5.out).1
  have hn0 : w.heap.size ≤ w5.heap.size := hb5.size
  clear HA5 HB5 HC5 hb5 hal hx6 HBL HCA
  generalize w5.alloc (.cells ca 58) = w6 at hA6 HB6 HC6 hb6 ⊢
  generalize w5.heap.size = b at hA6 hn0 hn1 hn2 ⊢
  obtain ⟨g0, g1, g2, g3, g4, g5⟩ := CellAt.of HB6.out
  go_upto_region 13 with (first
    | (go_at_call 33; refine (r_effect w.heap.size b _ S2 d ef pa F hdd.1 hdd.2 HD5.out hE1 hef1 HLL.out HF.out hpa0 hpa1 (by omega) (At.eq (At.eq hA6 (show _ = S1 from by rw [← H1.out]; unfold St.colS; rw [if_neg (by have := HVC.out; omega)])) H2.out)).mono ?_; rintro _ w9 ⟨rfl, hA9, hK9⟩; have HB9 := Lib.hid (apart_new hK9 HB6.out (by omega) (by decide)); have HC9 := Lib.hid (apart_new hK9 HC6.out (by omega) (by decide)); have hb9 := hb6.trans (hK9.below hn0 (Nat.le_refl _) hb6.size); obtain ⟨z90, z91, z92, z93, z94, z95⟩ := CellAt.of HB9.out))
  have hAF : RAt w.heap.size w9 b S3 := (At.eq hA9 H3.out)
  obtain ⟨v, hv5, ho5⟩ := hAF.cops
  replace hv5 : w9.drew.cell? ⟨b, 29, none⟩ = some v := hv5
  have hr5 := hAF.drew.range
  have hM5 : MemV (S3.slots.map (Value.int .i64) ++ [Value.int .i64 S3.eff, Value.int .i64 S3.par]).toArray S3.slots S3.eff S3.par := ⟨hAF.len, rfl⟩
  have hl5 : (S3.slots.map (Value.int .i64) ++ [Value.int .i64 S3.eff, Value.int .i64 S3.par]).length = 26 := by have := hM5.size; simpa using this
  have ho6 := own_drew ho5
  generalize hcl : S3.slots.map (Value.int .i64) ++ [Value.int .i64 S3.eff, Value.int .i64 S3.par] = cl at hr5 hM5 hl5
  have HR5 := Lib.hid hr5
  have HM5 := Lib.hid hM5
  have HO6 := Lib.hid ho6
  have hD6 : w9.drew.heap[w.heap.size + 1 + 1]? = some (.cells old 28 (0, 0)) := HC9.out
  have HD6 := Lib.hid hD6
  have hb16 := below_drew hb9
  have hi6 : (Tryz.prog.info? 28).map (·.size) = some cl.length := by rw [hl5]; exact info28
  have HI6 := Lib.hid hi6
  clear hr5 hM5 hl5 ho5 ho6 hD6 hi6 hcl hAF
  go_still_tail 9, (by kernel_rfl)
  refine wpStill_load_mid rfl 28 _ rfl b 0 rfl cl _ HR5.out Tryz.underlying28 rfl HI6.out ?_
  repeat still_step
  refine wpStill_nil ?_
  change wpList _ _ _ _ _ w9.drew
  generalize w9.drew = w16 at hv5 HR5 HO6 HD6 hb16 ⊢
  go_wp2_with (first
    | (refine wpList_store_rowTo rfl 28 _ _ rfl rfl (w.heap.size + 1 + 1) cl.toArray rfl rfl 28 _ HD6.out HM5.out.info (HO.out.trans HM5.out.size.symm) HM5.out.one ?_))
  refine bodyPost_ret (results_tmp_row_tmp Tryz.results11 _ _ (w.heap.size + 1 + 1) 28 cl.toArray (0, 0) _ rfl (setRow_heap _ _ _ _ _ _ HD6.out) Tryz.underlying28 rfl HM5.out.info _ _ rfl rfl) rfl ⟨_, _, rfl, HM5.out, own_setRow (by decide) HD6.out HO6.out _, below_setRow hb16 (by omega) _⟩
set_option maxRecDepth 100000 in
set_option maxHeartbeats 4000000 in
theorem rres_n (d : Int) (mv : Array Value) (ms : List Int) (e p : Int) (hM : MemV mv ms e p) (n i vc va ef pa : Int) (hd : inB d 1 6 = true) (hm : memOk ms e p = true) (hv : validD d n i vc va ef pa = true) (hpa0 : 0 ≤ pa) (hpa1 : pa ≤ 255) (S1 S2 S3 : St) (h1 : St.colS d vc va (St.mem ms e p) = S1) (v0 : (vc != 0) = false) (hvc : vc = 0) (h5 : (d == 5) = false) (hd5 : ¬ d = 5) (h2 : S1 = S2) (hef0 : 0 ≤ ef) (hef1 : ef ≤ 36) (hE : (ef != 0) = false) (h3 : S2 = S3) (o1 : S1.ops.length ≤ 1) (o2 : S2.ops.length ≤ 2)  (w : World) :
    Calls Tryz.prog 11 #[.int .i64 d, .agg mv, .agg (CellV n i vc va ef pa)] w (Out w S3.ops S3.slots S3.eff S3.par 0) := by
  have he : errQ d = 0 := by simp [errQ, hd]
  have hdd : 1 ≤ d ∧ d ≤ 6 := by simpa [inB] using hd
  have H1 := Lib.hid h1
  have H2 := Lib.hid h2
  have H3 := Lib.hid h3
  clear h1 h2 h3
  have HVC := Lib.hid hvc
  have HD5 := Lib.hid hd5
  clear hvc hd5
  go_enter Tryz.func11, Tryz.ntmps11
  go_upto_region 1 with fail
  refine forget3 _ _ 26 (by kernel_rfl) ?_
  intro w1 old hold hA hB hC hb
  have HA := Lib.hid hA
  have HB := Lib.hid hB
  have HC := Lib.hid hC
  have HO := Lib.hid (hold : old.size = 26)
  clear hA hB hC hold
  go_upto_region 2 with (first
    | (go_at_call 15; refine (rquirks_v' he _).mono ?_; rintro _ w2 ⟨rfl, hB2⟩)
    | (refine wpList_store_rowTo rfl 39 _ _ rfl rfl w2.heap.size (quirkV d) rfl rfl 39 _ (heap_alloc_new w2 _) (quirkV_info d) (Eq.trans (b := 29) (by kernel_rfl) (quirkV_size d).symm) (quirkV_one d) ?_))
  rw [World.setRow_alloc_new]
  have ha3 := hB2.trans (((Below.refl w2.heap.size w2).alloc (Nat.le_refl _) (.cells (quirkV d) 39)).mono hB2.size)
  have HA3 := Lib.hid (blk_below HA.out ha3)
  have HB3 := Lib.hid (blk_below HB.out ha3)
  have HC3 := Lib.hid (blk_below HC.out ha3)
  have hb3 := hb.trans (ha3.mono hb.size)
  clear HA HB HC hb ha3 hB2
  generalize w2.alloc (.cells (quirkV d) 39) = w3 at HA3 HB3 HC3 hb3 ⊢
  obtain ⟨g0, g1, g2, g3, g4, g5⟩ := CellAt.of HB3.out
  go_upto_region 6 with (first
    | (refine wpList_load_row rfl 28 _ rfl w.heap.size rfl 28 mv (0, 0) _ HA3.out Tryz.underlying28 rfl hM.info ?_)
    | (go_at_call 30; refine (rmem_v hM hm _).mono ?_; rintro _ w4 ⟨rfl, hB4⟩; have HA4 := Lib.hid (blk_below HA3.out hB4); have HB4 := Lib.hid (blk_below HB3.out hB4); have HC4 := Lib.hid (blk_below HC3.out hB4); have hb4 := hb3.trans (hB4.mono hb3.size); obtain ⟨f0, f1, f2, f3, f4, f5⟩ := CellAt.of HB4.out)
    | (go_at_call 8; refine (rvalid_v hv _).mono ?_; rintro _ w5 ⟨rfl, hB5⟩; have HA5 := Lib.hid (blk_below HA4.out hB5); have HB5 := Lib.hid (blk_below HB4.out hB5); have HC5 := Lib.hid (blk_below HC4.out hB5); have hb5 := hb4.trans (hB5.mono hb4.size)))
  clear HA3 HB3 HC3 HA4 HB4 HC4 hb3 hb4 g0 g1 g2 g3 g4 g5 f0 f1 f2 f3 f4 f5 hB4 hB5
  obtain ⟨ca, hca, hbl⟩ : ∃ ca, ca = mv ++ #[.int .i64 0, .int .i64 0, .int .i64 0, .slice none 0 0] ∧ ∀ w, (Instr.build 58 #[(0, .agg mv)]).run Tryz.prog w = .ok (.agg ca) w := ⟨_, rfl, build58 mv hM.size⟩
  have HBL := Lib.hid hbl
  have HCA := Lib.hid hca
  clear hbl hca
  go_upto_region 7 with (first
    | (refine wpList_load_row rfl 28 _ rfl w.heap.size rfl 28 mv (0, 0) _ HA5.out Tryz.underlying28 rfl hM.info ?_)
    | (refine wpList_build1 rfl 58 0 _ rfl (.agg mv) (.agg ca) rfl (HBL.out _) ?_))
  have hx6 := heap_alloc_new w5 (.cells ca 58)
  rw [HCA.out] at hx6
  have hA6 : RAt w.heap.size (w5.alloc (.cells ca 58)) w5.heap.size (St.mem ms e p) := At.startR hM hb5.size (by rw [HCA.out]; exact hx6)
  have hal : Below w5.heap.size w5 (w5.alloc (.cells ca 58)) := (Below.refl _ _).alloc (Nat.le_refl _) _
  have HB6 := Lib.hid (blk_below HB5.out hal)
  have HC6 := Lib.hid (blk_below HC5.out hal)
  have hb6 := hb5.trans (hal.mono hb5.size)
  have hn1 : w.heap.size + 1 < w5.heap.size := (Array.getElem?_eq_some_iff.1 HB5.out).1
  have hn2 : w.heap.size + 1 + 1 < w5.heap.size := (Array.getElem?_eq_some_iff.1 HC5.out).1
  have hn0 : w.heap.size ≤ w5.heap.size := hb5.size
  clear HA5 HB5 HC5 hb5 hal hx6 HBL HCA
  generalize w5.alloc (.cells ca 58) = w6 at hA6 HB6 HC6 hb6 ⊢
  generalize w5.heap.size = b at hA6 hn0 hn1 hn2 ⊢
  obtain ⟨g0, g1, g2, g3, g4, g5⟩ := CellAt.of HB6.out
  go_upto_region 13 with fail
  have hAF : RAt w.heap.size w6 b S3 := (At.eq (At.eq (At.eq hA6 (show _ = S1 from by rw [← H1.out]; unfold St.colS; rw [if_neg (by have := HVC.out; omega)])) H2.out) H3.out)
  obtain ⟨v, hv5, ho5⟩ := hAF.cops
  replace hv5 : w6.drew.cell? ⟨b, 29, none⟩ = some v := hv5
  have hr5 := hAF.drew.range
  have hM5 : MemV (S3.slots.map (Value.int .i64) ++ [Value.int .i64 S3.eff, Value.int .i64 S3.par]).toArray S3.slots S3.eff S3.par := ⟨hAF.len, rfl⟩
  have hl5 : (S3.slots.map (Value.int .i64) ++ [Value.int .i64 S3.eff, Value.int .i64 S3.par]).length = 26 := by have := hM5.size; simpa using this
  have ho6 := own_drew ho5
  generalize hcl : S3.slots.map (Value.int .i64) ++ [Value.int .i64 S3.eff, Value.int .i64 S3.par] = cl at hr5 hM5 hl5
  have HR5 := Lib.hid hr5
  have HM5 := Lib.hid hM5
  have HO6 := Lib.hid ho6
  have hD6 : w6.drew.heap[w.heap.size + 1 + 1]? = some (.cells old 28 (0, 0)) := HC6.out
  have HD6 := Lib.hid hD6
  have hb16 := below_drew hb6
  have hi6 : (Tryz.prog.info? 28).map (·.size) = some cl.length := by rw [hl5]; exact info28
  have HI6 := Lib.hid hi6
  clear hr5 hM5 hl5 ho5 ho6 hD6 hi6 hcl hAF
  go_still_tail 9, (by kernel_rfl)
  refine wpStill_load_mid rfl 28 _ rfl b 0 rfl cl _ HR5.out Tryz.underlying28 rfl HI6.out ?_
  repeat still_step
  refine wpStill_nil ?_
  change wpList _ _ _ _ _ w6.drew
  generalize w6.drew = w16 at hv5 HR5 HO6 HD6 hb16 ⊢
  go_wp2_with (first
    | (refine wpList_store_rowTo rfl 28 _ _ rfl rfl (w.heap.size + 1 + 1) cl.toArray rfl rfl 28 _ HD6.out HM5.out.info (HO.out.trans HM5.out.size.symm) HM5.out.one ?_))
  refine bodyPost_ret (results_tmp_row_tmp Tryz.results11 _ _ (w.heap.size + 1 + 1) 28 cl.toArray (0, 0) _ rfl (setRow_heap _ _ _ _ _ _ HD6.out) Tryz.underlying28 rfl HM5.out.info _ _ rfl rfl) rfl ⟨_, _, rfl, HM5.out, own_setRow (by decide) HD6.out HO6.out _, below_setRow hb16 (by omega) _⟩
set_option maxRecDepth 100000 in
set_option maxHeartbeats 4000000 in
theorem rres_5n (d : Int) (mv : Array Value) (ms : List Int) (e p : Int) (hM : MemV mv ms e p) (n i vc va ef pa : Int) (hd : inB d 1 6 = true) (hm : memOk ms e p = true) (hv : validD d n i vc va ef pa = true) (hpa0 : 0 ≤ pa) (hpa1 : pa ≤ 255) (S1 S2 S3 : St) (h1 : St.colS d vc va (St.mem ms e p) = S1) (v0 : (vc != 0) = false) (hvc : vc = 0) (h5 : (d == 5) = true) (hd5 : d = 5) (h2 : St.rLast n ef pa S1 = S2) (s0 : 0 ≤ S1.eff) (s1 : S1.eff ≤ 36) (hef0 : 0 ≤ ef) (hef1 : ef ≤ 36) (hE : (ef != 0) = false) (h3 : S2 = S3) (o1 : S1.ops.length ≤ 1) (o2 : S2.ops.length ≤ 2)  (w : World) :
    Calls Tryz.prog 11 #[.int .i64 d, .agg mv, .agg (CellV n i vc va ef pa)] w (Out w S3.ops S3.slots S3.eff S3.par 0) := by
  have he : errQ d = 0 := by simp [errQ, hd]
  have hdd : 1 ≤ d ∧ d ≤ 6 := by simpa [inB] using hd
  have H1 := Lib.hid h1
  have H2 := Lib.hid h2
  have H3 := Lib.hid h3
  clear h1 h2 h3
  have HVC := Lib.hid hvc
  have HD5 := Lib.hid hd5
  clear hvc hd5
  go_enter Tryz.func11, Tryz.ntmps11
  go_upto_region 1 with fail
  refine forget3 _ _ 26 (by kernel_rfl) ?_
  intro w1 old hold hA hB hC hb
  have HA := Lib.hid hA
  have HB := Lib.hid hB
  have HC := Lib.hid hC
  have HO := Lib.hid (hold : old.size = 26)
  clear hA hB hC hold
  go_upto_region 2 with (first
    | (go_at_call 15; refine (rquirks_v' he _).mono ?_; rintro _ w2 ⟨rfl, hB2⟩)
    | (refine wpList_store_rowTo rfl 39 _ _ rfl rfl w2.heap.size (quirkV d) rfl rfl 39 _ (heap_alloc_new w2 _) (quirkV_info d) (Eq.trans (b := 29) (by kernel_rfl) (quirkV_size d).symm) (quirkV_one d) ?_))
  rw [World.setRow_alloc_new]
  have ha3 := hB2.trans (((Below.refl w2.heap.size w2).alloc (Nat.le_refl _) (.cells (quirkV d) 39)).mono hB2.size)
  have HA3 := Lib.hid (blk_below HA.out ha3)
  have HB3 := Lib.hid (blk_below HB.out ha3)
  have HC3 := Lib.hid (blk_below HC.out ha3)
  have hb3 := hb.trans (ha3.mono hb.size)
  clear HA HB HC hb ha3 hB2
  generalize w2.alloc (.cells (quirkV d) 39) = w3 at HA3 HB3 HC3 hb3 ⊢
  obtain ⟨g0, g1, g2, g3, g4, g5⟩ := CellAt.of HB3.out
  go_upto_region 6 with (first
    | (refine wpList_load_row rfl 28 _ rfl w.heap.size rfl 28 mv (0, 0) _ HA3.out Tryz.underlying28 rfl hM.info ?_)
    | (go_at_call 30; refine (rmem_v hM hm _).mono ?_; rintro _ w4 ⟨rfl, hB4⟩; have HA4 := Lib.hid (blk_below HA3.out hB4); have HB4 := Lib.hid (blk_below HB3.out hB4); have HC4 := Lib.hid (blk_below HC3.out hB4); have hb4 := hb3.trans (hB4.mono hb3.size); obtain ⟨f0, f1, f2, f3, f4, f5⟩ := CellAt.of HB4.out)
    | (go_at_call 8; refine (rvalid_v hv _).mono ?_; rintro _ w5 ⟨rfl, hB5⟩; have HA5 := Lib.hid (blk_below HA4.out hB5); have HB5 := Lib.hid (blk_below HB4.out hB5); have HC5 := Lib.hid (blk_below HC4.out hB5); have hb5 := hb4.trans (hB5.mono hb4.size)))
  clear HA3 HB3 HC3 HA4 HB4 HC4 hb3 hb4 g0 g1 g2 g3 g4 g5 f0 f1 f2 f3 f4 f5 hB4 hB5
  obtain ⟨ca, hca, hbl⟩ : ∃ ca, ca = mv ++ #[.int .i64 0, .int .i64 0, .int .i64 0, .slice none 0 0] ∧ ∀ w, (Instr.build 58 #[(0, .agg mv)]).run Tryz.prog w = .ok (.agg ca) w := ⟨_, rfl, build58 mv hM.size⟩
  have HBL := Lib.hid hbl
  have HCA := Lib.hid hca
  clear hbl hca
  go_upto_region 7 with (first
    | (refine wpList_load_row rfl 28 _ rfl w.heap.size rfl 28 mv (0, 0) _ HA5.out Tryz.underlying28 rfl hM.info ?_)
    | (refine wpList_build1 rfl 58 0 _ rfl (.agg mv) (.agg ca) rfl (HBL.out _) ?_))
  have hx6 := heap_alloc_new w5 (.cells ca 58)
  rw [HCA.out] at hx6
  have hA6 : RAt w.heap.size (w5.alloc (.cells ca 58)) w5.heap.size (St.mem ms e p) := At.startR hM hb5.size (by rw [HCA.out]; exact hx6)
  have hal : Below w5.heap.size w5 (w5.alloc (.cells ca 58)) := (Below.refl _ _).alloc (Nat.le_refl _) _
  have HB6 := Lib.hid (blk_below HB5.out hal)
  have HC6 := Lib.hid (blk_below HC5.out hal)
  have hb6 := hb5.trans (hal.mono hb5.size)
  have hn1 : w.heap.size + 1 < w5.heap.size := (Array.getElem?_eq_some_iff.1 HB5.out).1
  have hn2 : w.heap.size + 1 + 1 < w5.heap.size := (Array.getElem?_eq_some_iff.1 HC5.out).1
  have hn0 : w.heap.size ≤ w5.heap.size := hb5.size
  clear HA5 HB5 HC5 hb5 hal hx6 HBL HCA
  generalize w5.alloc (.cells ca 58) = w6 at hA6 HB6 HC6 hb6 ⊢
  generalize w5.heap.size = b at hA6 hn0 hn1 hn2 ⊢
  obtain ⟨g0, g1, g2, g3, g4, g5⟩ := CellAt.of HB6.out
  go_upto_region 13 with (first
    | (refine wpList_load_row rfl 23 _ rfl (w.heap.size + 1) rfl 23 (CellV n i vc va ef pa) (0, 0) _ HB6.out Tryz.underlying23 rfl info23 ?_)
    | (go_at_call 32; refine (rlasting w.heap.size b _ S1 n i vc va ef pa (by omega) hef0 hef1 s0 s1 (At.eq hA6 (show _ = S1 from by rw [← H1.out]; unfold St.colS; rw [if_neg (by have := HVC.out; omega)]))).mono ?_; rintro _ w8 ⟨rfl, hA8, hK8⟩; have HB8 := Lib.hid (apart_new hK8 HB6.out (by omega) (by decide)); have HC8 := Lib.hid (apart_new hK8 HC6.out (by omega) (by decide)); have hb8 := hb6.trans (hK8.below hn0 (Nat.le_refl _) hb6.size); obtain ⟨z80, z81, z82, z83, z84, z85⟩ := CellAt.of HB8.out))
  have hAF : RAt w.heap.size w8 b S3 := (At.eq (At.eq hA8 H2.out) H3.out)
  obtain ⟨v, hv5, ho5⟩ := hAF.cops
  replace hv5 : w8.drew.cell? ⟨b, 29, none⟩ = some v := hv5
  have hr5 := hAF.drew.range
  have hM5 : MemV (S3.slots.map (Value.int .i64) ++ [Value.int .i64 S3.eff, Value.int .i64 S3.par]).toArray S3.slots S3.eff S3.par := ⟨hAF.len, rfl⟩
  have hl5 : (S3.slots.map (Value.int .i64) ++ [Value.int .i64 S3.eff, Value.int .i64 S3.par]).length = 26 := by have := hM5.size; simpa using this
  have ho6 := own_drew ho5
  generalize hcl : S3.slots.map (Value.int .i64) ++ [Value.int .i64 S3.eff, Value.int .i64 S3.par] = cl at hr5 hM5 hl5
  have HR5 := Lib.hid hr5
  have HM5 := Lib.hid hM5
  have HO6 := Lib.hid ho6
  have hD6 : w8.drew.heap[w.heap.size + 1 + 1]? = some (.cells old 28 (0, 0)) := HC8.out
  have HD6 := Lib.hid hD6
  have hb16 := below_drew hb8
  have hi6 : (Tryz.prog.info? 28).map (·.size) = some cl.length := by rw [hl5]; exact info28
  have HI6 := Lib.hid hi6
  clear hr5 hM5 hl5 ho5 ho6 hD6 hi6 hcl hAF
  go_still_tail 9, (by kernel_rfl)
  refine wpStill_load_mid rfl 28 _ rfl b 0 rfl cl _ HR5.out Tryz.underlying28 rfl HI6.out ?_
  repeat still_step
  refine wpStill_nil ?_
  change wpList _ _ _ _ _ w8.drew
  generalize w8.drew = w16 at hv5 HR5 HO6 HD6 hb16 ⊢
  go_wp2_with (first
    | (refine wpList_store_rowTo rfl 28 _ _ rfl rfl (w.heap.size + 1 + 1) cl.toArray rfl rfl 28 _ HD6.out HM5.out.info (HO.out.trans HM5.out.size.symm) HM5.out.one ?_))
  refine bodyPost_ret (results_tmp_row_tmp Tryz.results11 _ _ (w.heap.size + 1 + 1) 28 cl.toArray (0, 0) _ rfl (setRow_heap _ _ _ _ _ _ HD6.out) Tryz.underlying28 rfl HM5.out.info _ _ rfl rfl) rfl ⟨_, _, rfl, HM5.out, own_setRow (by decide) HD6.out HO6.out _, below_setRow hb16 (by omega) _⟩
theorem r_effect_5d (base b : Nat) (w : World) (S : St) (d : Int) (hd : d = 5) (n c p : Int) (n0 : 1 ≤ n) (n1 : n ≤ 36) (hcn : letterR n = c) (hl : S.ops.length ≤ 700) (hA : RAt base w b S) :
    Calls Tryz.prog 33 #[.pointer (some ⟨b, 0, none⟩), .int .i64 d, .int .i64 n, .int .i64 p] w fun e w' => e = .returned (.tuple #[]) ∧ RAt base w' b (St.rCompose c (S.put p)) ∧ Kp 50 base b w w' := by
  subst hd
  exact r_effect_5 base b w S n c p n0 n1 hcn hl hA
set_option maxRecDepth 100000 in
set_option maxHeartbeats 4000000 in
theorem rres_5e (d : Int) (mv : Array Value) (ms : List Int) (e p : Int) (hM : MemV mv ms e p) (n i vc va ef pa : Int) (hd : inB d 1 6 = true) (hm : memOk ms e p = true) (hv : validD d n i vc va ef pa = true) (hpa0 : 0 ≤ pa) (hpa1 : pa ≤ 255) (S1 S2 S3 : St) (h1 : St.colS d vc va (St.mem ms e p) = S1) (v0 : (vc != 0) = false) (hvc : vc = 0) (h5 : (d == 5) = true) (hd5 : d = 5) (h2 : St.rLast n ef pa S1 = S2) (s0 : 0 ≤ S1.eff) (s1 : S1.eff ≤ 36) (hef0 : 0 ≤ ef) (hef1 : ef ≤ 36) (hE : (ef != 0) = true) (hE1 : 1 ≤ ef) (h3 : St.rCompose (letterR ef) (S2.put pa) = S3) (o1 : S1.ops.length ≤ 1) (o2 : S2.ops.length ≤ 2)  (w : World) :
    Calls Tryz.prog 11 #[.int .i64 d, .agg mv, .agg (CellV n i vc va ef pa)] w (Out w S3.ops S3.slots S3.eff S3.par 0) := by
  have he : errQ d = 0 := by simp [errQ, hd]
  have hdd : 1 ≤ d ∧ d ≤ 6 := by simpa [inB] using hd
  have H1 := Lib.hid h1
  have H2 := Lib.hid h2
  have H3 := Lib.hid h3
  clear h1 h2 h3
  have HVC := Lib.hid hvc
  have HD5 := Lib.hid hd5
  clear hvc hd5
  go_enter Tryz.func11, Tryz.ntmps11
  go_upto_region 1 with fail
  refine forget3 _ _ 26 (by kernel_rfl) ?_
  intro w1 old hold hA hB hC hb
  have HA := Lib.hid hA
  have HB := Lib.hid hB
  have HC := Lib.hid hC
  have HO := Lib.hid (hold : old.size = 26)
  clear hA hB hC hold
  go_upto_region 2 with (first
    | (go_at_call 15; refine (rquirks_v' he _).mono ?_; rintro _ w2 ⟨rfl, hB2⟩)
    | (refine wpList_store_rowTo rfl 39 _ _ rfl rfl w2.heap.size (quirkV d) rfl rfl 39 _ (heap_alloc_new w2 _) (quirkV_info d) (Eq.trans (b := 29) (by kernel_rfl) (quirkV_size d).symm) (quirkV_one d) ?_))
  rw [World.setRow_alloc_new]
  have ha3 := hB2.trans (((Below.refl w2.heap.size w2).alloc (Nat.le_refl _) (.cells (quirkV d) 39)).mono hB2.size)
  have HA3 := Lib.hid (blk_below HA.out ha3)
  have HB3 := Lib.hid (blk_below HB.out ha3)
  have HC3 := Lib.hid (blk_below HC.out ha3)
  have hb3 := hb.trans (ha3.mono hb.size)
  clear HA HB HC hb ha3 hB2
  generalize w2.alloc (.cells (quirkV d) 39) = w3 at HA3 HB3 HC3 hb3 ⊢
  obtain ⟨g0, g1, g2, g3, g4, g5⟩ := CellAt.of HB3.out
  go_upto_region 6 with (first
    | (refine wpList_load_row rfl 28 _ rfl w.heap.size rfl 28 mv (0, 0) _ HA3.out Tryz.underlying28 rfl hM.info ?_)
    | (go_at_call 30; refine (rmem_v hM hm _).mono ?_; rintro _ w4 ⟨rfl, hB4⟩; have HA4 := Lib.hid (blk_below HA3.out hB4); have HB4 := Lib.hid (blk_below HB3.out hB4); have HC4 := Lib.hid (blk_below HC3.out hB4); have hb4 := hb3.trans (hB4.mono hb3.size); obtain ⟨f0, f1, f2, f3, f4, f5⟩ := CellAt.of HB4.out)
    | (go_at_call 8; refine (rvalid_v hv _).mono ?_; rintro _ w5 ⟨rfl, hB5⟩; have HA5 := Lib.hid (blk_below HA4.out hB5); have HB5 := Lib.hid (blk_below HB4.out hB5); have HC5 := Lib.hid (blk_below HC4.out hB5); have hb5 := hb4.trans (hB5.mono hb4.size)))
  clear HA3 HB3 HC3 HA4 HB4 HC4 hb3 hb4 g0 g1 g2 g3 g4 g5 f0 f1 f2 f3 f4 f5 hB4 hB5
  obtain ⟨ca, hca, hbl⟩ : ∃ ca, ca = mv ++ #[.int .i64 0, .int .i64 0, .int .i64 0, .slice none 0 0] ∧ ∀ w, (Instr.build 58 #[(0, .agg mv)]).run Tryz.prog w = .ok (.agg ca) w := ⟨_, rfl, build58 mv hM.size⟩
  have HBL := Lib.hid hbl
  have HCA := Lib.hid hca
  clear hbl hca
  go_upto_region 7 with (first
    | (refine wpList_load_row rfl 28 _ rfl w.heap.size rfl 28 mv (0, 0) _ HA5.out Tryz.underlying28 rfl hM.info ?_)
    | (refine wpList_build1 rfl 58 0 _ rfl (.agg mv) (.agg ca) rfl (HBL.out _) ?_))
  have hx6 := heap_alloc_new w5 (.cells ca 58)
  rw [HCA.out] at hx6
  have hA6 : RAt w.heap.size (w5.alloc (.cells ca 58)) w5.heap.size (St.mem ms e p) := At.startR hM hb5.size (by rw [HCA.out]; exact hx6)
  have hal : Below w5.heap.size w5 (w5.alloc (.cells ca 58)) := (Below.refl _ _).alloc (Nat.le_refl _) _
  have HB6 := Lib.hid (blk_below HB5.out hal)
  have HC6 := Lib.hid (blk_below HC5.out hal)
  have hb6 := hb5.trans (hal.mono hb5.size)
  have hn1 : w.heap.size + 1 < w5.heap.size := (Array.getElem?_eq_some_iff.1 HB5.out).1
  have hn2 : w.heap.size + 1 + 1 < w5.heap.size := (Array.getElem?_eq_some_iff.1 HC5.out).1
  have hn0 : w.heap.size ≤ w5.heap.size := hb5.size
  clear HA5 HB5 HC5 hb5 hal hx6 HBL HCA
  generalize w5.alloc (.cells ca 58) = w6 at hA6 HB6 HC6 hb6 ⊢
  generalize w5.heap.size = b at hA6 hn0 hn1 hn2 ⊢
  obtain ⟨g0, g1, g2, g3, g4, g5⟩ := CellAt.of HB6.out
  go_upto_region 13 with (first
    | (refine wpList_load_row rfl 23 _ rfl (w.heap.size + 1) rfl 23 (CellV n i vc va ef pa) (0, 0) _ HB6.out Tryz.underlying23 rfl info23 ?_)
    | (go_at_call 32; refine (rlasting w.heap.size b _ S1 n i vc va ef pa (by omega) hef0 hef1 s0 s1 (At.eq hA6 (show _ = S1 from by rw [← H1.out]; unfold St.colS; rw [if_neg (by have := HVC.out; omega)]))).mono ?_; rintro _ w8 ⟨rfl, hA8, hK8⟩; have HB8 := Lib.hid (apart_new hK8 HB6.out (by omega) (by decide)); have HC8 := Lib.hid (apart_new hK8 HC6.out (by omega) (by decide)); have hb8 := hb6.trans (hK8.below hn0 (Nat.le_refl _) hb6.size); obtain ⟨z80, z81, z82, z83, z84, z85⟩ := CellAt.of HB8.out)
    | (go_at_call 33; refine (r_effect_5d w.heap.size b _ S2 d HD5.out ef _ pa hE1 hef1 rfl (by omega) (At.eq hA8 H2.out)).mono ?_; rintro _ w9 ⟨rfl, hA9, hK9⟩; have HB9 := Lib.hid (apart_new hK9 HB8.out (by omega) (by decide)); have HC9 := Lib.hid (apart_new hK9 HC8.out (by omega) (by decide)); have hb9 := hb8.trans (hK9.below hn0 (Nat.le_refl _) hb8.size); obtain ⟨z90, z91, z92, z93, z94, z95⟩ := CellAt.of HB9.out))
  have hAF : RAt w.heap.size w9 b S3 := (At.eq hA9 H3.out)
  obtain ⟨v, hv5, ho5⟩ := hAF.cops
  replace hv5 : w9.drew.cell? ⟨b, 29, none⟩ = some v := hv5
  have hr5 := hAF.drew.range
  have hM5 : MemV (S3.slots.map (Value.int .i64) ++ [Value.int .i64 S3.eff, Value.int .i64 S3.par]).toArray S3.slots S3.eff S3.par := ⟨hAF.len, rfl⟩
  have hl5 : (S3.slots.map (Value.int .i64) ++ [Value.int .i64 S3.eff, Value.int .i64 S3.par]).length = 26 := by have := hM5.size; simpa using this
  have ho6 := own_drew ho5
  generalize hcl : S3.slots.map (Value.int .i64) ++ [Value.int .i64 S3.eff, Value.int .i64 S3.par] = cl at hr5 hM5 hl5
  have HR5 := Lib.hid hr5
  have HM5 := Lib.hid hM5
  have HO6 := Lib.hid ho6
  have hD6 : w9.drew.heap[w.heap.size + 1 + 1]? = some (.cells old 28 (0, 0)) := HC9.out
  have HD6 := Lib.hid hD6
  have hb16 := below_drew hb9
  have hi6 : (Tryz.prog.info? 28).map (·.size) = some cl.length := by rw [hl5]; exact info28
  have HI6 := Lib.hid hi6
  clear hr5 hM5 hl5 ho5 ho6 hD6 hi6 hcl hAF
  go_still_tail 9, (by kernel_rfl)
  refine wpStill_load_mid rfl 28 _ rfl b 0 rfl cl _ HR5.out Tryz.underlying28 rfl HI6.out ?_
  repeat still_step
  refine wpStill_nil ?_
  change wpList _ _ _ _ _ w9.drew
  generalize w9.drew = w16 at hv5 HR5 HO6 HD6 hb16 ⊢
  go_wp2_with (first
    | (refine wpList_store_rowTo rfl 28 _ _ rfl rfl (w.heap.size + 1 + 1) cl.toArray rfl rfl 28 _ HD6.out HM5.out.info (HO.out.trans HM5.out.size.symm) HM5.out.one ?_))
  refine bodyPost_ret (results_tmp_row_tmp Tryz.results11 _ _ (w.heap.size + 1 + 1) 28 cl.toArray (0, 0) _ rfl (setRow_heap _ _ _ _ _ _ HD6.out) Tryz.underlying28 rfl HM5.out.info _ _ rfl rfl) rfl ⟨_, _, rfl, HM5.out, own_setRow (by decide) HD6.out HO6.out _, below_setRow hb16 (by omega) _⟩
end Go.Proofs.YtappnglfmidjoaaGreat.D
