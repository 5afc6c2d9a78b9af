/- The tables of quirks, of both sides. -/
import Derived.Test.YtappnglfmidjoaaGreatCellA
import Derived.Great.BuildSlice
import Derived.Great.Walk
import Derived.Laws.Rows
set_option linter.unusedVariables false
set_option linter.unusedSimpArgs false
namespace Go.Proofs.YtappnglfmidjoaaGreat.D
open Go Go.RowKit Go.Proofs.YtappnglfmidjoaaGreat.DB Go.Great

def qv0 : Array Value := #[.string { data := #[] }, .int .i64 0, .int .i64 0, .int .i64 0, .int .i64 0, .int .i64 0, .bool false, .bool false, .bool false, .int .i64 0, .int .i64 0, .int .i64 0, .bool false, .bool false, .bool false, .bool false, .int .i64 0, .bool false, .int .i64 0, .bool false, .bool false, .int .i64 0, .bool false, .bool false, .bool false, .bool false, .bool false, .bool false, .bool false]
def qv1 : Array Value := #[.string { data := #[102, 111, 117, 114] }, .int .i64 4, .int .i64 32, .int .i64 64, .int .i64 49, .int .i64 84, .bool false, .bool false, .bool false, .int .i64 1, .int .i64 453, .int .i64 3424, .bool false, .bool false, .bool false, .bool false, .int .i64 5, .bool true, .int .i64 1, .bool true, .bool false, .int .i64 1, .bool true, .bool false, .bool false, .bool true, .bool false, .bool false, .bool false]
def qv2 : Array Value := #[.string { data := #[115, 99, 114, 101, 97, 109] }, .int .i64 16, .int .i64 32, .int .i64 64, .int .i64 13, .int .i64 108, .bool false, .bool true, .bool false, .int .i64 1, .int .i64 64, .int .i64 32767, .bool false, .bool false, .bool false, .bool false, .int .i64 5, .bool false, .int .i64 0, .bool false, .bool false, .int .i64 0, .bool false, .bool false, .bool false, .bool false, .bool false, .bool false, .bool false]
def qv3 : Array Value := #[.string { data := #[102, 97, 115, 116] }, .int .i64 16, .int .i64 32, .int .i64 0, .int .i64 1, .int .i64 96, .bool true, .bool true, .bool true, .int .i64 0, .int .i64 32, .int .i64 65535, .bool true, .bool false, .bool false, .bool false, .int .i64 6, .bool true, .int .i64 0, .bool true, .bool true, .int .i64 1, .bool false, .bool true, .bool true, .bool true, .bool true, .bool true, .bool false]
def qv4 : Array Value := #[.string { data := #[105, 109, 112, 117, 108, 115, 101] }, .int .i64 16, .int .i64 32, .int .i64 0, .int .i64 1, .int .i64 120, .bool true, .bool true, .bool true, .int .i64 0, .int .i64 16, .int .i64 65535, .bool false, .bool false, .bool false, .bool true, .int .i64 6, .bool false, .int .i64 0, .bool true, .bool false, .int .i64 2, .bool false, .bool true, .bool false, .bool false, .bool false, .bool true, .bool false]
def qv5 : Array Value := #[.string { data := #[99, 111, 109, 112, 111, 115, 101] }, .int .i64 8, .int .i64 32, .int .i64 64, .int .i64 13, .int .i64 72, .bool false, .bool false, .bool false, .int .i64 2, .int .i64 0, .int .i64 0, .bool false, .bool true, .bool false, .bool false, .int .i64 5, .bool false, .int .i64 2, .bool false, .bool false, .int .i64 0, .bool false, .bool false, .bool false, .bool false, .bool false, .bool false, .bool true]
def qv6 : Array Value := #[.string { data := #[99, 104, 105, 112] }, .int .i64 4, .int .i64 32, .int .i64 0, .int .i64 13, .int .i64 108, .bool true, .bool false, .bool false, .int .i64 1, .int .i64 16, .int .i64 65535, .bool false, .bool false, .bool true, .bool false, .int .i64 5, .bool true, .int .i64 2, .bool false, .bool false, .int .i64 0, .bool false, .bool true, .bool false, .bool false, .bool false, .bool true, .bool false]
def tabV : Array Value := qv0 ++ qv1 ++ qv2 ++ qv3 ++ qv4 ++ qv5 ++ qv6
def quirkV (d : Int) : Array Value := if d = 1 then qv1 else if d = 2 then qv2 else if d = 3 then qv3 else if d = 4 then qv4 else if d = 5 then qv5 else if d = 6 then qv6 else qv0
theorem built0 : Tryz.prog.built 39 [] = some qv0 := by kernel_rfl
theorem built1 : Tryz.prog.built 39 [(0, .string { data := #[102, 111, 117, 114] }), (1, .int .i64 4), (2, .int .i64 32), (3, .int .i64 64), (4, .int .i64 49), (5, .int .i64 84), (9, .int .i64 1), (10, .int .i64 453), (11, .int .i64 3424), (16, .int .i64 5), (17, .bool true), (18, .int .i64 1), (19, .bool true), (21, .int .i64 1), (22, .bool true), (25, .bool true)] = some qv1 := by kernel_rfl
theorem built2 : Tryz.prog.built 39 [(0, .string { data := #[115, 99, 114, 101, 97, 109] }), (1, .int .i64 16), (2, .int .i64 32), (3, .int .i64 64), (4, .int .i64 13), (5, .int .i64 108), (7, .bool true), (9, .int .i64 1), (10, .int .i64 64), (11, .int .i64 32767), (16, .int .i64 5)] = some qv2 := by kernel_rfl
theorem built3 : Tryz.prog.built 39 [(0, .string { data := #[102, 97, 115, 116] }), (1, .int .i64 16), (2, .int .i64 32), (4, .int .i64 1), (5, .int .i64 96), (6, .bool true), (7, .bool true), (8, .bool true), (10, .int .i64 32), (11, .int .i64 65535), (12, .bool true), (16, .int .i64 6), (17, .bool true), (19, .bool true), (20, .bool true), (21, .int .i64 1), (23, .bool true), (24, .bool true), (25, .bool true), (26, .bool true), (27, .bool true)] = some qv3 := by kernel_rfl
theorem built4 : Tryz.prog.built 39 [(0, .string { data := #[105, 109, 112, 117, 108, 115, 101] }), (1, .int .i64 16), (2, .int .i64 32), (4, .int .i64 1), (5, .int .i64 120), (6, .bool true), (7, .bool true), (8, .bool true), (10, .int .i64 16), (11, .int .i64 65535), (15, .bool true), (16, .int .i64 6), (19, .bool true), (21, .int .i64 2), (23, .bool true), (27, .bool true)] = some qv4 := by kernel_rfl
theorem built5 : Tryz.prog.built 39 [(0, .string { data := #[99, 111, 109, 112, 111, 115, 101] }), (1, .int .i64 8), (2, .int .i64 32), (3, .int .i64 64), (4, .int .i64 13), (5, .int .i64 72), (9, .int .i64 2), (13, .bool true), (16, .int .i64 5), (18, .int .i64 2), (28, .bool true)] = some qv5 := by kernel_rfl
theorem built6 : Tryz.prog.built 39 [(0, .string { data := #[99, 104, 105, 112] }), (1, .int .i64 4), (2, .int .i64 32), (4, .int .i64 13), (5, .int .i64 108), (6, .bool true), (9, .int .i64 1), (10, .int .i64 16), (11, .int .i64 65535), (14, .bool true), (16, .int .i64 5), (17, .bool true), (18, .int .i64 2), (23, .bool true), (27, .bool true)] = some qv6 := by kernel_rfl
theorem builtT : Tryz.prog.built 62 [(1, .agg qv1), (2, .agg qv2), (3, .agg qv3), (4, .agg qv4), (5, .agg qv5), (6, .agg qv6)] = some tabV := by kernel_rfl
theorem forget_row {P : Program} {c : Code} {Q : Exit → Act → World → Prop} {a : Act} {w : World} (cs : Array Value) (t n : Nat) (hn : cs.size = n)
    (h : ∀ (w1 : World) (old : Array Value), old.size = n → w1.heap[w.heap.size]? = some (.cells old t (0, 0)) → Below w.heap.size w w1 → c.wp P Q a w1) : c.wp P Q a (w.alloc (.cells cs t)) :=
  h _ cs hn (heap_alloc_new w _) ((Below.refl _ _).alloc (Nat.le_refl _) _)
theorem below_setRow {B : Nat} {w w' : World} (h : Below B w w') {g : Nat} (hg : B ≤ g) (cs : Array Value) : Below B w (w'.setRow g cs) :=
  ⟨h.os, h.tape, h.output, by simpa [World.setRow] using h.size, fun k hk => (by show (w'.heap.modify g _)[k]? = _; rw [Array.getElem?_modify, if_neg (by omega)]; exact h.block k hk)⟩
theorem info39 : (Tryz.prog.info? 39).map (·.size) = some 29 := by kernel_rfl
theorem info62 : (Tryz.prog.info? 62).map (·.size) = some 203 := by kernel_rfl
set_option maxRecDepth 100000 in
set_option maxHeartbeats 2000000 in
theorem ptable (w : World) : Calls Tryz.prog 34 #[] w fun e w' => e = .returned (.agg tabV) ∧ Below w.heap.size w w' := by
  go_enter Tryz.func34, Tryz.ntmps34
  go_upto_region 1 with fail
  refine forget_row _ _ 203 (by kernel_rfl) ?_
  intro w1 old hold hx hb
  have HX := Lib.hid hx
  clear hx
  refine wp_region_lit ?_
  refine wpList_buildTo rfl 39 _ rfl (some 1) rfl qv1 (by kernel_rfl) ?_
  refine wpList_buildTo rfl 39 _ rfl (some 2) rfl qv2 (by kernel_rfl) ?_
  refine wpList_buildTo rfl 39 _ rfl (some 3) rfl qv3 (by kernel_rfl) ?_
  refine wpList_buildTo rfl 39 _ rfl (some 4) rfl qv4 (by kernel_rfl) ?_
  refine wpList_buildTo rfl 39 _ rfl (some 5) rfl qv5 (by kernel_rfl) ?_
  refine wpList_buildTo rfl 39 _ rfl (some 6) rfl qv6 (by kernel_rfl) ?_
  refine wpList_buildTo rfl 62 _ rfl (some 7) rfl tabV (by kernel_rfl) ?_
  refine wpList_store_rowTo rfl 62 _ _ rfl rfl w.heap.size tabV rfl rfl 62 _ HX.out (by kernel_rfl) (hold.trans (by kernel_rfl)) (by kernel_rfl) ?_
  go_wp2_with fail
  refine bodyPost_ret (results_cell_row Tryz.results34 _ _ w.heap.size 62 tabV (0, 0) _ rfl (setRow_heap _ _ _ _ _ _ HX.out) Tryz.underlying62 rfl (by kernel_rfl)) rfl ⟨rfl, ?_⟩
  exact below_setRow hb (Nat.le_refl _) _
end Go.Proofs.YtappnglfmidjoaaGreat.D
