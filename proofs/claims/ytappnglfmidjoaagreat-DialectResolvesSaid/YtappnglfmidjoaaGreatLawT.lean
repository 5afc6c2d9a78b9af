/- DialectTables returns true. -/
import Derived.Test.YtappnglfmidjoaaGreatAwake
set_option linter.unusedVariables false
set_option linter.unusedSimpArgs false
namespace Go.Proofs.YtappnglfmidjoaaGreat.D
open Go Go.RowKit Go.Proofs.YtappnglfmidjoaaGreat.DB Go.Great

theorem pquirks_v {d k : Int} (h : errQ d = k) (w : World) : Calls Tryz.prog 14 #[.int .i64 d] w fun e w' => e = .returned (.tuple #[.agg (quirkV d), .int .i64 k]) ∧ Below w.heap.size w w' := h ▸ pquirks d w
theorem rquirks_v {d k : Int} (h : errQ d = k) (w : World) : Calls Tryz.prog 15 #[.int .i64 d] w fun e w' => e = .returned (.tuple #[.agg (quirkV d), .int .i64 k]) ∧ Below w.heap.size w w' := h ▸ rquirks d w
theorem quirk_neq (d : Int) (w : World) : (binOp .neq 39 (.agg (quirkV d)) (.agg (quirkV d))).run Tryz.prog w = .ok (.bool false) w := by
  unfold quirkV
  repeat' split
  all_goals kernel_rfl
theorem qn12 (w : World) : (binOp .neq 39 (.agg (quirkV 1)) (.agg (quirkV 2))).run Tryz.prog w = .ok (.bool true) w := by kernel_rfl
theorem qn13 (w : World) : (binOp .neq 39 (.agg (quirkV 1)) (.agg (quirkV 3))).run Tryz.prog w = .ok (.bool true) w := by kernel_rfl
theorem qn14 (w : World) : (binOp .neq 39 (.agg (quirkV 1)) (.agg (quirkV 4))).run Tryz.prog w = .ok (.bool true) w := by kernel_rfl
theorem qn15 (w : World) : (binOp .neq 39 (.agg (quirkV 1)) (.agg (quirkV 5))).run Tryz.prog w = .ok (.bool true) w := by kernel_rfl
theorem qn16 (w : World) : (binOp .neq 39 (.agg (quirkV 1)) (.agg (quirkV 6))).run Tryz.prog w = .ok (.bool true) w := by kernel_rfl
theorem qn21 (w : World) : (binOp .neq 39 (.agg (quirkV 2)) (.agg (quirkV 1))).run Tryz.prog w = .ok (.bool true) w := by kernel_rfl
theorem qn23 (w : World) : (binOp .neq 39 (.agg (quirkV 2)) (.agg (quirkV 3))).run Tryz.prog w = .ok (.bool true) w := by kernel_rfl
theorem qn24 (w : World) : (binOp .neq 39 (.agg (quirkV 2)) (.agg (quirkV 4))).run Tryz.prog w = .ok (.bool true) w := by kernel_rfl
theorem qn25 (w : World) : (binOp .neq 39 (.agg (quirkV 2)) (.agg (quirkV 5))).run Tryz.prog w = .ok (.bool true) w := by kernel_rfl
theorem qn26 (w : World) : (binOp .neq 39 (.agg (quirkV 2)) (.agg (quirkV 6))).run Tryz.prog w = .ok (.bool true) w := by kernel_rfl
theorem qn31 (w : World) : (binOp .neq 39 (.agg (quirkV 3)) (.agg (quirkV 1))).run Tryz.prog w = .ok (.bool true) w := by kernel_rfl
theorem qn32 (w : World) : (binOp .neq 39 (.agg (quirkV 3)) (.agg (quirkV 2))).run Tryz.prog w = .ok (.bool true) w := by kernel_rfl
theorem qn34 (w : World) : (binOp .neq 39 (.agg (quirkV 3)) (.agg (quirkV 4))).run Tryz.prog w = .ok (.bool true) w := by kernel_rfl
theorem qn35 (w : World) : (binOp .neq 39 (.agg (quirkV 3)) (.agg (quirkV 5))).run Tryz.prog w = .ok (.bool true) w := by kernel_rfl
theorem qn36 (w : World) : (binOp .neq 39 (.agg (quirkV 3)) (.agg (quirkV 6))).run Tryz.prog w = .ok (.bool true) w := by kernel_rfl
theorem qn41 (w : World) : (binOp .neq 39 (.agg (quirkV 4)) (.agg (quirkV 1))).run Tryz.prog w = .ok (.bool true) w := by kernel_rfl
theorem qn42 (w : World) : (binOp .neq 39 (.agg (quirkV 4)) (.agg (quirkV 2))).run Tryz.prog w = .ok (.bool true) w := by kernel_rfl
theorem qn43 (w : World) : (binOp .neq 39 (.agg (quirkV 4)) (.agg (quirkV 3))).run Tryz.prog w = .ok (.bool true) w := by kernel_rfl
theorem qn45 (w : World) : (binOp .neq 39 (.agg (quirkV 4)) (.agg (quirkV 5))).run Tryz.prog w = .ok (.bool true) w := by kernel_rfl
theorem qn46 (w : World) : (binOp .neq 39 (.agg (quirkV 4)) (.agg (quirkV 6))).run Tryz.prog w = .ok (.bool true) w := by kernel_rfl
theorem qn51 (w : World) : (binOp .neq 39 (.agg (quirkV 5)) (.agg (quirkV 1))).run Tryz.prog w = .ok (.bool true) w := by kernel_rfl
theorem qn52 (w : World) : (binOp .neq 39 (.agg (quirkV 5)) (.agg (quirkV 2))).run Tryz.prog w = .ok (.bool true) w := by kernel_rfl
theorem qn53 (w : World) : (binOp .neq 39 (.agg (quirkV 5)) (.agg (quirkV 3))).run Tryz.prog w = .ok (.bool true) w := by kernel_rfl
theorem qn54 (w : World) : (binOp .neq 39 (.agg (quirkV 5)) (.agg (quirkV 4))).run Tryz.prog w = .ok (.bool true) w := by kernel_rfl
theorem qn56 (w : World) : (binOp .neq 39 (.agg (quirkV 5)) (.agg (quirkV 6))).run Tryz.prog w = .ok (.bool true) w := by kernel_rfl
theorem qn61 (w : World) : (binOp .neq 39 (.agg (quirkV 6)) (.agg (quirkV 1))).run Tryz.prog w = .ok (.bool true) w := by kernel_rfl
theorem qn62 (w : World) : (binOp .neq 39 (.agg (quirkV 6)) (.agg (quirkV 2))).run Tryz.prog w = .ok (.bool true) w := by kernel_rfl
theorem qn63 (w : World) : (binOp .neq 39 (.agg (quirkV 6)) (.agg (quirkV 3))).run Tryz.prog w = .ok (.bool true) w := by kernel_rfl
theorem qn64 (w : World) : (binOp .neq 39 (.agg (quirkV 6)) (.agg (quirkV 4))).run Tryz.prog w = .ok (.bool true) w := by kernel_rfl
theorem qn65 (w : World) : (binOp .neq 39 (.agg (quirkV 6)) (.agg (quirkV 5))).run Tryz.prog w = .ok (.bool true) w := by kernel_rfl
theorem quirk_part (d o : Int) (h : inB d 1 6 = true) (g : inB o 1 6 = true) (hne : ¬ d = o) (w : World) : (binOp .neq 39 (.agg (quirkV d)) (.agg (quirkV o))).run Tryz.prog w = .ok (.bool true) w := by
  have h1 : 1 ≤ d ∧ d ≤ 6 := by simpa [inB] using h
  have g1 : 1 ≤ o ∧ o ≤ 6 := by simpa [inB] using g
  rcases (by omega : d = 1 ∨ d = 2 ∨ d = 3 ∨ d = 4 ∨ d = 5 ∨ d = 6) with rfl | rfl | rfl | rfl | rfl | rfl <;> rcases (by omega : o = 1 ∨ o = 2 ∨ o = 3 ∨ o = 4 ∨ o = 5 ∨ o = 6) with rfl | rfl | rfl | rfl | rfl | rfl
  · exact absurd rfl hne
  · exact qn12 w
  · exact qn13 w
  · exact qn14 w
  · exact qn15 w
  · exact qn16 w
  · exact qn21 w
  · exact absurd rfl hne
  · exact qn23 w
  · exact qn24 w
  · exact qn25 w
  · exact qn26 w
  · exact qn31 w
  · exact qn32 w
  · exact absurd rfl hne
  · exact qn34 w
  · exact qn35 w
  · exact qn36 w
  · exact qn41 w
  · exact qn42 w
  · exact qn43 w
  · exact absurd rfl hne
  · exact qn45 w
  · exact qn46 w
  · exact qn51 w
  · exact qn52 w
  · exact qn53 w
  · exact qn54 w
  · exact absurd rfl hne
  · exact qn56 w
  · exact qn61 w
  · exact qn62 w
  · exact qn63 w
  · exact qn64 w
  · exact qn65 w
  · exact absurd rfl hne
theorem wpList_load_row_g {P : Program} {ops : Array Oper} {rest : List Oper} {o : Oper} {a : Act} {w : World} {Q : Exit → Act → World → Prop} (hw : Region.wanted o (yielded ops a.tmps) = true) (ty : TypeId) (x : Operand) (ho : o.op = .load ty x)
    (g : Nat) (hx : a.eval x = .pointer (some ⟨g, 0, none⟩)) (t : TypeId) (cs : Array Value) (fr : Nat × Nat) (d : TypeDesc) (hg : w.heap[g]? = some (.cells cs t fr))
    (hu : P.underlying ty = some d) (hd : (match d with | .struct _ | .array _ _ => true | _ => false) = true) (hi : (P.info? ty).map (·.size) = some cs.size)
    (h : wpList P ops Q rest (a.put o.dst (.agg cs)) w) : wpList P ops Q (o :: rest) a w :=
  wpList_step fun K hK => by rw [if_pos hw]; exact wp_load_row ty x ho g hx t cs fr d hg hu hd hi (hK _ _ h)
/-- A table laid into a box of its own. -/
theorem box39 {w0 w : World} (hB : Below w0.heap.size w0 w) (d : Int) : (w.alloc (.cells (quirkV d) 39)).heap[w.heap.size]? = some (.cells (quirkV d) 39 (0, 0)) ∧ Below w0.heap.size w0 (w.alloc (.cells (quirkV d) 39)) := ⟨heap_alloc_new w _, hB.alloc hB.size _⟩
set_option maxRecDepth 100000 in
set_option maxHeartbeats 2000000 in
theorem tables_any (d o k1 k2 : Int) (h1 : errQ d = k1) (h2 : errQ o = k2) (hq : (k1 != 0) = true ∨ (k1 != 0) = false ∧ (k2 != 0) = true ∨ (k1 != 0) = false ∧ (k2 != 0) = false ∧ (d == o) = true ∨ (k1 != 0) = false ∧ (k2 != 0) = false ∧ (d == o) = false ∧ ∀ w, (binOp .neq 39 (.agg (quirkV d)) (.agg (quirkV o))).run Tryz.prog w = .ok (.bool true) w) (w : World) :
    Calls Tryz.prog 6 #[.int .i64 d, .int .i64 o] w fun e w' => e = .returned (.bool true) ∧ Below w.heap.size w w' := by
  have HQ := Lib.hid hq
  have HN := Lib.hid (quirk_neq d)
  clear hq
  go_enter Tryz.func6, Tryz.ntmps6
  go_upto_region 2 with (first
    | (go_at_call 14; refine (pquirks_v h1 _).mono ?_; rintro _ w1 ⟨rfl, hB1⟩)
    | (refine wpList_store_rowTo rfl 39 _ _ rfl rfl w1.heap.size (quirkV d) rfl rfl 39 _ (heap_alloc_new w1 _) (quirkV_info d) (Eq.trans (b := 29) (by kernel_rfl) (quirkV_size d).symm) (quirkV_one d) ?_))
  rw [World.setRow_alloc_new]
  obtain ⟨hx2, hb2⟩ := box39 hB1 d
  clear hB1
  generalize w1.alloc (.cells (quirkV d) 39) = w2 at hx2 hb2 ⊢
  have HX2 := Lib.hid hx2
  clear hx2
  go_upto_region 3 with (first
    | (go_at_call 15; refine (rquirks_v h1 _).mono ?_; rintro _ w3 ⟨rfl, hB3⟩)
    | (refine wpList_store_rowTo rfl 39 _ _ rfl rfl w3.heap.size (quirkV d) rfl rfl 39 _ (heap_alloc_new w3 _) (quirkV_info d) (Eq.trans (b := 29) (by kernel_rfl) (quirkV_size d).symm) (quirkV_one d) ?_))
  rw [World.setRow_alloc_new]
  obtain ⟨hx4, hB4⟩ := box39 hB3 d
  have hb4 := hb2.trans (hB4.mono hb2.size)
  have HX2' := Lib.hid (blk_below HX2.out hB4)
  clear hB3 hB4 HX2
  generalize w3.alloc (.cells (quirkV d) 39) = w4 at hx4 hb4 HX2' ⊢
  have HX4 := Lib.hid hx4
  clear hx4
  have hn := HN.out
  go_upto_region 5 with (first
    | (refine wpList_load_row rfl 39 _ rfl w1.heap.size rfl 39 (quirkV d) (0, 0) _ HX2'.out Tryz.underlying39 rfl (quirkV_info d) ?_)
    | (refine wpList_load_row rfl 39 _ rfl w3.heap.size rfl 39 (quirkV d) (0, 0) _ HX4.out Tryz.underlying39 rfl (quirkV_info d) ?_)
    | (go_at_call 16; refine (pletters d _).mono ?_; rintro _ w5 ⟨rfl, rfl⟩)
    | (go_at_call 17; refine (rletters d _).mono ?_; rintro _ w6 ⟨rfl, rfl⟩))
  go_upto_region 6 with (first
    | (go_at_call 14; refine (pquirks_v h2 _).mono ?_; rintro _ w7 ⟨rfl, hB7⟩; have HX7 := Lib.hid (blk_below HX2'.out hB7); have hb7 := hb4.trans (hB7.mono hb4.size))
    | (refine wpList_store_rowTo rfl 39 _ _ rfl rfl w7.heap.size (quirkV o) rfl rfl 39 _ (heap_alloc_new w7 _) (quirkV_info o) (Eq.trans (b := 29) (by kernel_rfl) (quirkV_size o).symm) (quirkV_one o) ?_))
  rw [World.setRow_alloc_new]
  obtain ⟨hx8, hb8⟩ := box39 hb7 o
  have HX8' := Lib.hid (blk_below HX7.out ((Below.refl _ _).alloc (Nat.le_refl _) (.cells (quirkV o) 39)))
  clear HX7 hb7 HX2' HX4 hb4 hb2 hB7
  generalize w7.alloc (.cells (quirkV o) 39) = w8 at hx8 hb8 HX8' ⊢
  have HX8 := Lib.hid hx8
  clear hx8 hn
  rcases HQ.out with q1 | ⟨q1, q2⟩ | ⟨q1, q2, q3⟩ | ⟨q1, q2, q3, q4⟩
  · clear HQ
    go_wp2_with (first
      | (go_at_call 9; refine (pawake _).mono ?_; rintro _ w9 ⟨rfl, hB9⟩)
      | (refine wpList_load_row_g (by rfl) 39 _ rfl w1.heap.size rfl 39 (quirkV d) (0, 0) _ HX8'.out Tryz.underlying39 rfl (quirkV_info d) ?_)
      | (refine wpList_load_row_g (by rfl) 39 _ rfl w7.heap.size rfl 39 (quirkV o) (0, 0) _ HX8.out Tryz.underlying39 rfl (quirkV_info o) ?_))
    go_ret
    exact ⟨rfl, hb8.trans (hB9.mono hb8.size)⟩
  · clear HQ
    go_wp2_with (first
      | (go_at_call 9; refine (pawake _).mono ?_; rintro _ w9 ⟨rfl, hB9⟩)
      | (refine wpList_load_row_g (by rfl) 39 _ rfl w1.heap.size rfl 39 (quirkV d) (0, 0) _ HX8'.out Tryz.underlying39 rfl (quirkV_info d) ?_)
      | (refine wpList_load_row_g (by rfl) 39 _ rfl w7.heap.size rfl 39 (quirkV o) (0, 0) _ HX8.out Tryz.underlying39 rfl (quirkV_info o) ?_))
    go_ret
    exact ⟨rfl, hb8.trans (hB9.mono hb8.size)⟩
  · clear HQ
    go_wp2_with (first
      | (go_at_call 9; refine (pawake _).mono ?_; rintro _ w9 ⟨rfl, hB9⟩)
      | (refine wpList_load_row_g (by rfl) 39 _ rfl w1.heap.size rfl 39 (quirkV d) (0, 0) _ HX8'.out Tryz.underlying39 rfl (quirkV_info d) ?_)
      | (refine wpList_load_row_g (by rfl) 39 _ rfl w7.heap.size rfl 39 (quirkV o) (0, 0) _ HX8.out Tryz.underlying39 rfl (quirkV_info o) ?_))
    go_ret
    exact ⟨rfl, hb8.trans (hB9.mono hb8.size)⟩
  · clear HQ
    go_wp2_with (first
      | (go_at_call 9; refine (pawake _).mono ?_; rintro _ w9 ⟨rfl, hB9⟩)
      | (refine wpList_load_row_g (by rfl) 39 _ rfl w1.heap.size rfl 39 (quirkV d) (0, 0) _ HX8'.out Tryz.underlying39 rfl (quirkV_info d) ?_)
      | (refine wpList_load_row_g (by rfl) 39 _ rfl w7.heap.size rfl 39 (quirkV o) (0, 0) _ HX8.out Tryz.underlying39 rfl (quirkV_info o) ?_))
    go_ret
    exact ⟨rfl, hb8.trans (hB9.mono hb8.size)⟩
theorem tables (d o : Int) (w : World) : Calls Tryz.prog 6 #[.int .i64 d, .int .i64 o] w fun e w' => e = .returned (.bool true) ∧ Below w.heap.size w w' := by
  cases q1 : inB d 1 6 with
  | false => exact tables_any d o 6 _ (by simp [errQ, q1]) rfl (.inl rfl) w
  | true =>
    cases q2 : inB o 1 6 with
    | false => exact tables_any d o 0 6 (by simp [errQ, q1]) (by simp [errQ, q2]) (.inr (.inl ⟨rfl, rfl⟩)) w
    | true =>
      by_cases q3 : d = o
      · exact tables_any d o 0 0 (by simp [errQ, q1]) (by simp [errQ, q2]) (.inr (.inr (.inl ⟨rfl, rfl, by simp [q3]⟩))) w
      · exact tables_any d o 0 0 (by simp [errQ, q1]) (by simp [errQ, q2]) (.inr (.inr (.inr ⟨rfl, rfl, by simp [q3], quirk_part d o q1 q2 q3⟩))) w
end Go.Proofs.YtappnglfmidjoaaGreat.D
