/- column: what the volume column of the program does. -/
import Derived.Test.YtappnglfmidjoaaGreatColumn
set_option linter.unusedVariables false
set_option linter.unusedSimpArgs false
namespace Go.Proofs.YtappnglfmidjoaaGreat.D
open Go Go.RowKit
open Go.Proofs.YtappnglfmidjoaaGreat.DB
def volT (arg : Int) : Int := if arg = 0 then 0 else if arg = 1 then 1 else if arg = 2 then 4 else if arg = 3 then 8 else if arg = 4 then 16 else if arg = 5 then 32 else if arg = 6 then 64 else if arg = 7 then 96 else if arg = 8 then 128 else 255
def St.fColumn (fast : Bool) (cmd arg : Int) (S : St) : St :=
  if cmd = 1 then S.ask 15 (min arg 64) 0
  else if cmd = 2 then S.ask 12 arg 0
  else if cmd = 3 then S.ask 12 0 arg
  else if cmd = 4 then S.ask 13 arg 0
  else if cmd = 5 then S.ask 14 arg 0
  else if cmd = 6 then S.ask 16 (4 * min arg 64) 0
  else if cmd = 7 then (let T := if fast then (S.put (16 * min arg 15)).whole 1 else (S.put (volT arg)).whole 2; T.ask 8 T.p 0)
  else if cmd = 8 then (let T := (S.put (min arg 15)).halves (if fast then 2 else 3); T.ask 9 T.h T.l)
  else if cmd = 9 then S.ask 3 (4 * arg) 0
  else S.ask 2 (4 * arg) 0
theorem cell_al {w : World} {b : Nat} (h : b < w.heap.size) (o : Obj) (k : Nat) : (w.alloc o).cell? ⟨b, k, none⟩ = w.cell? ⟨b, k, none⟩ := by
  have e : (w.alloc o).heap[b]? = w.heap[b]? := ((Below.refl w.heap.size w).alloc (Nat.le_refl _) o).block b h
  simp only [World.cell?, e]
theorem boxes3 {w : World} {b : Nat} (h : b < w.heap.size) (u v x : Value) :
    Box 50 (((w.alloc (.cells #[u] 66)).alloc (.cells #[v] 3)).alloc (.cells #[x] 4)) b w.heap.size u ∧ Box 50 (((w.alloc (.cells #[u] 66)).alloc (.cells #[v] 3)).alloc (.cells #[x] 4)) b (w.heap.size + 1) v ∧ Box 50 (((w.alloc (.cells #[u] 66)).alloc (.cells #[v] 3)).alloc (.cells #[x] 4)) b (w.heap.size + 1 + 1) x := by
  have e1 : (w.alloc (.cells #[u] 66)).heap.size = w.heap.size + 1 := World.size_alloc _ _
  have e2 : ((w.alloc (.cells #[u] 66)).alloc (.cells #[v] 3)).heap.size = w.heap.size + 1 + 1 := by rw [World.size_alloc, e1]
  have i2 := (Below.refl ((w.alloc (.cells #[u] 66)).alloc (.cells #[v] 3)).heap.size ((w.alloc (.cells #[u] 66)).alloc (.cells #[v] 3))).alloc (Nat.le_refl _) (.cells #[x] 4)
  have i1 := (Below.refl (w.alloc (.cells #[u] 66)).heap.size (w.alloc (.cells #[u] 66))).alloc (Nat.le_refl _) (.cells #[v] 3)
  have b3 := Box.new (q := 50) ((w.alloc (.cells #[u] 66)).alloc (.cells #[v] 3)) b (by omega) x 4 (by decide)
  have b2 := (Box.new (q := 50) (w.alloc (.cells #[u] 66)) b (by omega) v 3 (by decide)).below i2
  rw [e1] at b2
  rw [e2] at b3
  exact ⟨((Box.new (q := 50) w b h u 66 (by decide)).below i1).below i2, b2, b3⟩
set_option maxRecDepth 100000 in
set_option maxHeartbeats 400000 in
theorem ccol1t (base b : Nat) (w : World) (S : St) (arg : Int) (g0 : 0 ≤ arg) (g1 : arg ≤ 99) (n1 n2 : Nat) (bx_n1 : Box 50 w b n1 (.pointer (some ⟨b, 0, none⟩))) (bx_n2 : Box 50 w b n2 (.int .i64 arg)) (hl : S.ops.length ≤ 800) (hA : PAt base w b S) :
    Calls Tryz.prog 62 #[.pointer (some ⟨n1, 0, none⟩), .pointer (some ⟨n2, 0, none⟩)] w fun e w' => e = .returned (.tuple #[]) ∧ PAt base w' b (St.fColumn true 1 arg S) ∧ Kp 50 base b w w' := by
  by_cases q : arg ≤ 64
  · refine (col1_a base b w S n1 n2 arg g0 g1 bx_n1 bx_n2 q hl hA).mono ?_
    rintro e w' ⟨he, hA', hK'⟩
    exact ⟨he, hA'.eq (by simp [St.fColumn, volT, Int.min_eq_left q]), hK'⟩
  · refine (col1_b base b w S n1 n2 arg g0 g1 bx_n1 bx_n2 (by omega) hl hA).mono ?_
    rintro e w' ⟨he, hA', hK'⟩
    exact ⟨he, hA'.eq (by simp [St.fColumn, volT, Int.min_eq_right (Int.le_of_lt (Int.not_le.1 q))]), hK'⟩
set_option maxRecDepth 100000 in
set_option maxHeartbeats 400000 in
theorem ccol6t (base b : Nat) (w : World) (S : St) (arg : Int) (g0 : 0 ≤ arg) (g1 : arg ≤ 99) (n1 n2 : Nat) (bx_n1 : Box 50 w b n1 (.pointer (some ⟨b, 0, none⟩))) (bx_n2 : Box 50 w b n2 (.int .i64 arg)) (hl : S.ops.length ≤ 800) (hA : PAt base w b S) :
    Calls Tryz.prog 68 #[.pointer (some ⟨n1, 0, none⟩), .pointer (some ⟨n2, 0, none⟩)] w fun e w' => e = .returned (.tuple #[]) ∧ PAt base w' b (St.fColumn true 6 arg S) ∧ Kp 50 base b w w' := by
  by_cases q : arg ≤ 64
  · refine (col6_a base b w S n1 n2 arg g0 g1 bx_n1 bx_n2 q hl hA).mono ?_
    rintro e w' ⟨he, hA', hK'⟩
    exact ⟨he, hA'.eq (by simp [St.fColumn, volT, Int.min_eq_left q]), hK'⟩
  · refine (col6_b base b w S n1 n2 arg g0 g1 bx_n1 bx_n2 (by omega) hl hA).mono ?_
    rintro e w' ⟨he, hA', hK'⟩
    exact ⟨he, hA'.eq (by simp [St.fColumn, volT, Int.min_eq_right (Int.le_of_lt (Int.not_le.1 q))]), hK'⟩
set_option maxRecDepth 100000 in
set_option maxHeartbeats 400000 in
theorem ccol2t (base b : Nat) (w : World) (S : St) (arg : Int) (g0 : 0 ≤ arg) (g1 : arg ≤ 99) (n1 n2 : Nat) (bx_n1 : Box 50 w b n1 (.pointer (some ⟨b, 0, none⟩))) (bx_n2 : Box 50 w b n2 (.int .i64 arg)) (hl : S.ops.length ≤ 800) (hA : PAt base w b S) :
    Calls Tryz.prog 64 #[.pointer (some ⟨n1, 0, none⟩), .pointer (some ⟨n2, 0, none⟩)] w fun e w' => e = .returned (.tuple #[]) ∧ PAt base w' b (St.fColumn true 2 arg S) ∧ Kp 50 base b w w' := by
  refine (col2 base b w S n1 n2 arg g0 g1 bx_n1 bx_n2 hl hA).mono ?_
  rintro e w' ⟨he, hA', hK'⟩
  exact ⟨he, hA'.eq (by simp [St.fColumn, volT]), hK'⟩
set_option maxRecDepth 100000 in
set_option maxHeartbeats 400000 in
theorem ccol3t (base b : Nat) (w : World) (S : St) (arg : Int) (g0 : 0 ≤ arg) (g1 : arg ≤ 99) (n1 n2 : Nat) (bx_n1 : Box 50 w b n1 (.pointer (some ⟨b, 0, none⟩))) (bx_n2 : Box 50 w b n2 (.int .i64 arg)) (hl : S.ops.length ≤ 800) (hA : PAt base w b S) :
    Calls Tryz.prog 65 #[.pointer (some ⟨n1, 0, none⟩), .pointer (some ⟨n2, 0, none⟩)] w fun e w' => e = .returned (.tuple #[]) ∧ PAt base w' b (St.fColumn true 3 arg S) ∧ Kp 50 base b w w' := by
  refine (col3 base b w S n1 n2 arg g0 g1 bx_n1 bx_n2 hl hA).mono ?_
  rintro e w' ⟨he, hA', hK'⟩
  exact ⟨he, hA'.eq (by simp [St.fColumn, volT]), hK'⟩
set_option maxRecDepth 100000 in
set_option maxHeartbeats 400000 in
theorem ccol4t (base b : Nat) (w : World) (S : St) (arg : Int) (g0 : 0 ≤ arg) (g1 : arg ≤ 99) (n1 n2 : Nat) (bx_n1 : Box 50 w b n1 (.pointer (some ⟨b, 0, none⟩))) (bx_n2 : Box 50 w b n2 (.int .i64 arg)) (hl : S.ops.length ≤ 800) (hA : PAt base w b S) :
    Calls Tryz.prog 66 #[.pointer (some ⟨n1, 0, none⟩), .pointer (some ⟨n2, 0, none⟩)] w fun e w' => e = .returned (.tuple #[]) ∧ PAt base w' b (St.fColumn true 4 arg S) ∧ Kp 50 base b w w' := by
  refine (col4 base b w S n1 n2 arg g0 g1 bx_n1 bx_n2 hl hA).mono ?_
  rintro e w' ⟨he, hA', hK'⟩
  exact ⟨he, hA'.eq (by simp [St.fColumn, volT]), hK'⟩
set_option maxRecDepth 100000 in
set_option maxHeartbeats 400000 in
theorem ccol5t (base b : Nat) (w : World) (S : St) (arg : Int) (g0 : 0 ≤ arg) (g1 : arg ≤ 99) (n1 n2 : Nat) (bx_n1 : Box 50 w b n1 (.pointer (some ⟨b, 0, none⟩))) (bx_n2 : Box 50 w b n2 (.int .i64 arg)) (hl : S.ops.length ≤ 800) (hA : PAt base w b S) :
    Calls Tryz.prog 67 #[.pointer (some ⟨n1, 0, none⟩), .pointer (some ⟨n2, 0, none⟩)] w fun e w' => e = .returned (.tuple #[]) ∧ PAt base w' b (St.fColumn true 5 arg S) ∧ Kp 50 base b w w' := by
  refine (col5 base b w S n1 n2 arg g0 g1 bx_n1 bx_n2 hl hA).mono ?_
  rintro e w' ⟨he, hA', hK'⟩
  exact ⟨he, hA'.eq (by simp [St.fColumn, volT]), hK'⟩
set_option maxRecDepth 100000 in
set_option maxHeartbeats 400000 in
theorem ccol9t (base b : Nat) (w : World) (S : St) (arg : Int) (g0 : 0 ≤ arg) (g1 : arg ≤ 99) (n1 n2 : Nat) (bx_n1 : Box 50 w b n1 (.pointer (some ⟨b, 0, none⟩))) (bx_n2 : Box 50 w b n2 (.int .i64 arg)) (hl : S.ops.length ≤ 800) (hA : PAt base w b S) :
    Calls Tryz.prog 73 #[.pointer (some ⟨n1, 0, none⟩), .pointer (some ⟨n2, 0, none⟩)] w fun e w' => e = .returned (.tuple #[]) ∧ PAt base w' b (St.fColumn true 9 arg S) ∧ Kp 50 base b w w' := by
  refine (col9 base b w S n1 n2 arg g0 g1 bx_n1 bx_n2 hl hA).mono ?_
  rintro e w' ⟨he, hA', hK'⟩
  exact ⟨he, hA'.eq (by simp [St.fColumn, volT]), hK'⟩
set_option maxRecDepth 100000 in
set_option maxHeartbeats 400000 in
theorem ccol10t (base b : Nat) (w : World) (S : St) (arg : Int) (g0 : 0 ≤ arg) (g1 : arg ≤ 99) (n1 n2 : Nat) (bx_n1 : Box 50 w b n1 (.pointer (some ⟨b, 0, none⟩))) (bx_n2 : Box 50 w b n2 (.int .i64 arg)) (hl : S.ops.length ≤ 800) (hA : PAt base w b S) :
    Calls Tryz.prog 74 #[.pointer (some ⟨n1, 0, none⟩), .pointer (some ⟨n2, 0, none⟩)] w fun e w' => e = .returned (.tuple #[]) ∧ PAt base w' b (St.fColumn true 10 arg S) ∧ Kp 50 base b w w' := by
  refine (col10 base b w S n1 n2 arg g0 g1 bx_n1 bx_n2 hl hA).mono ?_
  rintro e w' ⟨he, hA', hK'⟩
  exact ⟨he, hA'.eq (by simp [St.fColumn, volT]), hK'⟩
set_option maxRecDepth 100000 in
set_option maxHeartbeats 400000 in
theorem ccol1f (base b : Nat) (w : World) (S : St) (arg : Int) (g0 : 0 ≤ arg) (g1 : arg ≤ 99) (n1 n2 : Nat) (bx_n1 : Box 50 w b n1 (.pointer (some ⟨b, 0, none⟩))) (bx_n2 : Box 50 w b n2 (.int .i64 arg)) (hl : S.ops.length ≤ 800) (hA : PAt base w b S) :
    Calls Tryz.prog 62 #[.pointer (some ⟨n1, 0, none⟩), .pointer (some ⟨n2, 0, none⟩)] w fun e w' => e = .returned (.tuple #[]) ∧ PAt base w' b (St.fColumn false 1 arg S) ∧ Kp 50 base b w w' := by
  by_cases q : arg ≤ 64
  · refine (col1_a base b w S n1 n2 arg g0 g1 bx_n1 bx_n2 q hl hA).mono ?_
    rintro e w' ⟨he, hA', hK'⟩
    exact ⟨he, hA'.eq (by simp [St.fColumn, volT, Int.min_eq_left q]), hK'⟩
  · refine (col1_b base b w S n1 n2 arg g0 g1 bx_n1 bx_n2 (by omega) hl hA).mono ?_
    rintro e w' ⟨he, hA', hK'⟩
    exact ⟨he, hA'.eq (by simp [St.fColumn, volT, Int.min_eq_right (Int.le_of_lt (Int.not_le.1 q))]), hK'⟩
set_option maxRecDepth 100000 in
set_option maxHeartbeats 400000 in
theorem ccol6f (base b : Nat) (w : World) (S : St) (arg : Int) (g0 : 0 ≤ arg) (g1 : arg ≤ 99) (n1 n2 : Nat) (bx_n1 : Box 50 w b n1 (.pointer (some ⟨b, 0, none⟩))) (bx_n2 : Box 50 w b n2 (.int .i64 arg)) (hl : S.ops.length ≤ 800) (hA : PAt base w b S) :
    Calls Tryz.prog 68 #[.pointer (some ⟨n1, 0, none⟩), .pointer (some ⟨n2, 0, none⟩)] w fun e w' => e = .returned (.tuple #[]) ∧ PAt base w' b (St.fColumn false 6 arg S) ∧ Kp 50 base b w w' := by
  by_cases q : arg ≤ 64
  · refine (col6_a base b w S n1 n2 arg g0 g1 bx_n1 bx_n2 q hl hA).mono ?_
    rintro e w' ⟨he, hA', hK'⟩
    exact ⟨he, hA'.eq (by simp [St.fColumn, volT, Int.min_eq_left q]), hK'⟩
  · refine (col6_b base b w S n1 n2 arg g0 g1 bx_n1 bx_n2 (by omega) hl hA).mono ?_
    rintro e w' ⟨he, hA', hK'⟩
    exact ⟨he, hA'.eq (by simp [St.fColumn, volT, Int.min_eq_right (Int.le_of_lt (Int.not_le.1 q))]), hK'⟩
set_option maxRecDepth 100000 in
set_option maxHeartbeats 400000 in
theorem ccol2f (base b : Nat) (w : World) (S : St) (arg : Int) (g0 : 0 ≤ arg) (g1 : arg ≤ 99) (n1 n2 : Nat) (bx_n1 : Box 50 w b n1 (.pointer (some ⟨b, 0, none⟩))) (bx_n2 : Box 50 w b n2 (.int .i64 arg)) (hl : S.ops.length ≤ 800) (hA : PAt base w b S) :
    Calls Tryz.prog 64 #[.pointer (some ⟨n1, 0, none⟩), .pointer (some ⟨n2, 0, none⟩)] w fun e w' => e = .returned (.tuple #[]) ∧ PAt base w' b (St.fColumn false 2 arg S) ∧ Kp 50 base b w w' := by
  refine (col2 base b w S n1 n2 arg g0 g1 bx_n1 bx_n2 hl hA).mono ?_
  rintro e w' ⟨he, hA', hK'⟩
  exact ⟨he, hA'.eq (by simp [St.fColumn, volT]), hK'⟩
set_option maxRecDepth 100000 in
set_option maxHeartbeats 400000 in
theorem ccol3f (base b : Nat) (w : World) (S : St) (arg : Int) (g0 : 0 ≤ arg) (g1 : arg ≤ 99) (n1 n2 : Nat) (bx_n1 : Box 50 w b n1 (.pointer (some ⟨b, 0, none⟩))) (bx_n2 : Box 50 w b n2 (.int .i64 arg)) (hl : S.ops.length ≤ 800) (hA : PAt base w b S) :
    Calls Tryz.prog 65 #[.pointer (some ⟨n1, 0, none⟩), .pointer (some ⟨n2, 0, none⟩)] w fun e w' => e = .returned (.tuple #[]) ∧ PAt base w' b (St.fColumn false 3 arg S) ∧ Kp 50 base b w w' := by
  refine (col3 base b w S n1 n2 arg g0 g1 bx_n1 bx_n2 hl hA).mono ?_
  rintro e w' ⟨he, hA', hK'⟩
  exact ⟨he, hA'.eq (by simp [St.fColumn, volT]), hK'⟩
set_option maxRecDepth 100000 in
set_option maxHeartbeats 400000 in
theorem ccol4f (base b : Nat) (w : World) (S : St) (arg : Int) (g0 : 0 ≤ arg) (g1 : arg ≤ 99) (n1 n2 : Nat) (bx_n1 : Box 50 w b n1 (.pointer (some ⟨b, 0, none⟩))) (bx_n2 : Box 50 w b n2 (.int .i64 arg)) (hl : S.ops.length ≤ 800) (hA : PAt base w b S) :
    Calls Tryz.prog 66 #[.pointer (some ⟨n1, 0, none⟩), .pointer (some ⟨n2, 0, none⟩)] w fun e w' => e = .returned (.tuple #[]) ∧ PAt base w' b (St.fColumn false 4 arg S) ∧ Kp 50 base b w w' := by
  refine (col4 base b w S n1 n2 arg g0 g1 bx_n1 bx_n2 hl hA).mono ?_
  rintro e w' ⟨he, hA', hK'⟩
  exact ⟨he, hA'.eq (by simp [St.fColumn, volT]), hK'⟩
set_option maxRecDepth 100000 in
set_option maxHeartbeats 400000 in
theorem ccol5f (base b : Nat) (w : World) (S : St) (arg : Int) (g0 : 0 ≤ arg) (g1 : arg ≤ 99) (n1 n2 : Nat) (bx_n1 : Box 50 w b n1 (.pointer (some ⟨b, 0, none⟩))) (bx_n2 : Box 50 w b n2 (.int .i64 arg)) (hl : S.ops.length ≤ 800) (hA : PAt base w b S) :
    Calls Tryz.prog 67 #[.pointer (some ⟨n1, 0, none⟩), .pointer (some ⟨n2, 0, none⟩)] w fun e w' => e = .returned (.tuple #[]) ∧ PAt base w' b (St.fColumn false 5 arg S) ∧ Kp 50 base b w w' := by
  refine (col5 base b w S n1 n2 arg g0 g1 bx_n1 bx_n2 hl hA).mono ?_
  rintro e w' ⟨he, hA', hK'⟩
  exact ⟨he, hA'.eq (by simp [St.fColumn, volT]), hK'⟩
set_option maxRecDepth 100000 in
set_option maxHeartbeats 400000 in
theorem ccol9f (base b : Nat) (w : World) (S : St) (arg : Int) (g0 : 0 ≤ arg) (g1 : arg ≤ 99) (n1 n2 : Nat) (bx_n1 : Box 50 w b n1 (.pointer (some ⟨b, 0, none⟩))) (bx_n2 : Box 50 w b n2 (.int .i64 arg)) (hl : S.ops.length ≤ 800) (hA : PAt base w b S) :
    Calls Tryz.prog 73 #[.pointer (some ⟨n1, 0, none⟩), .pointer (some ⟨n2, 0, none⟩)] w fun e w' => e = .returned (.tuple #[]) ∧ PAt base w' b (St.fColumn false 9 arg S) ∧ Kp 50 base b w w' := by
  refine (col9 base b w S n1 n2 arg g0 g1 bx_n1 bx_n2 hl hA).mono ?_
  rintro e w' ⟨he, hA', hK'⟩
  exact ⟨he, hA'.eq (by simp [St.fColumn, volT]), hK'⟩
set_option maxRecDepth 100000 in
set_option maxHeartbeats 400000 in
theorem ccol10f (base b : Nat) (w : World) (S : St) (arg : Int) (g0 : 0 ≤ arg) (g1 : arg ≤ 99) (n1 n2 : Nat) (bx_n1 : Box 50 w b n1 (.pointer (some ⟨b, 0, none⟩))) (bx_n2 : Box 50 w b n2 (.int .i64 arg)) (hl : S.ops.length ≤ 800) (hA : PAt base w b S) :
    Calls Tryz.prog 74 #[.pointer (some ⟨n1, 0, none⟩), .pointer (some ⟨n2, 0, none⟩)] w fun e w' => e = .returned (.tuple #[]) ∧ PAt base w' b (St.fColumn false 10 arg S) ∧ Kp 50 base b w w' := by
  refine (col10 base b w S n1 n2 arg g0 g1 bx_n1 bx_n2 hl hA).mono ?_
  rintro e w' ⟨he, hA', hK'⟩
  exact ⟨he, hA'.eq (by simp [St.fColumn, volT]), hK'⟩
set_option maxRecDepth 100000 in
set_option maxHeartbeats 400000 in
theorem ccol7t (base b : Nat) (w : World) (S : St) (arg : Int) (g0 : 0 ≤ arg) (g1 : arg ≤ 99) (n0 n1 n2 : Nat) (bx_n0 : Box 50 w b n0 (.bool true)) (bx_n1 : Box 50 w b n1 (.pointer (some ⟨b, 0, none⟩))) (bx_n2 : Box 50 w b n2 (.int .i64 arg)) (hl : S.ops.length ≤ 800) (hA : PAt base w b S) :
    Calls Tryz.prog 69 #[.pointer (some ⟨n0, 0, none⟩), .pointer (some ⟨n1, 0, none⟩), .pointer (some ⟨n2, 0, none⟩)] w fun e w' => e = .returned (.tuple #[]) ∧ PAt base w' b (St.fColumn true 7 arg S) ∧ Kp 50 base b w w' := by
  by_cases q : arg ≤ 15
  · refine (col7f_a base b w S n0 n1 n2 arg g0 g1 bx_n0 bx_n1 bx_n2 q hl hA).mono ?_
    rintro e w' ⟨he, hA', hK'⟩
    exact ⟨he, hA'.eq (by simp [St.fColumn, volT, Int.min_eq_left q]), hK'⟩
  · refine (col7f_b base b w S n0 n1 n2 arg g0 g1 bx_n0 bx_n1 bx_n2 (by omega) hl hA).mono ?_
    rintro e w' ⟨he, hA', hK'⟩
    exact ⟨he, hA'.eq (by simp [St.fColumn, volT, Int.min_eq_right (Int.le_of_lt (Int.not_le.1 q))]), hK'⟩
set_option maxRecDepth 100000 in
set_option maxHeartbeats 400000 in
theorem ccol8t (base b : Nat) (w : World) (S : St) (arg : Int) (g0 : 0 ≤ arg) (g1 : arg ≤ 99) (n1 n2 n3 : Nat) (bx_n1 : Box 50 w b n1 (.pointer (some ⟨b, 0, none⟩))) (bx_n2 : Box 50 w b n2 (.int .i64 arg)) (bx_n3 : Box 50 w b n3 (.bool true)) (hl : S.ops.length ≤ 800) (hA : PAt base w b S) :
    Calls Tryz.prog 71 #[.pointer (some ⟨n1, 0, none⟩), .pointer (some ⟨n2, 0, none⟩), .pointer (some ⟨n3, 0, none⟩)] w fun e w' => e = .returned (.tuple #[]) ∧ PAt base w' b (St.fColumn true 8 arg S) ∧ Kp 50 base b w w' := by
  by_cases q : arg ≤ 15
  · refine (col8f_a base b w S n1 n2 n3 arg g0 g1 bx_n1 bx_n2 bx_n3 q hl hA).mono ?_
    rintro e w' ⟨he, hA', hK'⟩
    exact ⟨he, hA'.eq (by simp [St.fColumn, volT, Int.min_eq_left q]), hK'⟩
  · refine (col8f_b base b w S n1 n2 n3 arg g0 g1 bx_n1 bx_n2 bx_n3 (by omega) hl hA).mono ?_
    rintro e w' ⟨he, hA', hK'⟩
    exact ⟨he, hA'.eq (by simp [St.fColumn, volT, Int.min_eq_right (Int.le_of_lt (Int.not_le.1 q))]), hK'⟩
set_option maxRecDepth 100000 in
set_option maxHeartbeats 400000 in
theorem ccol8f (base b : Nat) (w : World) (S : St) (arg : Int) (g0 : 0 ≤ arg) (g1 : arg ≤ 99) (n1 n2 n3 : Nat) (bx_n1 : Box 50 w b n1 (.pointer (some ⟨b, 0, none⟩))) (bx_n2 : Box 50 w b n2 (.int .i64 arg)) (bx_n3 : Box 50 w b n3 (.bool false)) (hl : S.ops.length ≤ 800) (hA : PAt base w b S) :
    Calls Tryz.prog 71 #[.pointer (some ⟨n1, 0, none⟩), .pointer (some ⟨n2, 0, none⟩), .pointer (some ⟨n3, 0, none⟩)] w fun e w' => e = .returned (.tuple #[]) ∧ PAt base w' b (St.fColumn false 8 arg S) ∧ Kp 50 base b w w' := by
  by_cases q : arg ≤ 15
  · refine (col8s_a base b w S n1 n2 n3 arg g0 g1 bx_n1 bx_n2 bx_n3 q hl hA).mono ?_
    rintro e w' ⟨he, hA', hK'⟩
    exact ⟨he, hA'.eq (by simp [St.fColumn, volT, Int.min_eq_left q]), hK'⟩
  · refine (col8s_b base b w S n1 n2 n3 arg g0 g1 bx_n1 bx_n2 bx_n3 (by omega) hl hA).mono ?_
    rintro e w' ⟨he, hA', hK'⟩
    exact ⟨he, hA'.eq (by simp [St.fColumn, volT, Int.min_eq_right (Int.le_of_lt (Int.not_le.1 q))]), hK'⟩
set_option maxRecDepth 100000 in
set_option maxHeartbeats 400000 in
theorem ccol7f (base b : Nat) (w : World) (S : St) (arg : Int) (g0 : 0 ≤ arg) (g1 : arg ≤ 99) (n0 n1 n2 : Nat) (bx_n0 : Box 50 w b n0 (.bool false)) (bx_n1 : Box 50 w b n1 (.pointer (some ⟨b, 0, none⟩))) (bx_n2 : Box 50 w b n2 (.int .i64 arg)) (hl : S.ops.length ≤ 800) (hA : PAt base w b S) :
    Calls Tryz.prog 69 #[.pointer (some ⟨n0, 0, none⟩), .pointer (some ⟨n1, 0, none⟩), .pointer (some ⟨n2, 0, none⟩)] w fun e w' => e = .returned (.tuple #[]) ∧ PAt base w' b (St.fColumn false 7 arg S) ∧ Kp 50 base b w w' := by
  by_cases q0 : arg = 0
  · subst q0
    refine (col7s_0 base b w S n0 n1 n2 bx_n0 bx_n1 bx_n2 hl hA).mono ?_
    rintro e w' ⟨he, hA', hK'⟩
    exact ⟨he, hA'.eq (by simp [St.fColumn, volT]), hK'⟩
  by_cases q1 : arg = 1
  · subst q1
    refine (col7s_1 base b w S n0 n1 n2 bx_n0 bx_n1 bx_n2 hl hA).mono ?_
    rintro e w' ⟨he, hA', hK'⟩
    exact ⟨he, hA'.eq (by simp [St.fColumn, volT]), hK'⟩
  by_cases q2 : arg = 2
  · subst q2
    refine (col7s_2 base b w S n0 n1 n2 bx_n0 bx_n1 bx_n2 hl hA).mono ?_
    rintro e w' ⟨he, hA', hK'⟩
    exact ⟨he, hA'.eq (by simp [St.fColumn, volT]), hK'⟩
  by_cases q3 : arg = 3
  · subst q3
    refine (col7s_3 base b w S n0 n1 n2 bx_n0 bx_n1 bx_n2 hl hA).mono ?_
    rintro e w' ⟨he, hA', hK'⟩
    exact ⟨he, hA'.eq (by simp [St.fColumn, volT]), hK'⟩
  by_cases q4 : arg = 4
  · subst q4
    refine (col7s_4 base b w S n0 n1 n2 bx_n0 bx_n1 bx_n2 hl hA).mono ?_
    rintro e w' ⟨he, hA', hK'⟩
    exact ⟨he, hA'.eq (by simp [St.fColumn, volT]), hK'⟩
  by_cases q5 : arg = 5
  · subst q5
    refine (col7s_5 base b w S n0 n1 n2 bx_n0 bx_n1 bx_n2 hl hA).mono ?_
    rintro e w' ⟨he, hA', hK'⟩
    exact ⟨he, hA'.eq (by simp [St.fColumn, volT]), hK'⟩
  by_cases q6 : arg = 6
  · subst q6
    refine (col7s_6 base b w S n0 n1 n2 bx_n0 bx_n1 bx_n2 hl hA).mono ?_
    rintro e w' ⟨he, hA', hK'⟩
    exact ⟨he, hA'.eq (by simp [St.fColumn, volT]), hK'⟩
  by_cases q7 : arg = 7
  · subst q7
    refine (col7s_7 base b w S n0 n1 n2 bx_n0 bx_n1 bx_n2 hl hA).mono ?_
    rintro e w' ⟨he, hA', hK'⟩
    exact ⟨he, hA'.eq (by simp [St.fColumn, volT]), hK'⟩
  by_cases q8 : arg = 8
  · subst q8
    refine (col7s_8 base b w S n0 n1 n2 bx_n0 bx_n1 bx_n2 hl hA).mono ?_
    rintro e w' ⟨he, hA', hK'⟩
    exact ⟨he, hA'.eq (by simp [St.fColumn, volT]), hK'⟩
  by_cases q9 : arg = 9
  · subst q9
    refine (col7s_9 base b w S n0 n1 n2 bx_n0 bx_n1 bx_n2 hl hA).mono ?_
    rintro e w' ⟨he, hA', hK'⟩
    exact ⟨he, hA'.eq (by simp [St.fColumn, volT]), hK'⟩
  refine (col7s_b base b w S n0 n1 n2 arg g0 g1 bx_n0 bx_n1 bx_n2 (by omega) hl hA).mono ?_
  rintro e w' ⟨he, hA', hK'⟩
  exact ⟨he, hA'.eq (by simp [St.fColumn, volT, q0, q1, q2, q3, q4, q5, q6, q7, q8, q9]), hK'⟩
set_option maxRecDepth 100000 in
set_option maxHeartbeats 400000 in
theorem pcol1t (base b : Nat) (w : World) (S : St) (T arg : Int) (ht : T = 3) (g0 : 0 ≤ arg) (g1 : arg ≤ 99) (hT : w.cell? ⟨b, 26, none⟩ = some (.int .i64 T)) (hl : S.ops.length ≤ 800) (hA : PAt base w b S) :
    Calls Tryz.prog 50 #[.pointer (some ⟨b, 0, none⟩), .int .i64 1, .int .i64 arg] w fun e w' => e = .returned (.tuple #[]) ∧ PAt base w' b (St.fColumn true 1 arg S) ∧ Kp 50 base b w w' := by
  have hix : ∀ (x0 x1 x2 x3 x4 x5 x6 x7 x8 x9 x10 : Value) (w : World), (Instr.index 80 (.agg #[x0, x1, x2, x3, x4, x5, x6, x7, x8, x9, x10]) (.int .i64 1)).run Tryz.prog w = .ok x1 w := by intros; rfl
  have hcl := run_enter Tryz.func62 (by kernel_rfl) (by kernel_rfl)
  have hlt := hA.lt
  have hT2 : ((w.alloc (.cells #[.pointer (some ⟨b, 0, none⟩)] 66)).alloc (.cells #[.int .i64 arg] 3)).cell? ⟨b, 26, none⟩ = some (.int .i64 T) := by
    rw [cell_al (by rw [World.size_alloc]; omega), cell_al hlt]; exact hT
  have ht2 : (T == 3) = true := by simp [ht]
  go_enter Tryz.func50, Tryz.ntmps50
  go_wp2_with fail
  obtain ⟨b0, b1, b2⟩ := boxes3 hlt (.pointer (some ⟨b, 0, none⟩)) (.int .i64 arg) (.bool true)
  have hA3 := ((hA.alloc (.cells #[.pointer (some ⟨b, 0, none⟩)] 66)).alloc (.cells #[.int .i64 arg] 3)).alloc (.cells #[.bool true] 4)
  have hK3 := (((Kp.refl 50 base b w).alloc (.cells #[.pointer (some ⟨b, 0, none⟩)] 66)).alloc (.cells #[.int .i64 arg] 3)).alloc (.cells #[.bool true] 4)
  refine (ccol1t base b _ S arg g0 g1 _ _ b0 b1 hl hA3).mono ?_
  rintro e w' ⟨rfl, hA4, hK4⟩
  go_wp2_with fail
  go_end0
  exact ⟨rfl, hA4, hK3.trans hK4⟩
set_option maxRecDepth 100000 in
set_option maxHeartbeats 400000 in
theorem pcol2t (base b : Nat) (w : World) (S : St) (T arg : Int) (ht : T = 3) (g0 : 0 ≤ arg) (g1 : arg ≤ 99) (hT : w.cell? ⟨b, 26, none⟩ = some (.int .i64 T)) (hl : S.ops.length ≤ 800) (hA : PAt base w b S) :
    Calls Tryz.prog 50 #[.pointer (some ⟨b, 0, none⟩), .int .i64 2, .int .i64 arg] w fun e w' => e = .returned (.tuple #[]) ∧ PAt base w' b (St.fColumn true 2 arg S) ∧ Kp 50 base b w w' := by
  have hix : ∀ (x0 x1 x2 x3 x4 x5 x6 x7 x8 x9 x10 : Value) (w : World), (Instr.index 80 (.agg #[x0, x1, x2, x3, x4, x5, x6, x7, x8, x9, x10]) (.int .i64 2)).run Tryz.prog w = .ok x2 w := by intros; rfl
  have hcl := run_enter Tryz.func64 (by kernel_rfl) (by kernel_rfl)
  have hlt := hA.lt
  have hT2 : ((w.alloc (.cells #[.pointer (some ⟨b, 0, none⟩)] 66)).alloc (.cells #[.int .i64 arg] 3)).cell? ⟨b, 26, none⟩ = some (.int .i64 T) := by
    rw [cell_al (by rw [World.size_alloc]; omega), cell_al hlt]; exact hT
  have ht2 : (T == 3) = true := by simp [ht]
  go_enter Tryz.func50, Tryz.ntmps50
  go_wp2_with fail
  obtain ⟨b0, b1, b2⟩ := boxes3 hlt (.pointer (some ⟨b, 0, none⟩)) (.int .i64 arg) (.bool true)
  have hA3 := ((hA.alloc (.cells #[.pointer (some ⟨b, 0, none⟩)] 66)).alloc (.cells #[.int .i64 arg] 3)).alloc (.cells #[.bool true] 4)
  have hK3 := (((Kp.refl 50 base b w).alloc (.cells #[.pointer (some ⟨b, 0, none⟩)] 66)).alloc (.cells #[.int .i64 arg] 3)).alloc (.cells #[.bool true] 4)
  refine (ccol2t base b _ S arg g0 g1 _ _ b0 b1 hl hA3).mono ?_
  rintro e w' ⟨rfl, hA4, hK4⟩
  go_wp2_with fail
  go_end0
  exact ⟨rfl, hA4, hK3.trans hK4⟩
set_option maxRecDepth 100000 in
set_option maxHeartbeats 400000 in
theorem pcol3t (base b : Nat) (w : World) (S : St) (T arg : Int) (ht : T = 3) (g0 : 0 ≤ arg) (g1 : arg ≤ 99) (hT : w.cell? ⟨b, 26, none⟩ = some (.int .i64 T)) (hl : S.ops.length ≤ 800) (hA : PAt base w b S) :
    Calls Tryz.prog 50 #[.pointer (some ⟨b, 0, none⟩), .int .i64 3, .int .i64 arg] w fun e w' => e = .returned (.tuple #[]) ∧ PAt base w' b (St.fColumn true 3 arg S) ∧ Kp 50 base b w w' := by
  have hix : ∀ (x0 x1 x2 x3 x4 x5 x6 x7 x8 x9 x10 : Value) (w : World), (Instr.index 80 (.agg #[x0, x1, x2, x3, x4, x5, x6, x7, x8, x9, x10]) (.int .i64 3)).run Tryz.prog w = .ok x3 w := by intros; rfl
  have hcl := run_enter Tryz.func65 (by kernel_rfl) (by kernel_rfl)
  have hlt := hA.lt
  have hT2 : ((w.alloc (.cells #[.pointer (some ⟨b, 0, none⟩)] 66)).alloc (.cells #[.int .i64 arg] 3)).cell? ⟨b, 26, none⟩ = some (.int .i64 T) := by
    rw [cell_al (by rw [World.size_alloc]; omega), cell_al hlt]; exact hT
  have ht2 : (T == 3) = true := by simp [ht]
  go_enter Tryz.func50, Tryz.ntmps50
  go_wp2_with fail
  obtain ⟨b0, b1, b2⟩ := boxes3 hlt (.pointer (some ⟨b, 0, none⟩)) (.int .i64 arg) (.bool true)
  have hA3 := ((hA.alloc (.cells #[.pointer (some ⟨b, 0, none⟩)] 66)).alloc (.cells #[.int .i64 arg] 3)).alloc (.cells #[.bool true] 4)
  have hK3 := (((Kp.refl 50 base b w).alloc (.cells #[.pointer (some ⟨b, 0, none⟩)] 66)).alloc (.cells #[.int .i64 arg] 3)).alloc (.cells #[.bool true] 4)
  refine (ccol3t base b _ S arg g0 g1 _ _ b0 b1 hl hA3).mono ?_
  rintro e w' ⟨rfl, hA4, hK4⟩
  go_wp2_with fail
  go_end0
  exact ⟨rfl, hA4, hK3.trans hK4⟩
set_option maxRecDepth 100000 in
set_option maxHeartbeats 400000 in
theorem pcol4t (base b : Nat) (w : World) (S : St) (T arg : Int) (ht : T = 3) (g0 : 0 ≤ arg) (g1 : arg ≤ 99) (hT : w.cell? ⟨b, 26, none⟩ = some (.int .i64 T)) (hl : S.ops.length ≤ 800) (hA : PAt base w b S) :
    Calls Tryz.prog 50 #[.pointer (some ⟨b, 0, none⟩), .int .i64 4, .int .i64 arg] w fun e w' => e = .returned (.tuple #[]) ∧ PAt base w' b (St.fColumn true 4 arg S) ∧ Kp 50 base b w w' := by
  have hix : ∀ (x0 x1 x2 x3 x4 x5 x6 x7 x8 x9 x10 : Value) (w : World), (Instr.index 80 (.agg #[x0, x1, x2, x3, x4, x5, x6, x7, x8, x9, x10]) (.int .i64 4)).run Tryz.prog w = .ok x4 w := by intros; rfl
  have hcl := run_enter Tryz.func66 (by kernel_rfl) (by kernel_rfl)
  have hlt := hA.lt
  have hT2 : ((w.alloc (.cells #[.pointer (some ⟨b, 0, none⟩)] 66)).alloc (.cells #[.int .i64 arg] 3)).cell? ⟨b, 26, none⟩ = some (.int .i64 T) := by
    rw [cell_al (by rw [World.size_alloc]; omega), cell_al hlt]; exact hT
  have ht2 : (T == 3) = true := by simp [ht]
  go_enter Tryz.func50, Tryz.ntmps50
  go_wp2_with fail
  obtain ⟨b0, b1, b2⟩ := boxes3 hlt (.pointer (some ⟨b, 0, none⟩)) (.int .i64 arg) (.bool true)
  have hA3 := ((hA.alloc (.cells #[.pointer (some ⟨b, 0, none⟩)] 66)).alloc (.cells #[.int .i64 arg] 3)).alloc (.cells #[.bool true] 4)
  have hK3 := (((Kp.refl 50 base b w).alloc (.cells #[.pointer (some ⟨b, 0, none⟩)] 66)).alloc (.cells #[.int .i64 arg] 3)).alloc (.cells #[.bool true] 4)
  refine (ccol4t base b _ S arg g0 g1 _ _ b0 b1 hl hA3).mono ?_
  rintro e w' ⟨rfl, hA4, hK4⟩
  go_wp2_with fail
  go_end0
  exact ⟨rfl, hA4, hK3.trans hK4⟩
set_option maxRecDepth 100000 in
set_option maxHeartbeats 400000 in
theorem pcol5t (base b : Nat) (w : World) (S : St) (T arg : Int) (ht : T = 3) (g0 : 0 ≤ arg) (g1 : arg ≤ 99) (hT : w.cell? ⟨b, 26, none⟩ = some (.int .i64 T)) (hl : S.ops.length ≤ 800) (hA : PAt base w b S) :
    Calls Tryz.prog 50 #[.pointer (some ⟨b, 0, none⟩), .int .i64 5, .int .i64 arg] w fun e w' => e = .returned (.tuple #[]) ∧ PAt base w' b (St.fColumn true 5 arg S) ∧ Kp 50 base b w w' := by
  have hix : ∀ (x0 x1 x2 x3 x4 x5 x6 x7 x8 x9 x10 : Value) (w : World), (Instr.index 80 (.agg #[x0, x1, x2, x3, x4, x5, x6, x7, x8, x9, x10]) (.int .i64 5)).run Tryz.prog w = .ok x5 w := by intros; rfl
  have hcl := run_enter Tryz.func67 (by kernel_rfl) (by kernel_rfl)
  have hlt := hA.lt
  have hT2 : ((w.alloc (.cells #[.pointer (some ⟨b, 0, none⟩)] 66)).alloc (.cells #[.int .i64 arg] 3)).cell? ⟨b, 26, none⟩ = some (.int .i64 T) := by
    rw [cell_al (by rw [World.size_alloc]; omega), cell_al hlt]; exact hT
  have ht2 : (T == 3) = true := by simp [ht]
  go_enter Tryz.func50, Tryz.ntmps50
  go_wp2_with fail
  obtain ⟨b0, b1, b2⟩ := boxes3 hlt (.pointer (some ⟨b, 0, none⟩)) (.int .i64 arg) (.bool true)
  have hA3 := ((hA.alloc (.cells #[.pointer (some ⟨b, 0, none⟩)] 66)).alloc (.cells #[.int .i64 arg] 3)).alloc (.cells #[.bool true] 4)
  have hK3 := (((Kp.refl 50 base b w).alloc (.cells #[.pointer (some ⟨b, 0, none⟩)] 66)).alloc (.cells #[.int .i64 arg] 3)).alloc (.cells #[.bool true] 4)
  refine (ccol5t base b _ S arg g0 g1 _ _ b0 b1 hl hA3).mono ?_
  rintro e w' ⟨rfl, hA4, hK4⟩
  go_wp2_with fail
  go_end0
  exact ⟨rfl, hA4, hK3.trans hK4⟩
set_option maxRecDepth 100000 in
set_option maxHeartbeats 400000 in
theorem pcol6t (base b : Nat) (w : World) (S : St) (T arg : Int) (ht : T = 3) (g0 : 0 ≤ arg) (g1 : arg ≤ 99) (hT : w.cell? ⟨b, 26, none⟩ = some (.int .i64 T)) (hl : S.ops.length ≤ 800) (hA : PAt base w b S) :
    Calls Tryz.prog 50 #[.pointer (some ⟨b, 0, none⟩), .int .i64 6, .int .i64 arg] w fun e w' => e = .returned (.tuple #[]) ∧ PAt base w' b (St.fColumn true 6 arg S) ∧ Kp 50 base b w w' := by
  have hix : ∀ (x0 x1 x2 x3 x4 x5 x6 x7 x8 x9 x10 : Value) (w : World), (Instr.index 80 (.agg #[x0, x1, x2, x3, x4, x5, x6, x7, x8, x9, x10]) (.int .i64 6)).run Tryz.prog w = .ok x6 w := by intros; rfl
  have hcl := run_enter Tryz.func68 (by kernel_rfl) (by kernel_rfl)
  have hlt := hA.lt
  have hT2 : ((w.alloc (.cells #[.pointer (some ⟨b, 0, none⟩)] 66)).alloc (.cells #[.int .i64 arg] 3)).cell? ⟨b, 26, none⟩ = some (.int .i64 T) := by
    rw [cell_al (by rw [World.size_alloc]; omega), cell_al hlt]; exact hT
  have ht2 : (T == 3) = true := by simp [ht]
  go_enter Tryz.func50, Tryz.ntmps50
  go_wp2_with fail
  obtain ⟨b0, b1, b2⟩ := boxes3 hlt (.pointer (some ⟨b, 0, none⟩)) (.int .i64 arg) (.bool true)
  have hA3 := ((hA.alloc (.cells #[.pointer (some ⟨b, 0, none⟩)] 66)).alloc (.cells #[.int .i64 arg] 3)).alloc (.cells #[.bool true] 4)
  have hK3 := (((Kp.refl 50 base b w).alloc (.cells #[.pointer (some ⟨b, 0, none⟩)] 66)).alloc (.cells #[.int .i64 arg] 3)).alloc (.cells #[.bool true] 4)
  refine (ccol6t base b _ S arg g0 g1 _ _ b0 b1 hl hA3).mono ?_
  rintro e w' ⟨rfl, hA4, hK4⟩
  go_wp2_with fail
  go_end0
  exact ⟨rfl, hA4, hK3.trans hK4⟩
set_option maxRecDepth 100000 in
set_option maxHeartbeats 400000 in
theorem pcol7t (base b : Nat) (w : World) (S : St) (T arg : Int) (ht : T = 3) (g0 : 0 ≤ arg) (g1 : arg ≤ 99) (hT : w.cell? ⟨b, 26, none⟩ = some (.int .i64 T)) (hl : S.ops.length ≤ 800) (hA : PAt base w b S) :
    Calls Tryz.prog 50 #[.pointer (some ⟨b, 0, none⟩), .int .i64 7, .int .i64 arg] w fun e w' => e = .returned (.tuple #[]) ∧ PAt base w' b (St.fColumn true 7 arg S) ∧ Kp 50 base b w w' := by
  have hix : ∀ (x0 x1 x2 x3 x4 x5 x6 x7 x8 x9 x10 : Value) (w : World), (Instr.index 80 (.agg #[x0, x1, x2, x3, x4, x5, x6, x7, x8, x9, x10]) (.int .i64 7)).run Tryz.prog w = .ok x7 w := by intros; rfl
  have hcl := run_enter Tryz.func69 (by kernel_rfl) (by kernel_rfl)
  have hlt := hA.lt
  have hT2 : ((w.alloc (.cells #[.pointer (some ⟨b, 0, none⟩)] 66)).alloc (.cells #[.int .i64 arg] 3)).cell? ⟨b, 26, none⟩ = some (.int .i64 T) := by
    rw [cell_al (by rw [World.size_alloc]; omega), cell_al hlt]; exact hT
  have ht2 : (T == 3) = true := by simp [ht]
  go_enter Tryz.func50, Tryz.ntmps50
  go_wp2_with fail
  obtain ⟨b0, b1, b2⟩ := boxes3 hlt (.pointer (some ⟨b, 0, none⟩)) (.int .i64 arg) (.bool true)
  have hA3 := ((hA.alloc (.cells #[.pointer (some ⟨b, 0, none⟩)] 66)).alloc (.cells #[.int .i64 arg] 3)).alloc (.cells #[.bool true] 4)
  have hK3 := (((Kp.refl 50 base b w).alloc (.cells #[.pointer (some ⟨b, 0, none⟩)] 66)).alloc (.cells #[.int .i64 arg] 3)).alloc (.cells #[.bool true] 4)
  refine (ccol7t base b _ S arg g0 g1 _ _ _ b2 b0 b1 hl hA3).mono ?_
  rintro e w' ⟨rfl, hA4, hK4⟩
  go_wp2_with fail
  go_end0
  exact ⟨rfl, hA4, hK3.trans hK4⟩
set_option maxRecDepth 100000 in
set_option maxHeartbeats 400000 in
theorem pcol8t (base b : Nat) (w : World) (S : St) (T arg : Int) (ht : T = 3) (g0 : 0 ≤ arg) (g1 : arg ≤ 99) (hT : w.cell? ⟨b, 26, none⟩ = some (.int .i64 T)) (hl : S.ops.length ≤ 800) (hA : PAt base w b S) :
    Calls Tryz.prog 50 #[.pointer (some ⟨b, 0, none⟩), .int .i64 8, .int .i64 arg] w fun e w' => e = .returned (.tuple #[]) ∧ PAt base w' b (St.fColumn true 8 arg S) ∧ Kp 50 base b w w' := by
  have hix : ∀ (x0 x1 x2 x3 x4 x5 x6 x7 x8 x9 x10 : Value) (w : World), (Instr.index 80 (.agg #[x0, x1, x2, x3, x4, x5, x6, x7, x8, x9, x10]) (.int .i64 8)).run Tryz.prog w = .ok x8 w := by intros; rfl
  have hcl := run_enter Tryz.func71 (by kernel_rfl) (by kernel_rfl)
  have hlt := hA.lt
  have hT2 : ((w.alloc (.cells #[.pointer (some ⟨b, 0, none⟩)] 66)).alloc (.cells #[.int .i64 arg] 3)).cell? ⟨b, 26, none⟩ = some (.int .i64 T) := by
    rw [cell_al (by rw [World.size_alloc]; omega), cell_al hlt]; exact hT
  have ht2 : (T == 3) = true := by simp [ht]
  go_enter Tryz.func50, Tryz.ntmps50
  go_wp2_with fail
  obtain ⟨b0, b1, b2⟩ := boxes3 hlt (.pointer (some ⟨b, 0, none⟩)) (.int .i64 arg) (.bool true)
  have hA3 := ((hA.alloc (.cells #[.pointer (some ⟨b, 0, none⟩)] 66)).alloc (.cells #[.int .i64 arg] 3)).alloc (.cells #[.bool true] 4)
  have hK3 := (((Kp.refl 50 base b w).alloc (.cells #[.pointer (some ⟨b, 0, none⟩)] 66)).alloc (.cells #[.int .i64 arg] 3)).alloc (.cells #[.bool true] 4)
  refine (ccol8t base b _ S arg g0 g1 _ _ _ b0 b1 b2 hl hA3).mono ?_
  rintro e w' ⟨rfl, hA4, hK4⟩
  go_wp2_with fail
  go_end0
  exact ⟨rfl, hA4, hK3.trans hK4⟩
set_option maxRecDepth 100000 in
set_option maxHeartbeats 400000 in
theorem pcol9t (base b : Nat) (w : World) (S : St) (T arg : Int) (ht : T = 3) (g0 : 0 ≤ arg) (g1 : arg ≤ 99) (hT : w.cell? ⟨b, 26, none⟩ = some (.int .i64 T)) (hl : S.ops.length ≤ 800) (hA : PAt base w b S) :
    Calls Tryz.prog 50 #[.pointer (some ⟨b, 0, none⟩), .int .i64 9, .int .i64 arg] w fun e w' => e = .returned (.tuple #[]) ∧ PAt base w' b (St.fColumn true 9 arg S) ∧ Kp 50 base b w w' := by
  have hix : ∀ (x0 x1 x2 x3 x4 x5 x6 x7 x8 x9 x10 : Value) (w : World), (Instr.index 80 (.agg #[x0, x1, x2, x3, x4, x5, x6, x7, x8, x9, x10]) (.int .i64 9)).run Tryz.prog w = .ok x9 w := by intros; rfl
  have hcl := run_enter Tryz.func73 (by kernel_rfl) (by kernel_rfl)
  have hlt := hA.lt
  have hT2 : ((w.alloc (.cells #[.pointer (some ⟨b, 0, none⟩)] 66)).alloc (.cells #[.int .i64 arg] 3)).cell? ⟨b, 26, none⟩ = some (.int .i64 T) := by
    rw [cell_al (by rw [World.size_alloc]; omega), cell_al hlt]; exact hT
  have ht2 : (T == 3) = true := by simp [ht]
  go_enter Tryz.func50, Tryz.ntmps50
  go_wp2_with fail
  obtain ⟨b0, b1, b2⟩ := boxes3 hlt (.pointer (some ⟨b, 0, none⟩)) (.int .i64 arg) (.bool true)
  have hA3 := ((hA.alloc (.cells #[.pointer (some ⟨b, 0, none⟩)] 66)).alloc (.cells #[.int .i64 arg] 3)).alloc (.cells #[.bool true] 4)
  have hK3 := (((Kp.refl 50 base b w).alloc (.cells #[.pointer (some ⟨b, 0, none⟩)] 66)).alloc (.cells #[.int .i64 arg] 3)).alloc (.cells #[.bool true] 4)
  refine (ccol9t base b _ S arg g0 g1 _ _ b0 b1 hl hA3).mono ?_
  rintro e w' ⟨rfl, hA4, hK4⟩
  go_wp2_with fail
  go_end0
  exact ⟨rfl, hA4, hK3.trans hK4⟩
set_option maxRecDepth 100000 in
set_option maxHeartbeats 400000 in
theorem pcol10t (base b : Nat) (w : World) (S : St) (T arg : Int) (ht : T = 3) (g0 : 0 ≤ arg) (g1 : arg ≤ 99) (hT : w.cell? ⟨b, 26, none⟩ = some (.int .i64 T)) (hl : S.ops.length ≤ 800) (hA : PAt base w b S) :
    Calls Tryz.prog 50 #[.pointer (some ⟨b, 0, none⟩), .int .i64 10, .int .i64 arg] w fun e w' => e = .returned (.tuple #[]) ∧ PAt base w' b (St.fColumn true 10 arg S) ∧ Kp 50 base b w w' := by
  have hix : ∀ (x0 x1 x2 x3 x4 x5 x6 x7 x8 x9 x10 : Value) (w : World), (Instr.index 80 (.agg #[x0, x1, x2, x3, x4, x5, x6, x7, x8, x9, x10]) (.int .i64 10)).run Tryz.prog w = .ok x10 w := by intros; rfl
  have hcl := run_enter Tryz.func74 (by kernel_rfl) (by kernel_rfl)
  have hlt := hA.lt
  have hT2 : ((w.alloc (.cells #[.pointer (some ⟨b, 0, none⟩)] 66)).alloc (.cells #[.int .i64 arg] 3)).cell? ⟨b, 26, none⟩ = some (.int .i64 T) := by
    rw [cell_al (by rw [World.size_alloc]; omega), cell_al hlt]; exact hT
  have ht2 : (T == 3) = true := by simp [ht]
  go_enter Tryz.func50, Tryz.ntmps50
  go_wp2_with fail
  obtain ⟨b0, b1, b2⟩ := boxes3 hlt (.pointer (some ⟨b, 0, none⟩)) (.int .i64 arg) (.bool true)
  have hA3 := ((hA.alloc (.cells #[.pointer (some ⟨b, 0, none⟩)] 66)).alloc (.cells #[.int .i64 arg] 3)).alloc (.cells #[.bool true] 4)
  have hK3 := (((Kp.refl 50 base b w).alloc (.cells #[.pointer (some ⟨b, 0, none⟩)] 66)).alloc (.cells #[.int .i64 arg] 3)).alloc (.cells #[.bool true] 4)
  refine (ccol10t base b _ S arg g0 g1 _ _ b0 b1 hl hA3).mono ?_
  rintro e w' ⟨rfl, hA4, hK4⟩
  go_wp2_with fail
  go_end0
  exact ⟨rfl, hA4, hK3.trans hK4⟩
set_option maxRecDepth 100000 in
set_option maxHeartbeats 400000 in
theorem pcol1f (base b : Nat) (w : World) (S : St) (T arg : Int) (ht : T ≠ 3) (g0 : 0 ≤ arg) (g1 : arg ≤ 99) (hT : w.cell? ⟨b, 26, none⟩ = some (.int .i64 T)) (hl : S.ops.length ≤ 800) (hA : PAt base w b S) :
    Calls Tryz.prog 50 #[.pointer (some ⟨b, 0, none⟩), .int .i64 1, .int .i64 arg] w fun e w' => e = .returned (.tuple #[]) ∧ PAt base w' b (St.fColumn false 1 arg S) ∧ Kp 50 base b w w' := by
  have hix : ∀ (x0 x1 x2 x3 x4 x5 x6 x7 x8 x9 x10 : Value) (w : World), (Instr.index 80 (.agg #[x0, x1, x2, x3, x4, x5, x6, x7, x8, x9, x10]) (.int .i64 1)).run Tryz.prog w = .ok x1 w := by intros; rfl
  have hcl := run_enter Tryz.func62 (by kernel_rfl) (by kernel_rfl)
  have hlt := hA.lt
  have hT2 : ((w.alloc (.cells #[.pointer (some ⟨b, 0, none⟩)] 66)).alloc (.cells #[.int .i64 arg] 3)).cell? ⟨b, 26, none⟩ = some (.int .i64 T) := by
    rw [cell_al (by rw [World.size_alloc]; omega), cell_al hlt]; exact hT
  have ht2 : (T == 3) = false := by simp [ht]
  go_enter Tryz.func50, Tryz.ntmps50
  go_wp2_with fail
  obtain ⟨b0, b1, b2⟩ := boxes3 hlt (.pointer (some ⟨b, 0, none⟩)) (.int .i64 arg) (.bool false)
  have hA3 := ((hA.alloc (.cells #[.pointer (some ⟨b, 0, none⟩)] 66)).alloc (.cells #[.int .i64 arg] 3)).alloc (.cells #[.bool false] 4)
  have hK3 := (((Kp.refl 50 base b w).alloc (.cells #[.pointer (some ⟨b, 0, none⟩)] 66)).alloc (.cells #[.int .i64 arg] 3)).alloc (.cells #[.bool false] 4)
  refine (ccol1f base b _ S arg g0 g1 _ _ b0 b1 hl hA3).mono ?_
  rintro e w' ⟨rfl, hA4, hK4⟩
  go_wp2_with fail
  go_end0
  exact ⟨rfl, hA4, hK3.trans hK4⟩
set_option maxRecDepth 100000 in
set_option maxHeartbeats 400000 in
theorem pcol2f (base b : Nat) (w : World) (S : St) (T arg : Int) (ht : T ≠ 3) (g0 : 0 ≤ arg) (g1 : arg ≤ 99) (hT : w.cell? ⟨b, 26, none⟩ = some (.int .i64 T)) (hl : S.ops.length ≤ 800) (hA : PAt base w b S) :
    Calls Tryz.prog 50 #[.pointer (some ⟨b, 0, none⟩), .int .i64 2, .int .i64 arg] w fun e w' => e = .returned (.tuple #[]) ∧ PAt base w' b (St.fColumn false 2 arg S) ∧ Kp 50 base b w w' := by
  have hix : ∀ (x0 x1 x2 x3 x4 x5 x6 x7 x8 x9 x10 : Value) (w : World), (Instr.index 80 (.agg #[x0, x1, x2, x3, x4, x5, x6, x7, x8, x9, x10]) (.int .i64 2)).run Tryz.prog w = .ok x2 w := by intros; rfl
  have hcl := run_enter Tryz.func64 (by kernel_rfl) (by kernel_rfl)
  have hlt := hA.lt
  have hT2 : ((w.alloc (.cells #[.pointer (some ⟨b, 0, none⟩)] 66)).alloc (.cells #[.int .i64 arg] 3)).cell? ⟨b, 26, none⟩ = some (.int .i64 T) := by
    rw [cell_al (by rw [World.size_alloc]; omega), cell_al hlt]; exact hT
  have ht2 : (T == 3) = false := by simp [ht]
  go_enter Tryz.func50, Tryz.ntmps50
  go_wp2_with fail
  obtain ⟨b0, b1, b2⟩ := boxes3 hlt (.pointer (some ⟨b, 0, none⟩)) (.int .i64 arg) (.bool false)
  have hA3 := ((hA.alloc (.cells #[.pointer (some ⟨b, 0, none⟩)] 66)).alloc (.cells #[.int .i64 arg] 3)).alloc (.cells #[.bool false] 4)
  have hK3 := (((Kp.refl 50 base b w).alloc (.cells #[.pointer (some ⟨b, 0, none⟩)] 66)).alloc (.cells #[.int .i64 arg] 3)).alloc (.cells #[.bool false] 4)
  refine (ccol2f base b _ S arg g0 g1 _ _ b0 b1 hl hA3).mono ?_
  rintro e w' ⟨rfl, hA4, hK4⟩
  go_wp2_with fail
  go_end0
  exact ⟨rfl, hA4, hK3.trans hK4⟩
set_option maxRecDepth 100000 in
set_option maxHeartbeats 400000 in
theorem pcol3f (base b : Nat) (w : World) (S : St) (T arg : Int) (ht : T ≠ 3) (g0 : 0 ≤ arg) (g1 : arg ≤ 99) (hT : w.cell? ⟨b, 26, none⟩ = some (.int .i64 T)) (hl : S.ops.length ≤ 800) (hA : PAt base w b S) :
    Calls Tryz.prog 50 #[.pointer (some ⟨b, 0, none⟩), .int .i64 3, .int .i64 arg] w fun e w' => e = .returned (.tuple #[]) ∧ PAt base w' b (St.fColumn false 3 arg S) ∧ Kp 50 base b w w' := by
  have hix : ∀ (x0 x1 x2 x3 x4 x5 x6 x7 x8 x9 x10 : Value) (w : World), (Instr.index 80 (.agg #[x0, x1, x2, x3, x4, x5, x6, x7, x8, x9, x10]) (.int .i64 3)).run Tryz.prog w = .ok x3 w := by intros; rfl
  have hcl := run_enter Tryz.func65 (by kernel_rfl) (by kernel_rfl)
  have hlt := hA.lt
  have hT2 : ((w.alloc (.cells #[.pointer (some ⟨b, 0, none⟩)] 66)).alloc (.cells #[.int .i64 arg] 3)).cell? ⟨b, 26, none⟩ = some (.int .i64 T) := by
    rw [cell_al (by rw [World.size_alloc]; omega), cell_al hlt]; exact hT
  have ht2 : (T == 3) = false := by simp [ht]
  go_enter Tryz.func50, Tryz.ntmps50
  go_wp2_with fail
  obtain ⟨b0, b1, b2⟩ := boxes3 hlt (.pointer (some ⟨b, 0, none⟩)) (.int .i64 arg) (.bool false)
  have hA3 := ((hA.alloc (.cells #[.pointer (some ⟨b, 0, none⟩)] 66)).alloc (.cells #[.int .i64 arg] 3)).alloc (.cells #[.bool false] 4)
  have hK3 := (((Kp.refl 50 base b w).alloc (.cells #[.pointer (some ⟨b, 0, none⟩)] 66)).alloc (.cells #[.int .i64 arg] 3)).alloc (.cells #[.bool false] 4)
  refine (ccol3f base b _ S arg g0 g1 _ _ b0 b1 hl hA3).mono ?_
  rintro e w' ⟨rfl, hA4, hK4⟩
  go_wp2_with fail
  go_end0
  exact ⟨rfl, hA4, hK3.trans hK4⟩
set_option maxRecDepth 100000 in
set_option maxHeartbeats 400000 in
theorem pcol4f (base b : Nat) (w : World) (S : St) (T arg : Int) (ht : T ≠ 3) (g0 : 0 ≤ arg) (g1 : arg ≤ 99) (hT : w.cell? ⟨b, 26, none⟩ = some (.int .i64 T)) (hl : S.ops.length ≤ 800) (hA : PAt base w b S) :
    Calls Tryz.prog 50 #[.pointer (some ⟨b, 0, none⟩), .int .i64 4, .int .i64 arg] w fun e w' => e = .returned (.tuple #[]) ∧ PAt base w' b (St.fColumn false 4 arg S) ∧ Kp 50 base b w w' := by
  have hix : ∀ (x0 x1 x2 x3 x4 x5 x6 x7 x8 x9 x10 : Value) (w : World), (Instr.index 80 (.agg #[x0, x1, x2, x3, x4, x5, x6, x7, x8, x9, x10]) (.int .i64 4)).run Tryz.prog w = .ok x4 w := by intros; rfl
  have hcl := run_enter Tryz.func66 (by kernel_rfl) (by kernel_rfl)
  have hlt := hA.lt
  have hT2 : ((w.alloc (.cells #[.pointer (some ⟨b, 0, none⟩)] 66)).alloc (.cells #[.int .i64 arg] 3)).cell? ⟨b, 26, none⟩ = some (.int .i64 T) := by
    rw [cell_al (by rw [World.size_alloc]; omega), cell_al hlt]; exact hT
  have ht2 : (T == 3) = false := by simp [ht]
  go_enter Tryz.func50, Tryz.ntmps50
  go_wp2_with fail
  obtain ⟨b0, b1, b2⟩ := boxes3 hlt (.pointer (some ⟨b, 0, none⟩)) (.int .i64 arg) (.bool false)
  have hA3 := ((hA.alloc (.cells #[.pointer (some ⟨b, 0, none⟩)] 66)).alloc (.cells #[.int .i64 arg] 3)).alloc (.cells #[.bool false] 4)
  have hK3 := (((Kp.refl 50 base b w).alloc (.cells #[.pointer (some ⟨b, 0, none⟩)] 66)).alloc (.cells #[.int .i64 arg] 3)).alloc (.cells #[.bool false] 4)
  refine (ccol4f base b _ S arg g0 g1 _ _ b0 b1 hl hA3).mono ?_
  rintro e w' ⟨rfl, hA4, hK4⟩
  go_wp2_with fail
  go_end0
  exact ⟨rfl, hA4, hK3.trans hK4⟩
set_option maxRecDepth 100000 in
set_option maxHeartbeats 400000 in
theorem pcol5f (base b : Nat) (w : World) (S : St) (T arg : Int) (ht : T ≠ 3) (g0 : 0 ≤ arg) (g1 : arg ≤ 99) (hT : w.cell? ⟨b, 26, none⟩ = some (.int .i64 T)) (hl : S.ops.length ≤ 800) (hA : PAt base w b S) :
    Calls Tryz.prog 50 #[.pointer (some ⟨b, 0, none⟩), .int .i64 5, .int .i64 arg] w fun e w' => e = .returned (.tuple #[]) ∧ PAt base w' b (St.fColumn false 5 arg S) ∧ Kp 50 base b w w' := by
  have hix : ∀ (x0 x1 x2 x3 x4 x5 x6 x7 x8 x9 x10 : Value) (w : World), (Instr.index 80 (.agg #[x0, x1, x2, x3, x4, x5, x6, x7, x8, x9, x10]) (.int .i64 5)).run Tryz.prog w = .ok x5 w := by intros; rfl
  have hcl := run_enter Tryz.func67 (by kernel_rfl) (by kernel_rfl)
  have hlt := hA.lt
  have hT2 : ((w.alloc (.cells #[.pointer (some ⟨b, 0, none⟩)] 66)).alloc (.cells #[.int .i64 arg] 3)).cell? ⟨b, 26, none⟩ = some (.int .i64 T) := by
    rw [cell_al (by rw [World.size_alloc]; omega), cell_al hlt]; exact hT
  have ht2 : (T == 3) = false := by simp [ht]
  go_enter Tryz.func50, Tryz.ntmps50
  go_wp2_with fail
  obtain ⟨b0, b1, b2⟩ := boxes3 hlt (.pointer (some ⟨b, 0, none⟩)) (.int .i64 arg) (.bool false)
  have hA3 := ((hA.alloc (.cells #[.pointer (some ⟨b, 0, none⟩)] 66)).alloc (.cells #[.int .i64 arg] 3)).alloc (.cells #[.bool false] 4)
  have hK3 := (((Kp.refl 50 base b w).alloc (.cells #[.pointer (some ⟨b, 0, none⟩)] 66)).alloc (.cells #[.int .i64 arg] 3)).alloc (.cells #[.bool false] 4)
  refine (ccol5f base b _ S arg g0 g1 _ _ b0 b1 hl hA3).mono ?_
  rintro e w' ⟨rfl, hA4, hK4⟩
  go_wp2_with fail
  go_end0
  exact ⟨rfl, hA4, hK3.trans hK4⟩
set_option maxRecDepth 100000 in
set_option maxHeartbeats 400000 in
theorem pcol6f (base b : Nat) (w : World) (S : St) (T arg : Int) (ht : T ≠ 3) (g0 : 0 ≤ arg) (g1 : arg ≤ 99) (hT : w.cell? ⟨b, 26, none⟩ = some (.int .i64 T)) (hl : S.ops.length ≤ 800) (hA : PAt base w b S) :
    Calls Tryz.prog 50 #[.pointer (some ⟨b, 0, none⟩), .int .i64 6, .int .i64 arg] w fun e w' => e = .returned (.tuple #[]) ∧ PAt base w' b (St.fColumn false 6 arg S) ∧ Kp 50 base b w w' := by
  have hix : ∀ (x0 x1 x2 x3 x4 x5 x6 x7 x8 x9 x10 : Value) (w : World), (Instr.index 80 (.agg #[x0, x1, x2, x3, x4, x5, x6, x7, x8, x9, x10]) (.int .i64 6)).run Tryz.prog w = .ok x6 w := by intros; rfl
  have hcl := run_enter Tryz.func68 (by kernel_rfl) (by kernel_rfl)
  have hlt := hA.lt
  have hT2 : ((w.alloc (.cells #[.pointer (some ⟨b, 0, none⟩)] 66)).alloc (.cells #[.int .i64 arg] 3)).cell? ⟨b, 26, none⟩ = some (.int .i64 T) := by
    rw [cell_al (by rw [World.size_alloc]; omega), cell_al hlt]; exact hT
  have ht2 : (T == 3) = false := by simp [ht]
  go_enter Tryz.func50, Tryz.ntmps50
  go_wp2_with fail
  obtain ⟨b0, b1, b2⟩ := boxes3 hlt (.pointer (some ⟨b, 0, none⟩)) (.int .i64 arg) (.bool false)
  have hA3 := ((hA.alloc (.cells #[.pointer (some ⟨b, 0, none⟩)] 66)).alloc (.cells #[.int .i64 arg] 3)).alloc (.cells #[.bool false] 4)
  have hK3 := (((Kp.refl 50 base b w).alloc (.cells #[.pointer (some ⟨b, 0, none⟩)] 66)).alloc (.cells #[.int .i64 arg] 3)).alloc (.cells #[.bool false] 4)
  refine (ccol6f base b _ S arg g0 g1 _ _ b0 b1 hl hA3).mono ?_
  rintro e w' ⟨rfl, hA4, hK4⟩
  go_wp2_with fail
  go_end0
  exact ⟨rfl, hA4, hK3.trans hK4⟩
set_option maxRecDepth 100000 in
set_option maxHeartbeats 400000 in
theorem pcol7f (base b : Nat) (w : World) (S : St) (T arg : Int) (ht : T ≠ 3) (g0 : 0 ≤ arg) (g1 : arg ≤ 99) (hT : w.cell? ⟨b, 26, none⟩ = some (.int .i64 T)) (hl : S.ops.length ≤ 800) (hA : PAt base w b S) :
    Calls Tryz.prog 50 #[.pointer (some ⟨b, 0, none⟩), .int .i64 7, .int .i64 arg] w fun e w' => e = .returned (.tuple #[]) ∧ PAt base w' b (St.fColumn false 7 arg S) ∧ Kp 50 base b w w' := by
  have hix : ∀ (x0 x1 x2 x3 x4 x5 x6 x7 x8 x9 x10 : Value) (w : World), (Instr.index 80 (.agg #[x0, x1, x2, x3, x4, x5, x6, x7, x8, x9, x10]) (.int .i64 7)).run Tryz.prog w = .ok x7 w := by intros; rfl
  have hcl := run_enter Tryz.func69 (by kernel_rfl) (by kernel_rfl)
  have hlt := hA.lt
  have hT2 : ((w.alloc (.cells #[.pointer (some ⟨b, 0, none⟩)] 66)).alloc (.cells #[.int .i64 arg] 3)).cell? ⟨b, 26, none⟩ = some (.int .i64 T) := by
    rw [cell_al (by rw [World.size_alloc]; omega), cell_al hlt]; exact hT
  have ht2 : (T == 3) = false := by simp [ht]
  go_enter Tryz.func50, Tryz.ntmps50
  go_wp2_with fail
  obtain ⟨b0, b1, b2⟩ := boxes3 hlt (.pointer (some ⟨b, 0, none⟩)) (.int .i64 arg) (.bool false)
  have hA3 := ((hA.alloc (.cells #[.pointer (some ⟨b, 0, none⟩)] 66)).alloc (.cells #[.int .i64 arg] 3)).alloc (.cells #[.bool false] 4)
  have hK3 := (((Kp.refl 50 base b w).alloc (.cells #[.pointer (some ⟨b, 0, none⟩)] 66)).alloc (.cells #[.int .i64 arg] 3)).alloc (.cells #[.bool false] 4)
  refine (ccol7f base b _ S arg g0 g1 _ _ _ b2 b0 b1 hl hA3).mono ?_
  rintro e w' ⟨rfl, hA4, hK4⟩
  go_wp2_with fail
  go_end0
  exact ⟨rfl, hA4, hK3.trans hK4⟩
set_option maxRecDepth 100000 in
set_option maxHeartbeats 400000 in
theorem pcol8f (base b : Nat) (w : World) (S : St) (T arg : Int) (ht : T ≠ 3) (g0 : 0 ≤ arg) (g1 : arg ≤ 99) (hT : w.cell? ⟨b, 26, none⟩ = some (.int .i64 T)) (hl : S.ops.length ≤ 800) (hA : PAt base w b S) :
    Calls Tryz.prog 50 #[.pointer (some ⟨b, 0, none⟩), .int .i64 8, .int .i64 arg] w fun e w' => e = .returned (.tuple #[]) ∧ PAt base w' b (St.fColumn false 8 arg S) ∧ Kp 50 base b w w' := by
  have hix : ∀ (x0 x1 x2 x3 x4 x5 x6 x7 x8 x9 x10 : Value) (w : World), (Instr.index 80 (.agg #[x0, x1, x2, x3, x4, x5, x6, x7, x8, x9, x10]) (.int .i64 8)).run Tryz.prog w = .ok x8 w := by intros; rfl
  have hcl := run_enter Tryz.func71 (by kernel_rfl) (by kernel_rfl)
  have hlt := hA.lt
  have hT2 : ((w.alloc (.cells #[.pointer (some ⟨b, 0, none⟩)] 66)).alloc (.cells #[.int .i64 arg] 3)).cell? ⟨b, 26, none⟩ = some (.int .i64 T) := by
    rw [cell_al (by rw [World.size_alloc]; omega), cell_al hlt]; exact hT
  have ht2 : (T == 3) = false := by simp [ht]
  go_enter Tryz.func50, Tryz.ntmps50
  go_wp2_with fail
  obtain ⟨b0, b1, b2⟩ := boxes3 hlt (.pointer (some ⟨b, 0, none⟩)) (.int .i64 arg) (.bool false)
  have hA3 := ((hA.alloc (.cells #[.pointer (some ⟨b, 0, none⟩)] 66)).alloc (.cells #[.int .i64 arg] 3)).alloc (.cells #[.bool false] 4)
  have hK3 := (((Kp.refl 50 base b w).alloc (.cells #[.pointer (some ⟨b, 0, none⟩)] 66)).alloc (.cells #[.int .i64 arg] 3)).alloc (.cells #[.bool false] 4)
  refine (ccol8f base b _ S arg g0 g1 _ _ _ b0 b1 b2 hl hA3).mono ?_
  rintro e w' ⟨rfl, hA4, hK4⟩
  go_wp2_with fail
  go_end0
  exact ⟨rfl, hA4, hK3.trans hK4⟩
set_option maxRecDepth 100000 in
set_option maxHeartbeats 400000 in
theorem pcol9f (base b : Nat) (w : World) (S : St) (T arg : Int) (ht : T ≠ 3) (g0 : 0 ≤ arg) (g1 : arg ≤ 99) (hT : w.cell? ⟨b, 26, none⟩ = some (.int .i64 T)) (hl : S.ops.length ≤ 800) (hA : PAt base w b S) :
    Calls Tryz.prog 50 #[.pointer (some ⟨b, 0, none⟩), .int .i64 9, .int .i64 arg] w fun e w' => e = .returned (.tuple #[]) ∧ PAt base w' b (St.fColumn false 9 arg S) ∧ Kp 50 base b w w' := by
  have hix : ∀ (x0 x1 x2 x3 x4 x5 x6 x7 x8 x9 x10 : Value) (w : World), (Instr.index 80 (.agg #[x0, x1, x2, x3, x4, x5, x6, x7, x8, x9, x10]) (.int .i64 9)).run Tryz.prog w = .ok x9 w := by intros; rfl
  have hcl := run_enter Tryz.func73 (by kernel_rfl) (by kernel_rfl)
  have hlt := hA.lt
  have hT2 : ((w.alloc (.cells #[.pointer (some ⟨b, 0, none⟩)] 66)).alloc (.cells #[.int .i64 arg] 3)).cell? ⟨b, 26, none⟩ = some (.int .i64 T) := by
    rw [cell_al (by rw [World.size_alloc]; omega), cell_al hlt]; exact hT
  have ht2 : (T == 3) = false := by simp [ht]
  go_enter Tryz.func50, Tryz.ntmps50
  go_wp2_with fail
  obtain ⟨b0, b1, b2⟩ := boxes3 hlt (.pointer (some ⟨b, 0, none⟩)) (.int .i64 arg) (.bool false)
  have hA3 := ((hA.alloc (.cells #[.pointer (some ⟨b, 0, none⟩)] 66)).alloc (.cells #[.int .i64 arg] 3)).alloc (.cells #[.bool false] 4)
  have hK3 := (((Kp.refl 50 base b w).alloc (.cells #[.pointer (some ⟨b, 0, none⟩)] 66)).alloc (.cells #[.int .i64 arg] 3)).alloc (.cells #[.bool false] 4)
  refine (ccol9f base b _ S arg g0 g1 _ _ b0 b1 hl hA3).mono ?_
  rintro e w' ⟨rfl, hA4, hK4⟩
  go_wp2_with fail
  go_end0
  exact ⟨rfl, hA4, hK3.trans hK4⟩
set_option maxRecDepth 100000 in
set_option maxHeartbeats 400000 in
theorem pcol10f (base b : Nat) (w : World) (S : St) (T arg : Int) (ht : T ≠ 3) (g0 : 0 ≤ arg) (g1 : arg ≤ 99) (hT : w.cell? ⟨b, 26, none⟩ = some (.int .i64 T)) (hl : S.ops.length ≤ 800) (hA : PAt base w b S) :
    Calls Tryz.prog 50 #[.pointer (some ⟨b, 0, none⟩), .int .i64 10, .int .i64 arg] w fun e w' => e = .returned (.tuple #[]) ∧ PAt base w' b (St.fColumn false 10 arg S) ∧ Kp 50 base b w w' := by
  have hix : ∀ (x0 x1 x2 x3 x4 x5 x6 x7 x8 x9 x10 : Value) (w : World), (Instr.index 80 (.agg #[x0, x1, x2, x3, x4, x5, x6, x7, x8, x9, x10]) (.int .i64 10)).run Tryz.prog w = .ok x10 w := by intros; rfl
  have hcl := run_enter Tryz.func74 (by kernel_rfl) (by kernel_rfl)
  have hlt := hA.lt
  have hT2 : ((w.alloc (.cells #[.pointer (some ⟨b, 0, none⟩)] 66)).alloc (.cells #[.int .i64 arg] 3)).cell? ⟨b, 26, none⟩ = some (.int .i64 T) := by
    rw [cell_al (by rw [World.size_alloc]; omega), cell_al hlt]; exact hT
  have ht2 : (T == 3) = false := by simp [ht]
  go_enter Tryz.func50, Tryz.ntmps50
  go_wp2_with fail
  obtain ⟨b0, b1, b2⟩ := boxes3 hlt (.pointer (some ⟨b, 0, none⟩)) (.int .i64 arg) (.bool false)
  have hA3 := ((hA.alloc (.cells #[.pointer (some ⟨b, 0, none⟩)] 66)).alloc (.cells #[.int .i64 arg] 3)).alloc (.cells #[.bool false] 4)
  have hK3 := (((Kp.refl 50 base b w).alloc (.cells #[.pointer (some ⟨b, 0, none⟩)] 66)).alloc (.cells #[.int .i64 arg] 3)).alloc (.cells #[.bool false] 4)
  refine (ccol10f base b _ S arg g0 g1 _ _ b0 b1 hl hA3).mono ?_
  rintro e w' ⟨rfl, hA4, hK4⟩
  go_wp2_with fail
  go_end0
  exact ⟨rfl, hA4, hK3.trans hK4⟩
theorem pcolumn (base b : Nat) (w : World) (S : St) (T cmd arg : Int) (c0 : 1 ≤ cmd) (c1 : cmd ≤ 10) (g0 : 0 ≤ arg) (g1 : arg ≤ 99) (hT : w.cell? ⟨b, 26, none⟩ = some (.int .i64 T)) (hl : S.ops.length ≤ 800) (hA : PAt base w b S) :
    Calls Tryz.prog 50 #[.pointer (some ⟨b, 0, none⟩), .int .i64 cmd, .int .i64 arg] w fun e w' => e = .returned (.tuple #[]) ∧ PAt base w' b (St.fColumn (decide (T = 3)) cmd arg S) ∧ Kp 50 base b w w' := by
  by_cases ht : T = 3
  · rw [show decide (T = 3) = true from by simp [ht]]
    rcases (by omega : cmd = 1 ∨ cmd = 2 ∨ cmd = 3 ∨ cmd = 4 ∨ cmd = 5 ∨ cmd = 6 ∨ cmd = 7 ∨ cmd = 8 ∨ cmd = 9 ∨ cmd = 10) with rfl | rfl | rfl | rfl | rfl | rfl | rfl | rfl | rfl | rfl
    · exact pcol1t base b w S T arg ht g0 g1 hT hl hA
    · exact pcol2t base b w S T arg ht g0 g1 hT hl hA
    · exact pcol3t base b w S T arg ht g0 g1 hT hl hA
    · exact pcol4t base b w S T arg ht g0 g1 hT hl hA
    · exact pcol5t base b w S T arg ht g0 g1 hT hl hA
    · exact pcol6t base b w S T arg ht g0 g1 hT hl hA
    · exact pcol7t base b w S T arg ht g0 g1 hT hl hA
    · exact pcol8t base b w S T arg ht g0 g1 hT hl hA
    · exact pcol9t base b w S T arg ht g0 g1 hT hl hA
    · exact pcol10t base b w S T arg ht g0 g1 hT hl hA
  · rw [show decide (T = 3) = false from by simp [ht]]
    rcases (by omega : cmd = 1 ∨ cmd = 2 ∨ cmd = 3 ∨ cmd = 4 ∨ cmd = 5 ∨ cmd = 6 ∨ cmd = 7 ∨ cmd = 8 ∨ cmd = 9 ∨ cmd = 10) with rfl | rfl | rfl | rfl | rfl | rfl | rfl | rfl | rfl | rfl
    · exact pcol1f base b w S T arg ht g0 g1 hT hl hA
    · exact pcol2f base b w S T arg ht g0 g1 hT hl hA
    · exact pcol3f base b w S T arg ht g0 g1 hT hl hA
    · exact pcol4f base b w S T arg ht g0 g1 hT hl hA
    · exact pcol5f base b w S T arg ht g0 g1 hT hl hA
    · exact pcol6f base b w S T arg ht g0 g1 hT hl hA
    · exact pcol7f base b w S T arg ht g0 g1 hT hl hA
    · exact pcol8f base b w S T arg ht g0 g1 hT hl hA
    · exact pcol9f base b w S T arg ht g0 g1 hT hl hA
    · exact pcol10f base b w S T arg ht g0 g1 hT hl hA

end Go.Proofs.YtappnglfmidjoaaGreat.D
