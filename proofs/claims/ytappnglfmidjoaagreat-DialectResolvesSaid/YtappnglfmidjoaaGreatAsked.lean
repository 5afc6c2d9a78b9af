/- lasting: what a cell of compose asks for and keeps. -/
import Derived.Test.YtappnglfmidjoaaGreatTab
set_option linter.unusedVariables false
set_option linter.unusedSimpArgs false
namespace Go.Proofs.YtappnglfmidjoaaGreat.D
open Go Go.RowKit Go.Proofs.YtappnglfmidjoaaGreat.DB

/-- Another block's cell is written. -/
theorem _root_.Go.Proofs.YtappnglfmidjoaaGreat.DB.At.setBox {q T oP N base b n o : Nat} {w : World} {S : St} {cs : Array Value} {t : Nat} {fr : Nat × Nat} (h : At q T oP N base w b S) (hn : n ≠ b) (hc : w.heap[n]? = some (.cells cs t fr)) (ht : t ≠ q) (u : Value) : At q T oP N base (w.setCell ⟨n, o, none⟩ u) b S := by
  refine h.move (Below.heap_setCell _ _ _ _ (Ne.symm hn)) (fun i _ hi => Below.heap_setCell _ _ _ _ ?_)
  rintro rfl
  obtain ⟨cs', fr', h'⟩ := hi
  rw [hc] at h'
  injection h' with h'
  injection h' with _ h' _
  exact ht h'
theorem _root_.Go.Proofs.YtappnglfmidjoaaGreat.DB.Kp.setNew {q base b n o : Nat} {w w' : World} (h : Kp q base b w w') (hn : w.heap.size ≤ n) (u : Value) : Kp q base b w (w'.setCell ⟨n, o, none⟩ u) :=
  ⟨h.os, h.tape, h.output, by simpa [World.setCell] using h.size, fun i hi hb hr => (Below.heap_setCell _ _ _ _ (by show i ≠ n; omega)).trans (h.block i hi hb hr)⟩
/-- What a cell of compose asks for, and what it keeps. -/
def St.lastingS (n e p : Int) (S : St) : St := if e = 0 then (if n = 0 then S else { S with eff := 0, par := 0 }) else if lastsB e = true then { S with eff := if p = 0 then 0 else e, par := p } else S
def lastingE (n e p : Int) (S : St) : Int × Int :=
  let q := if e = 0 ∧ n = 0 then (S.eff, S.par) else (e, p)
  if lastsB q.1 = true ∧ q.2 = 0 then (0, 0) else q
def Lst (base b : Nat) (S' : St) (E P : Int) (w : World) (e : Ending) (w' : World) : Prop := e = .returned (.tuple #[.int .i64 E, .int .i64 P]) ∧ PAt base w' b S' ∧ Kp 50 base b w w'
section
variable (base b : Nat) (w : World) (S : St) (n i vc va e p : Int)
set_option maxRecDepth 100000 in
set_option maxHeartbeats 400000 in
theorem lasting1 (t0 : (n != 0) = true) (hA : PAt base w b S) : Calls Tryz.prog 51 #[.pointer (some ⟨b, 0, none⟩), .agg #[.int .i64 n, .int .i64 i, .int .i64 vc, .int .i64 va, .int .i64 0, .int .i64 p]] w (Lst base b { S with eff := 0, par := 0 } (0) (p) w) := by
  have hne : w.heap.size ≠ b := by have := hA.lt; omega
  have hA1 := hA.alloc (.cells #[.int .i64 n, .int .i64 i, .int .i64 vc, .int .i64 va, .int .i64 0, .int .i64 p] 23)
  have hK1 := (Kp.refl 50 base b w).alloc (.cells #[.int .i64 n, .int .i64 i, .int .i64 vc, .int .i64 va, .int .i64 0, .int .i64 p] 23)
  have hx := heap_alloc_new w (.cells #[.int .i64 n, .int .i64 i, .int .i64 vc, .int .i64 va, .int .i64 0, .int .i64 p] 23)
  have f24 := hA1.fz 24
  have f25 := hA1.fz 25
  have c24 := hA1.ceff
  have c25 := hA1.cpar
  have hl : lastsB 0 = false := by decide
  go_enter Tryz.func51, Tryz.ntmps51
  go_wp2_with (go_at_call 75; refine (plasts 0 (by omega) (by omega) _).mono ?_; rintro _ w2 ⟨rfl, rfl⟩)
  have hA3 := At.set_par (by decide) (by decide) (by decide) (At.set_eff (by decide) (by decide) (by decide) hA1 (0)) (0)
  have hK3 := (hK1.setCell 24 none (.int .i64 (0))).setCell 25 none (.int .i64 (0))
  have hx3 := (Below.heap_setCell ((w.alloc (.cells #[.int .i64 n, .int .i64 i, .int .i64 vc, .int .i64 va, .int .i64 0, .int .i64 p] 23)).setCell ⟨b, 24, none⟩ (.int .i64 (0))) ⟨b, 25, none⟩ (.int .i64 (0)) w.heap.size hne).trans ((Below.heap_setCell (w.alloc (.cells #[.int .i64 n, .int .i64 i, .int .i64 vc, .int .i64 va, .int .i64 0, .int .i64 p] 23)) ⟨b, 24, none⟩ (.int .i64 (0)) w.heap.size hne).trans hx)
  generalize ((w.alloc (.cells #[.int .i64 n, .int .i64 i, .int .i64 vc, .int .i64 va, .int .i64 0, .int .i64 p] 23)).setCell ⟨b, 24, none⟩ (.int .i64 (0))).setCell ⟨b, 25, none⟩ (.int .i64 (0)) = w3 at hA3 hK3 hx3 ⊢
  have x4 : w3.cell? ⟨w.heap.size, 4, none⟩ = some (.int .i64 0) := (cell_of hx3 4).trans rfl
  have x5 : w3.cell? ⟨w.heap.size, 5, none⟩ = some (.int .i64 p) := (cell_of hx3 5).trans rfl
  go_region
  go_wp2
  go_ret2
  exact ⟨rfl, hA3.drew, hK3.drew⟩
set_option maxRecDepth 100000 in
set_option maxHeartbeats 400000 in
theorem lasting4 (t0 : (e == 0) = false) (t1 : lastsB e = false) (e0 : 0 ≤ e) (e1 : e ≤ 36) (hA : PAt base w b S) : Calls Tryz.prog 51 #[.pointer (some ⟨b, 0, none⟩), .agg #[.int .i64 n, .int .i64 i, .int .i64 vc, .int .i64 va, .int .i64 e, .int .i64 p]] w (Lst base b S (e) (p) w) := by
  have hne : w.heap.size ≠ b := by have := hA.lt; omega
  have hA1 := hA.alloc (.cells #[.int .i64 n, .int .i64 i, .int .i64 vc, .int .i64 va, .int .i64 e, .int .i64 p] 23)
  have hK1 := (Kp.refl 50 base b w).alloc (.cells #[.int .i64 n, .int .i64 i, .int .i64 vc, .int .i64 va, .int .i64 e, .int .i64 p] 23)
  have hx := heap_alloc_new w (.cells #[.int .i64 n, .int .i64 i, .int .i64 vc, .int .i64 va, .int .i64 e, .int .i64 p] 23)
  have f24 := hA1.fz 24
  have f25 := hA1.fz 25
  have c24 := hA1.ceff
  have c25 := hA1.cpar
  go_enter Tryz.func51, Tryz.ntmps51
  go_wp2_with (go_at_call 75; refine (plasts e e0 e1 _).mono ?_; rintro _ w2 ⟨rfl, rfl⟩)
  have hA3 := hA1
  have hK3 := hK1
  have hx3 := hx
  generalize w.alloc (.cells #[.int .i64 n, .int .i64 i, .int .i64 vc, .int .i64 va, .int .i64 e, .int .i64 p] 23) = w3 at hA3 hK3 hx3 ⊢
  have x4 : w3.cell? ⟨w.heap.size, 4, none⟩ = some (.int .i64 e) := (cell_of hx3 4).trans rfl
  have x5 : w3.cell? ⟨w.heap.size, 5, none⟩ = some (.int .i64 p) := (cell_of hx3 5).trans rfl
  go_region
  go_wp2
  go_ret2
  exact ⟨rfl, hA3.drew, hK3.drew⟩
set_option maxRecDepth 100000 in
set_option maxHeartbeats 400000 in
theorem lasting3a (t0 : (e == 0) = false) (t1 : lastsB e = true) (t2 : (p == 0) = true) (e0 : 0 ≤ e) (e1 : e ≤ 36) (hA : PAt base w b S) : Calls Tryz.prog 51 #[.pointer (some ⟨b, 0, none⟩), .agg #[.int .i64 n, .int .i64 i, .int .i64 vc, .int .i64 va, .int .i64 e, .int .i64 p]] w (Lst base b { S with eff := 0, par := p } (0) (0) w) := by
  have hne : w.heap.size ≠ b := by have := hA.lt; omega
  have hA1 := hA.alloc (.cells #[.int .i64 n, .int .i64 i, .int .i64 vc, .int .i64 va, .int .i64 e, .int .i64 p] 23)
  have hK1 := (Kp.refl 50 base b w).alloc (.cells #[.int .i64 n, .int .i64 i, .int .i64 vc, .int .i64 va, .int .i64 e, .int .i64 p] 23)
  have hx := heap_alloc_new w (.cells #[.int .i64 n, .int .i64 i, .int .i64 vc, .int .i64 va, .int .i64 e, .int .i64 p] 23)
  have f24 := hA1.fz 24
  have f25 := hA1.fz 25
  have c24 := hA1.ceff
  have c25 := hA1.cpar
  go_enter Tryz.func51, Tryz.ntmps51
  go_wp2_with (go_at_call 75; refine (plasts e e0 e1 _).mono ?_; rintro _ w2 ⟨rfl, rfl⟩)
  have x4 : (w.alloc (.cells #[.int .i64 n, .int .i64 i, .int .i64 vc, .int .i64 va, .int .i64 e, .int .i64 p] 23)).cell? ⟨w.heap.size, 4, none⟩ = some (.int .i64 e) := (cell_of hx 4).trans rfl
  have x5 : (w.alloc (.cells #[.int .i64 n, .int .i64 i, .int .i64 vc, .int .i64 va, .int .i64 e, .int .i64 p] 23)).cell? ⟨w.heap.size, 5, none⟩ = some (.int .i64 p) := (cell_of hx 5).trans rfl
  go_region
  have hA3 := (At.set_par (by decide) (by decide) (by decide) (At.set_eff (by decide) (by decide) (by decide) hA1 e) p).drew
  have hK3 := ((hK1.setCell 24 none (.int .i64 e)).setCell 25 none (.int .i64 p)).drew
  have hx3 := (Below.heap_setCell ((w.alloc (.cells #[.int .i64 n, .int .i64 i, .int .i64 vc, .int .i64 va, .int .i64 e, .int .i64 p] 23)).setCell ⟨b, 24, none⟩ (.int .i64 e)) ⟨b, 25, none⟩ (.int .i64 p) w.heap.size hne).trans ((Below.heap_setCell (w.alloc (.cells #[.int .i64 n, .int .i64 i, .int .i64 vc, .int .i64 va, .int .i64 e, .int .i64 p] 23)) ⟨b, 24, none⟩ (.int .i64 e) w.heap.size hne).trans hx)
  change (((w.alloc (.cells #[.int .i64 n, .int .i64 i, .int .i64 vc, .int .i64 va, .int .i64 e, .int .i64 p] 23)).setCell ⟨b, 24, none⟩ (.int .i64 e)).setCell ⟨b, 25, none⟩ (.int .i64 p)).drew.heap[w.heap.size]? = _ at hx3
  generalize (((w.alloc (.cells #[.int .i64 n, .int .i64 i, .int .i64 vc, .int .i64 va, .int .i64 e, .int .i64 p] 23)).setCell ⟨b, 24, none⟩ (.int .i64 e)).setCell ⟨b, 25, none⟩ (.int .i64 p)).drew = w3 at hA3 hK3 hx3 ⊢
  have y4 : w3.cell? ⟨w.heap.size, 4, none⟩ = some (.int .i64 e) := (cell_of hx3 4).trans rfl
  have y5 : w3.cell? ⟨w.heap.size, 5, none⟩ = some (.int .i64 p) := (cell_of hx3 5).trans rfl
  have g24 := hA3.fz 24
  have d24 := hA3.ceff
  have hA4 := At.set_eff (by decide) (by decide) (by decide) hA3 0
  have hK4 := hK3.setCell 24 none (.int .i64 0)
  go_wp2_with (go_at_call 75; refine (plasts e e0 e1 _).mono ?_; rintro _ w2 ⟨rfl, rfl⟩)
  go_ret2
  exact ⟨rfl, hA4, hK4⟩
set_option maxRecDepth 100000 in
set_option maxHeartbeats 400000 in
theorem lasting3b (t0 : (e == 0) = false) (t1 : lastsB e = true) (t2 : (p == 0) = false) (e0 : 0 ≤ e) (e1 : e ≤ 36) (hA : PAt base w b S) : Calls Tryz.prog 51 #[.pointer (some ⟨b, 0, none⟩), .agg #[.int .i64 n, .int .i64 i, .int .i64 vc, .int .i64 va, .int .i64 e, .int .i64 p]] w (Lst base b { S with eff := e, par := p } (e) (p) w) := by
  have hne : w.heap.size ≠ b := by have := hA.lt; omega
  have hA1 := hA.alloc (.cells #[.int .i64 n, .int .i64 i, .int .i64 vc, .int .i64 va, .int .i64 e, .int .i64 p] 23)
  have hK1 := (Kp.refl 50 base b w).alloc (.cells #[.int .i64 n, .int .i64 i, .int .i64 vc, .int .i64 va, .int .i64 e, .int .i64 p] 23)
  have hx := heap_alloc_new w (.cells #[.int .i64 n, .int .i64 i, .int .i64 vc, .int .i64 va, .int .i64 e, .int .i64 p] 23)
  have f24 := hA1.fz 24
  have f25 := hA1.fz 25
  have c24 := hA1.ceff
  have c25 := hA1.cpar
  go_enter Tryz.func51, Tryz.ntmps51
  go_wp2_with (go_at_call 75; refine (plasts e e0 e1 _).mono ?_; rintro _ w2 ⟨rfl, rfl⟩)
  have x4 : (w.alloc (.cells #[.int .i64 n, .int .i64 i, .int .i64 vc, .int .i64 va, .int .i64 e, .int .i64 p] 23)).cell? ⟨w.heap.size, 4, none⟩ = some (.int .i64 e) := (cell_of hx 4).trans rfl
  have x5 : (w.alloc (.cells #[.int .i64 n, .int .i64 i, .int .i64 vc, .int .i64 va, .int .i64 e, .int .i64 p] 23)).cell? ⟨w.heap.size, 5, none⟩ = some (.int .i64 p) := (cell_of hx 5).trans rfl
  go_region
  have hA3 := (At.set_par (by decide) (by decide) (by decide) (At.set_eff (by decide) (by decide) (by decide) hA1 e) p).drew
  have hK3 := ((hK1.setCell 24 none (.int .i64 e)).setCell 25 none (.int .i64 p)).drew
  have hx3 := (Below.heap_setCell ((w.alloc (.cells #[.int .i64 n, .int .i64 i, .int .i64 vc, .int .i64 va, .int .i64 e, .int .i64 p] 23)).setCell ⟨b, 24, none⟩ (.int .i64 e)) ⟨b, 25, none⟩ (.int .i64 p) w.heap.size hne).trans ((Below.heap_setCell (w.alloc (.cells #[.int .i64 n, .int .i64 i, .int .i64 vc, .int .i64 va, .int .i64 e, .int .i64 p] 23)) ⟨b, 24, none⟩ (.int .i64 e) w.heap.size hne).trans hx)
  change (((w.alloc (.cells #[.int .i64 n, .int .i64 i, .int .i64 vc, .int .i64 va, .int .i64 e, .int .i64 p] 23)).setCell ⟨b, 24, none⟩ (.int .i64 e)).setCell ⟨b, 25, none⟩ (.int .i64 p)).drew.heap[w.heap.size]? = _ at hx3
  generalize (((w.alloc (.cells #[.int .i64 n, .int .i64 i, .int .i64 vc, .int .i64 va, .int .i64 e, .int .i64 p] 23)).setCell ⟨b, 24, none⟩ (.int .i64 e)).setCell ⟨b, 25, none⟩ (.int .i64 p)).drew = w3 at hA3 hK3 hx3 ⊢
  have y4 : w3.cell? ⟨w.heap.size, 4, none⟩ = some (.int .i64 e) := (cell_of hx3 4).trans rfl
  have y5 : w3.cell? ⟨w.heap.size, 5, none⟩ = some (.int .i64 p) := (cell_of hx3 5).trans rfl
  have g24 := hA3.fz 24
  have d24 := hA3.ceff
  go_wp2_with (go_at_call 75; refine (plasts e e0 e1 _).mono ?_; rintro _ w2 ⟨rfl, rfl⟩)
  go_region
  go_wp2
  go_ret2
  exact ⟨rfl, hA3.drew, hK3.drew⟩
set_option maxRecDepth 100000 in
set_option maxHeartbeats 400000 in
theorem lasting2a (t1 : lastsB S.eff = true) (t2 : (S.par == 0) = true) (e0 : 0 ≤ S.eff) (e1 : S.eff ≤ 36) (hA : PAt base w b S) : Calls Tryz.prog 51 #[.pointer (some ⟨b, 0, none⟩), .agg #[.int .i64 0, .int .i64 i, .int .i64 vc, .int .i64 va, .int .i64 0, .int .i64 p]] w (Lst base b S (0) (0) w) := by
  have hne : w.heap.size ≠ b := by have := hA.lt; omega
  have hA1 := hA.alloc (.cells #[.int .i64 0, .int .i64 i, .int .i64 vc, .int .i64 va, .int .i64 0, .int .i64 p] 23)
  have hK1 := (Kp.refl 50 base b w).alloc (.cells #[.int .i64 0, .int .i64 i, .int .i64 vc, .int .i64 va, .int .i64 0, .int .i64 p] 23)
  have hx := heap_alloc_new w (.cells #[.int .i64 0, .int .i64 i, .int .i64 vc, .int .i64 va, .int .i64 0, .int .i64 p] 23)
  have f24 := hA1.fz 24
  have f25 := hA1.fz 25
  have c24 := hA1.ceff
  have c25 := hA1.cpar
  go_enter Tryz.func51, Tryz.ntmps51
  go_wp2_with fail
  generalize hm : w.heap.size = m at *
  generalize w.alloc (.cells #[.int .i64 0, .int .i64 i, .int .i64 vc, .int .i64 va, .int .i64 0, .int .i64 p] 23) = w3 at hA1 hK1 hx f24 f25 c24 c25 ⊢
  have x4 : w3.cell? ⟨m, 4, none⟩ = some (.int .i64 0) := (cell_of hx 4).trans rfl
  have x5 : w3.cell? ⟨m, 5, none⟩ = some (.int .i64 p) := (cell_of hx 5).trans rfl
  have f4 := frozen_of hx 4
  have f5 := frozen_of hx 5
  go_region
  have hA3 := ((hA1.setBox (o := 4) hne hx (by decide) (.int .i64 S.eff)).setBox (o := 5) hne (DB.heap_setCell_same w3 m 4 (.int .i64 S.eff) hx) (by decide) (.int .i64 S.par)).drew
  have hK3 := ((hK1.setNew (o := 4) (Nat.le_of_eq hm) (.int .i64 S.eff)).setNew (o := 5) (Nat.le_of_eq hm) (.int .i64 S.par)).drew
  have hx3 := DB.heap_setCell_same _ m 5 (.int .i64 S.par) (DB.heap_setCell_same w3 m 4 (.int .i64 S.eff) hx)
  change ((w3.setCell ⟨m, 4, none⟩ (.int .i64 S.eff)).setCell ⟨m, 5, none⟩ (.int .i64 S.par)).drew.heap[m]? = _ at hx3
  generalize ((w3.setCell ⟨m, 4, none⟩ (.int .i64 S.eff)).setCell ⟨m, 5, none⟩ (.int .i64 S.par)).drew = w4 at hA3 hK3 hx3 ⊢
  have y4 : w4.cell? ⟨m, 4, none⟩ = some (.int .i64 S.eff) := (cell_of hx3 4).trans rfl
  have y5 : w4.cell? ⟨m, 5, none⟩ = some (.int .i64 S.par) := (cell_of hx3 5).trans rfl
  go_wp2_with (go_at_call 75; refine (plasts S.eff e0 e1 _).mono ?_; rintro _ w2 ⟨rfl, rfl⟩)
  go_ret2
  exact ⟨rfl, hA3, hK3⟩
set_option maxRecDepth 100000 in
set_option maxHeartbeats 400000 in
theorem lasting2b (t1 : lastsB S.eff = true) (t2 : (S.par == 0) = false) (e0 : 0 ≤ S.eff) (e1 : S.eff ≤ 36) (hA : PAt base w b S) : Calls Tryz.prog 51 #[.pointer (some ⟨b, 0, none⟩), .agg #[.int .i64 0, .int .i64 i, .int .i64 vc, .int .i64 va, .int .i64 0, .int .i64 p]] w (Lst base b S (S.eff) (S.par) w) := by
  have hne : w.heap.size ≠ b := by have := hA.lt; omega
  have hA1 := hA.alloc (.cells #[.int .i64 0, .int .i64 i, .int .i64 vc, .int .i64 va, .int .i64 0, .int .i64 p] 23)
  have hK1 := (Kp.refl 50 base b w).alloc (.cells #[.int .i64 0, .int .i64 i, .int .i64 vc, .int .i64 va, .int .i64 0, .int .i64 p] 23)
  have hx := heap_alloc_new w (.cells #[.int .i64 0, .int .i64 i, .int .i64 vc, .int .i64 va, .int .i64 0, .int .i64 p] 23)
  have f24 := hA1.fz 24
  have f25 := hA1.fz 25
  have c24 := hA1.ceff
  have c25 := hA1.cpar
  go_enter Tryz.func51, Tryz.ntmps51
  go_wp2_with fail
  generalize hm : w.heap.size = m at *
  generalize w.alloc (.cells #[.int .i64 0, .int .i64 i, .int .i64 vc, .int .i64 va, .int .i64 0, .int .i64 p] 23) = w3 at hA1 hK1 hx f24 f25 c24 c25 ⊢
  have x4 : w3.cell? ⟨m, 4, none⟩ = some (.int .i64 0) := (cell_of hx 4).trans rfl
  have x5 : w3.cell? ⟨m, 5, none⟩ = some (.int .i64 p) := (cell_of hx 5).trans rfl
  have f4 := frozen_of hx 4
  have f5 := frozen_of hx 5
  go_region
  have hA3 := ((hA1.setBox (o := 4) hne hx (by decide) (.int .i64 S.eff)).setBox (o := 5) hne (DB.heap_setCell_same w3 m 4 (.int .i64 S.eff) hx) (by decide) (.int .i64 S.par)).drew
  have hK3 := ((hK1.setNew (o := 4) (Nat.le_of_eq hm) (.int .i64 S.eff)).setNew (o := 5) (Nat.le_of_eq hm) (.int .i64 S.par)).drew
  have hx3 := DB.heap_setCell_same _ m 5 (.int .i64 S.par) (DB.heap_setCell_same w3 m 4 (.int .i64 S.eff) hx)
  change ((w3.setCell ⟨m, 4, none⟩ (.int .i64 S.eff)).setCell ⟨m, 5, none⟩ (.int .i64 S.par)).drew.heap[m]? = _ at hx3
  generalize ((w3.setCell ⟨m, 4, none⟩ (.int .i64 S.eff)).setCell ⟨m, 5, none⟩ (.int .i64 S.par)).drew = w4 at hA3 hK3 hx3 ⊢
  have y4 : w4.cell? ⟨m, 4, none⟩ = some (.int .i64 S.eff) := (cell_of hx3 4).trans rfl
  have y5 : w4.cell? ⟨m, 5, none⟩ = some (.int .i64 S.par) := (cell_of hx3 5).trans rfl
  go_wp2_with (go_at_call 75; refine (plasts S.eff e0 e1 _).mono ?_; rintro _ w2 ⟨rfl, rfl⟩)
  go_region
  go_wp2
  go_ret2
  exact ⟨rfl, hA3.drew, hK3.drew⟩
set_option maxRecDepth 100000 in
set_option maxHeartbeats 400000 in
theorem lasting2c (t1 : lastsB S.eff = false) (e0 : 0 ≤ S.eff) (e1 : S.eff ≤ 36) (hA : PAt base w b S) : Calls Tryz.prog 51 #[.pointer (some ⟨b, 0, none⟩), .agg #[.int .i64 0, .int .i64 i, .int .i64 vc, .int .i64 va, .int .i64 0, .int .i64 p]] w (Lst base b S (S.eff) (S.par) w) := by
  have hne : w.heap.size ≠ b := by have := hA.lt; omega
  have hA1 := hA.alloc (.cells #[.int .i64 0, .int .i64 i, .int .i64 vc, .int .i64 va, .int .i64 0, .int .i64 p] 23)
  have hK1 := (Kp.refl 50 base b w).alloc (.cells #[.int .i64 0, .int .i64 i, .int .i64 vc, .int .i64 va, .int .i64 0, .int .i64 p] 23)
  have hx := heap_alloc_new w (.cells #[.int .i64 0, .int .i64 i, .int .i64 vc, .int .i64 va, .int .i64 0, .int .i64 p] 23)
  have f24 := hA1.fz 24
  have f25 := hA1.fz 25
  have c24 := hA1.ceff
  have c25 := hA1.cpar
  go_enter Tryz.func51, Tryz.ntmps51
  go_wp2_with fail
  generalize hm : w.heap.size = m at *
  generalize w.alloc (.cells #[.int .i64 0, .int .i64 i, .int .i64 vc, .int .i64 va, .int .i64 0, .int .i64 p] 23) = w3 at hA1 hK1 hx f24 f25 c24 c25 ⊢
  have x4 : w3.cell? ⟨m, 4, none⟩ = some (.int .i64 0) := (cell_of hx 4).trans rfl
  have x5 : w3.cell? ⟨m, 5, none⟩ = some (.int .i64 p) := (cell_of hx 5).trans rfl
  have f4 := frozen_of hx 4
  have f5 := frozen_of hx 5
  go_region
  have hA3 := ((hA1.setBox (o := 4) hne hx (by decide) (.int .i64 S.eff)).setBox (o := 5) hne (DB.heap_setCell_same w3 m 4 (.int .i64 S.eff) hx) (by decide) (.int .i64 S.par)).drew
  have hK3 := ((hK1.setNew (o := 4) (Nat.le_of_eq hm) (.int .i64 S.eff)).setNew (o := 5) (Nat.le_of_eq hm) (.int .i64 S.par)).drew
  have hx3 := DB.heap_setCell_same _ m 5 (.int .i64 S.par) (DB.heap_setCell_same w3 m 4 (.int .i64 S.eff) hx)
  change ((w3.setCell ⟨m, 4, none⟩ (.int .i64 S.eff)).setCell ⟨m, 5, none⟩ (.int .i64 S.par)).drew.heap[m]? = _ at hx3
  generalize ((w3.setCell ⟨m, 4, none⟩ (.int .i64 S.eff)).setCell ⟨m, 5, none⟩ (.int .i64 S.par)).drew = w4 at hA3 hK3 hx3 ⊢
  have y4 : w4.cell? ⟨m, 4, none⟩ = some (.int .i64 S.eff) := (cell_of hx3 4).trans rfl
  have y5 : w4.cell? ⟨m, 5, none⟩ = some (.int .i64 S.par) := (cell_of hx3 5).trans rfl
  go_wp2_with (go_at_call 75; refine (plasts S.eff e0 e1 _).mono ?_; rintro _ w2 ⟨rfl, rfl⟩)
  go_region
  go_wp2
  go_ret2
  exact ⟨rfl, hA3.drew, hK3.drew⟩
theorem plasting (e0 : 0 ≤ e) (e1 : e ≤ 36) (s0 : 0 ≤ S.eff) (s1 : S.eff ≤ 36) (hA : PAt base w b S) : Calls Tryz.prog 51 #[.pointer (some ⟨b, 0, none⟩), .agg #[.int .i64 n, .int .i64 i, .int .i64 vc, .int .i64 va, .int .i64 e, .int .i64 p]] w (Lst base b (St.lastingS n e p S) (lastingE n e p S).1 (lastingE n e p S).2 w) := by
  by_cases q : e = 0
  · subst q
    by_cases r : n = 0
    · subst r
      cases t1 : lastsB S.eff
      · simpa [St.lastingS, lastingE, t1] using lasting2c base b w S i vc va p t1 s0 s1 hA
      · by_cases t2 : S.par = 0
        · simpa [St.lastingS, lastingE, t1, t2] using lasting2a base b w S i vc va p t1 (by simp [t2]) s0 s1 hA
        · simpa [St.lastingS, lastingE, t1, t2] using lasting2b base b w S i vc va p t1 (by simp [t2]) s0 s1 hA
    · have hz : lastsB 0 = false := by decide
      simpa [St.lastingS, lastingE, r, hz] using lasting1 base b w S n i vc va p (by simp [r]) hA
  · cases t1 : lastsB e
    · simpa [St.lastingS, lastingE, t1, q] using lasting4 base b w S n i vc va e p (by simp [q]) t1 e0 e1 hA
    · by_cases t2 : p = 0
      · subst t2
        simpa [St.lastingS, lastingE, t1, q] using lasting3a base b w S n i vc va e 0 (by simp [q]) t1 (by simp) e0 e1 hA
      · simpa [St.lastingS, lastingE, t1, t2, q] using lasting3b base b w S n i vc va e p (by simp [q]) t1 (by simp [t2]) e0 e1 hA
end
end Go.Proofs.YtappnglfmidjoaaGreat.D
