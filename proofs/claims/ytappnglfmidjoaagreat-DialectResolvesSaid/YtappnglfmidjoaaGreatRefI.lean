/- The reference: remembered, lasting. -/
import Derived.Test.YtappnglfmidjoaaGreatRefG
import Derived.Test.YtappnglfmidjoaaGreatRefH
import Derived.Test.YtappnglfmidjoaaGreatValid
import Derived.Test.YtappnglfmidjoaaGreatAsked
import Derived.Deep.DeepCutAuto
set_option linter.unusedVariables false
set_option linter.unusedSimpArgs false
namespace Go.Proofs.YtappnglfmidjoaaGreat.D
open Go Go.RowKit Go.Proofs.YtappnglfmidjoaaGreat.DB

set_option maxRecDepth 100000 in
set_option maxHeartbeats 1000000 in
theorem rremembered (mv : Array Value) (ms : List Int) (e p : Int) (hM : MemV mv ms e p) (w : World) : Calls Tryz.prog 30 #[.agg mv] w fun e' w' => e' = .returned (.bool (memOk ms e p)) ∧ w' = w.alloc (.cells mv 28) := by
  have hx := heap_alloc_new w (.cells mv 28)
  have c24 : (w.alloc (.cells mv 28)).cell? ⟨w.heap.size, 24, none⟩ = some (.int .i64 e) := (cell_of hx 24).trans hM.ceff
  have c25 : (w.alloc (.cells mv 28)).cell? ⟨w.heap.size, 25, none⟩ = some (.int .i64 p) := (cell_of hx 25).trans hM.cpar
  have hcs : ∀ (i : Nat) (x : Int), ms[i]? = some x → (w.alloc (.cells mv 28)).cell? ⟨w.heap.size, i, none⟩ = some (.int .i64 x) := fun i x h => (cell_of hx i).trans (hM.slot h)
  have hlen := hM.len
  generalize hw1 : w.alloc (.cells mv 28) = w1 at *
  have HW := Lib.hid hw1
  have HC := Lib.hid hcs
  have HL := Lib.hid hlen
  clear hx hcs hlen
  go_enter Tryz.func30, Tryz.ntmps30
  go_wp2
  go_loop [3] (fun u3 => ∃ i : Nat, u3 = .int .i64 i ∧ i ≤ 24 ∧ ∀ j x, j < i → ms[j]? = some x → slotOk x = true) (fun u3 => (24 - intOf u3).toNat)
  case atStart => exact ⟨0, rfl, by omega, fun j x hj => absurd hj (Nat.not_lt_zero _)⟩
  case round =>
    obtain ⟨i, rfl, hi24, hall⟩ := hrel
    have HA := Lib.hid hall
    clear hall
    by_cases q : i < 24
    · have q' : (i : Int) < 24 := by omega
      obtain ⟨x, hx1⟩ : ∃ x, ms[i]? = some x := ⟨_, List.getElem?_eq_getElem (by rw [HL.out]; exact q)⟩
      have cx := HC.out i x hx1
      have HX := Lib.hid hx1
      clear hx1
      by_cases r : slotOk x = true
      · have r1 : 0 ≤ x ∧ x ≤ 255 := by simpa [slotOk] using r
        obtain ⟨r1, r2⟩ := r1
        have RR := Lib.hid r
        clear r
        go_wp2
        refine ⟨⟨i + 1, by go_num, by omega, fun j y hj hy => ?_⟩, by simp [intOf]; omega⟩
        by_cases k : j < i
        · exact HA.out j y k hy
        · obtain rfl : j = i := by omega
          rw [HX.out] at hy
          cases hy
          exact RR.out
      · have hbad := Lib.hid (memOk_bad (e := e) (p := p) HX.out r)
        have r1 : ¬ (0 ≤ x ∧ x ≤ 255) := by simpa [slotOk] using r
        clear r
        by_cases r2 : x < 0
        · go_wp2
          go_ret
          exact ⟨by rw [hbad.out]; rfl, by first | rfl | exact HW.out.symm⟩
        · have r3 : 255 < x := by omega
          have r4 : 0 ≤ x := by omega
          clear r1 r2
          go_wp2
          go_ret
          exact ⟨by rw [hbad.out]; rfl, by first | rfl | exact HW.out.symm⟩
    · have q' : ¬ (i : Int) < 24 := by omega
      have hgood := Lib.hid (memOk_good (e := e) (p := p) HL.out (fun j x hj => HA.out j x (by omega)))
      go_wp2
      all_goals (go_ret; refine ⟨?_, by first | rfl | exact HW.out.symm⟩; rw [hgood.out]; refine congrArg (fun q => Ending.returned (Value.bool q)) ?_; rw [Bool.eq_iff_iff]; simp only [Bool.and_eq_true, decide_eq_true_eq, Bool.false_eq_true, false_iff]; omega)
/-! ### lasting -/
def St.rLast (n e p : Int) (S : St) : St :=
  if e = 0 then (if n = 0 then (if S.eff = 0 then S else St.rCompose (letterR S.eff) (S.put S.par)) else { S with eff := 0, par := 0 })
  else if lastsB e = true then { S with eff := if p = 0 then 0 else e, par := p } else S
theorem has0124 (e : Int) (h0 : 1 ≤ e) (h1 : e ≤ 36) : hasB [48, 49, 50, 52] (letterR e) = lastsB e := by
  obtain ⟨n, rfl⟩ : ∃ n : Nat, e = n := ⟨e.toNat, by omega⟩
  have hn : n < 37 := by omega
  have hn0 : 1 ≤ n := by omega
  clear h0 h1
  revert n
  decide
theorem rhasL {e : Int} {v : Bool} (h0 : 1 ≤ e) (h1 : e ≤ 36) (h : lastsB e = v) (w : World) : Calls Tryz.prog 27 #[.string { data := #[48, 49, 50, 52] }, .int .u8 (letterR e)] w fun e' w' => e' = .returned (.bool v) ∧ w = w' :=
  (rhas { data := #[48, 49, 50, 52] } (letterR e) w (by decide)).mono fun _ _ ⟨h2, h3⟩ => ⟨by rw [h2, ← h, ← has0124 e h0 h1], h3.symm⟩
def RLst (base b : Nat) (S' : St) (w : World) (e : Ending) (w' : World) : Prop := e = .returned (.tuple #[]) ∧ RAt base w' b S' ∧ Kp 50 base b w w'
section
variable (base b : Nat) (w : World) (S : St) (n i vc va e p : Int)
set_option maxRecDepth 100000 in
set_option maxHeartbeats 1000000 in
theorem rlast_c (t0 : (e == 0) = false) (t0b : (e != 0) = true) (e0 : 1 ≤ e) (e1 : e ≤ 36) (t1 : lastsB e = false) (hl : S.ops.length ≤ 700) (hA : RAt base w b S) : Calls Tryz.prog 32 #[.pointer (some ⟨b, 0, none⟩), .agg #[.int .i64 n, .int .i64 i, .int .i64 vc, .int .i64 va, .int .i64 e, .int .i64 p]] w (RLst base b S w) := by
  have hne : w.heap.size ≠ b := by have := hA.lt; omega
  have hA1 := hA.alloc (.cells #[.int .i64 n, .int .i64 i, .int .i64 vc, .int .i64 va, .int .i64 e, .int .i64 p] 23)
  have hK1 := (Kp.refl 50 base b w).alloc (.cells #[.int .i64 n, .int .i64 i, .int .i64 vc, .int .i64 va, .int .i64 e, .int .i64 p] 23)
  have hx := heap_alloc_new w (.cells #[.int .i64 n, .int .i64 i, .int .i64 vc, .int .i64 va, .int .i64 e, .int .i64 p] 23)
  go_enter Tryz.func32, Tryz.ntmps32
  go_upto_region 1 with fail
  generalize w.alloc (.cells #[.int .i64 n, .int .i64 i, .int .i64 vc, .int .i64 va, .int .i64 e, .int .i64 p] 23) = w1 at hA1 hK1 hx ⊢
  have x0 : w1.cell? ⟨w.heap.size, 0, none⟩ = some (.int .i64 n) := (cell_of hx 0).trans rfl
  have x4 : w1.cell? ⟨w.heap.size, 4, none⟩ = some (.int .i64 e) := (cell_of hx 4).trans rfl
  have x5 : w1.cell? ⟨w.heap.size, 5, none⟩ = some (.int .i64 p) := (cell_of hx 5).trans rfl
  have f24 := hA1.fz 24
  have f25 := hA1.fz 25
  have c24 := hA1.ceff
  have c25 := hA1.cpar
  have HX := Lib.hid hx
  clear hx
  go_wp2_with (first
    | (go_at_call 28; refine (rletter_v e0 e1 rfl _).mono ?_; rintro e2 w2 ⟨rfl, rfl⟩)
    | (go_at_call 27; refine (rhasL e0 e1 t1 _).mono ?_; rintro e3 w3 ⟨rfl, rfl⟩))
  go_end0
  exact ⟨rfl, hA1, hK1⟩
set_option maxRecDepth 100000 in
set_option maxHeartbeats 1000000 in
theorem rlast_d (t0 : (n != 0) = true) (hl : S.ops.length ≤ 700) (hA : RAt base w b S) : Calls Tryz.prog 32 #[.pointer (some ⟨b, 0, none⟩), .agg #[.int .i64 n, .int .i64 i, .int .i64 vc, .int .i64 va, .int .i64 0, .int .i64 p]] w (RLst base b { S with eff := 0, par := 0 } w) := by
  have hne : w.heap.size ≠ b := by have := hA.lt; omega
  have hA1 := hA.alloc (.cells #[.int .i64 n, .int .i64 i, .int .i64 vc, .int .i64 va, .int .i64 0, .int .i64 p] 23)
  have hK1 := (Kp.refl 50 base b w).alloc (.cells #[.int .i64 n, .int .i64 i, .int .i64 vc, .int .i64 va, .int .i64 0, .int .i64 p] 23)
  have hx := heap_alloc_new w (.cells #[.int .i64 n, .int .i64 i, .int .i64 vc, .int .i64 va, .int .i64 0, .int .i64 p] 23)
  go_enter Tryz.func32, Tryz.ntmps32
  go_upto_region 1 with fail
  generalize w.alloc (.cells #[.int .i64 n, .int .i64 i, .int .i64 vc, .int .i64 va, .int .i64 0, .int .i64 p] 23) = w1 at hA1 hK1 hx ⊢
  have x0 : w1.cell? ⟨w.heap.size, 0, none⟩ = some (.int .i64 n) := (cell_of hx 0).trans rfl
  have x4 : w1.cell? ⟨w.heap.size, 4, none⟩ = some (.int .i64 0) := (cell_of hx 4).trans rfl
  have x5 : w1.cell? ⟨w.heap.size, 5, none⟩ = some (.int .i64 p) := (cell_of hx 5).trans rfl
  have f24 := hA1.fz 24
  have f25 := hA1.fz 25
  have c24 := hA1.ceff
  have c25 := hA1.cpar
  have HX := Lib.hid hx
  clear hx
  go_wp2
  go_end0
  exact ⟨rfl, At.set_par (by decide) (by decide) (by decide) (At.set_eff (by decide) (by decide) (by decide) hA1 0) 0, (hK1.setCell 24 none _).setCell 25 none _⟩
set_option maxRecDepth 100000 in
set_option maxHeartbeats 1000000 in
theorem rlast_f (t0 : (S.eff != 0) = false) (hl : S.ops.length ≤ 700) (hA : RAt base w b S) : Calls Tryz.prog 32 #[.pointer (some ⟨b, 0, none⟩), .agg #[.int .i64 0, .int .i64 i, .int .i64 vc, .int .i64 va, .int .i64 0, .int .i64 p]] w (RLst base b S w) := by
  have hne : w.heap.size ≠ b := by have := hA.lt; omega
  have hA1 := hA.alloc (.cells #[.int .i64 0, .int .i64 i, .int .i64 vc, .int .i64 va, .int .i64 0, .int .i64 p] 23)
  have hK1 := (Kp.refl 50 base b w).alloc (.cells #[.int .i64 0, .int .i64 i, .int .i64 vc, .int .i64 va, .int .i64 0, .int .i64 p] 23)
  have hx := heap_alloc_new w (.cells #[.int .i64 0, .int .i64 i, .int .i64 vc, .int .i64 va, .int .i64 0, .int .i64 p] 23)
  go_enter Tryz.func32, Tryz.ntmps32
  go_upto_region 1 with fail
  generalize w.alloc (.cells #[.int .i64 0, .int .i64 i, .int .i64 vc, .int .i64 va, .int .i64 0, .int .i64 p] 23) = w1 at hA1 hK1 hx ⊢
  have x0 : w1.cell? ⟨w.heap.size, 0, none⟩ = some (.int .i64 0) := (cell_of hx 0).trans rfl
  have x4 : w1.cell? ⟨w.heap.size, 4, none⟩ = some (.int .i64 0) := (cell_of hx 4).trans rfl
  have x5 : w1.cell? ⟨w.heap.size, 5, none⟩ = some (.int .i64 p) := (cell_of hx 5).trans rfl
  have f24 := hA1.fz 24
  have f25 := hA1.fz 25
  have c24 := hA1.ceff
  have c25 := hA1.cpar
  have HX := Lib.hid hx
  clear hx
  go_wp2
  go_end0
  exact ⟨rfl, hA1, hK1⟩
set_option maxRecDepth 100000 in
set_option maxHeartbeats 1000000 in
theorem rlast_e (t0 : (S.eff != 0) = true) (e0 : 1 ≤ S.eff) (e1 : S.eff ≤ 36) (hl : S.ops.length ≤ 700) (hA : RAt base w b S) : Calls Tryz.prog 32 #[.pointer (some ⟨b, 0, none⟩), .agg #[.int .i64 0, .int .i64 i, .int .i64 vc, .int .i64 va, .int .i64 0, .int .i64 p]] w (RLst base b (St.rCompose (letterR S.eff) (S.put S.par)) w) := by
  have hne : w.heap.size ≠ b := by have := hA.lt; omega
  have hA1 := hA.alloc (.cells #[.int .i64 0, .int .i64 i, .int .i64 vc, .int .i64 va, .int .i64 0, .int .i64 p] 23)
  have hK1 := (Kp.refl 50 base b w).alloc (.cells #[.int .i64 0, .int .i64 i, .int .i64 vc, .int .i64 va, .int .i64 0, .int .i64 p] 23)
  have hx := heap_alloc_new w (.cells #[.int .i64 0, .int .i64 i, .int .i64 vc, .int .i64 va, .int .i64 0, .int .i64 p] 23)
  go_enter Tryz.func32, Tryz.ntmps32
  go_upto_region 1 with fail
  generalize w.alloc (.cells #[.int .i64 0, .int .i64 i, .int .i64 vc, .int .i64 va, .int .i64 0, .int .i64 p] 23) = w1 at hA1 hK1 hx ⊢
  have x0 : w1.cell? ⟨w.heap.size, 0, none⟩ = some (.int .i64 0) := (cell_of hx 0).trans rfl
  have x4 : w1.cell? ⟨w.heap.size, 4, none⟩ = some (.int .i64 0) := (cell_of hx 4).trans rfl
  have x5 : w1.cell? ⟨w.heap.size, 5, none⟩ = some (.int .i64 p) := (cell_of hx 5).trans rfl
  have f24 := hA1.fz 24
  have f25 := hA1.fz 25
  have c24 := hA1.ceff
  have c25 := hA1.cpar
  have HX := Lib.hid hx
  clear hx
  go_wp2
  go_still_tail 11, (by kernel_rfl)
  change wpList _ _ _ _ _ w1.drew
  have hA2 := hA1.drew
  have hK2 := hK1.drew
  generalize w1.drew = w2 at hA2 hK2 ⊢
  go_wp2_with (go_at_call 33; refine (r_effect_5 base b _ S S.eff _ S.par e0 e1 rfl hl hA2).mono ?_; rintro e3 w3 ⟨rfl, hA3, hK3⟩)
  go_end0
  exact ⟨rfl, hA3, hK2.trans hK3⟩
set_option maxRecDepth 100000 in
set_option maxHeartbeats 1000000 in
theorem rlast_a (t0 : (e == 0) = false) (t0b : (e != 0) = true) (e0 : 1 ≤ e) (e1 : e ≤ 36) (t1 : lastsB e = true) (t2 : (p == 0) = true) (hl : S.ops.length ≤ 700) (hA : RAt base w b S) : Calls Tryz.prog 32 #[.pointer (some ⟨b, 0, none⟩), .agg #[.int .i64 n, .int .i64 i, .int .i64 vc, .int .i64 va, .int .i64 e, .int .i64 p]] w (RLst base b { S with eff := 0, par := p } w) := by
  have hne : w.heap.size ≠ b := by have := hA.lt; omega
  have hA1 := hA.alloc (.cells #[.int .i64 n, .int .i64 i, .int .i64 vc, .int .i64 va, .int .i64 e, .int .i64 p] 23)
  have hK1 := (Kp.refl 50 base b w).alloc (.cells #[.int .i64 n, .int .i64 i, .int .i64 vc, .int .i64 va, .int .i64 e, .int .i64 p] 23)
  have hx := heap_alloc_new w (.cells #[.int .i64 n, .int .i64 i, .int .i64 vc, .int .i64 va, .int .i64 e, .int .i64 p] 23)
  go_enter Tryz.func32, Tryz.ntmps32
  go_upto_region 1 with fail
  generalize w.alloc (.cells #[.int .i64 n, .int .i64 i, .int .i64 vc, .int .i64 va, .int .i64 e, .int .i64 p] 23) = w1 at hA1 hK1 hx ⊢
  have x0 : w1.cell? ⟨w.heap.size, 0, none⟩ = some (.int .i64 n) := (cell_of hx 0).trans rfl
  have x4 : w1.cell? ⟨w.heap.size, 4, none⟩ = some (.int .i64 e) := (cell_of hx 4).trans rfl
  have x5 : w1.cell? ⟨w.heap.size, 5, none⟩ = some (.int .i64 p) := (cell_of hx 5).trans rfl
  have f24 := hA1.fz 24
  have f25 := hA1.fz 25
  have c24 := hA1.ceff
  have c25 := hA1.cpar
  have HX := Lib.hid hx
  clear hx
  go_upto_region 2 with (first
    | (go_at_call 28; refine (rletter_v e0 e1 rfl _).mono ?_; rintro e2 w2 ⟨rfl, rfl⟩)
    | (go_at_call 27; refine (rhasL e0 e1 t1 _).mono ?_; rintro e3 w3 ⟨rfl, rfl⟩))
  go_region
  have hA3 := (At.set_par (by decide) (by decide) (by decide) (At.set_eff (by decide) (by decide) (by decide) hA1 e) p).drew
  have hK3 := ((hK1.setCell 24 none (.int .i64 e)).setCell 25 none (.int .i64 p)).drew
  have hx3 := (Below.heap_setCell (w1.setCell ⟨b, 24, none⟩ (.int .i64 e)) ⟨b, 25, none⟩ (.int .i64 p) w.heap.size hne).trans ((Below.heap_setCell w1 ⟨b, 24, none⟩ (.int .i64 e) w.heap.size hne).trans HX.out)
  change ((w1.setCell ⟨b, 24, none⟩ (.int .i64 e)).setCell ⟨b, 25, none⟩ (.int .i64 p)).drew.heap[w.heap.size]? = _ at hx3
  clear c24 c25 f24 f25 x0 x4 x5
  generalize ((w1.setCell ⟨b, 24, none⟩ (.int .i64 e)).setCell ⟨b, 25, none⟩ (.int .i64 p)).drew = w3 at hA3 hK3 hx3 ⊢
  have y5 : w3.cell? ⟨w.heap.size, 5, none⟩ = some (.int .i64 p) := (cell_of hx3 5).trans rfl
  have g24 := hA3.fz 24
  have d24 := hA3.ceff
  go_wp2
  go_end0
  exact ⟨rfl, At.set_eff (by decide) (by decide) (by decide) hA3 0, hK3.setCell 24 none _⟩
set_option maxRecDepth 100000 in
set_option maxHeartbeats 1000000 in
theorem rlast_b (t0 : (e == 0) = false) (t0b : (e != 0) = true) (e0 : 1 ≤ e) (e1 : e ≤ 36) (t1 : lastsB e = true) (t2 : (p == 0) = false) (hl : S.ops.length ≤ 700) (hA : RAt base w b S) : Calls Tryz.prog 32 #[.pointer (some ⟨b, 0, none⟩), .agg #[.int .i64 n, .int .i64 i, .int .i64 vc, .int .i64 va, .int .i64 e, .int .i64 p]] w (RLst base b { S with eff := e, par := p } w) := by
  have hne : w.heap.size ≠ b := by have := hA.lt; omega
  have hA1 := hA.alloc (.cells #[.int .i64 n, .int .i64 i, .int .i64 vc, .int .i64 va, .int .i64 e, .int .i64 p] 23)
  have hK1 := (Kp.refl 50 base b w).alloc (.cells #[.int .i64 n, .int .i64 i, .int .i64 vc, .int .i64 va, .int .i64 e, .int .i64 p] 23)
  have hx := heap_alloc_new w (.cells #[.int .i64 n, .int .i64 i, .int .i64 vc, .int .i64 va, .int .i64 e, .int .i64 p] 23)
  go_enter Tryz.func32, Tryz.ntmps32
  go_upto_region 1 with fail
  generalize w.alloc (.cells #[.int .i64 n, .int .i64 i, .int .i64 vc, .int .i64 va, .int .i64 e, .int .i64 p] 23) = w1 at hA1 hK1 hx ⊢
  have x0 : w1.cell? ⟨w.heap.size, 0, none⟩ = some (.int .i64 n) := (cell_of hx 0).trans rfl
  have x4 : w1.cell? ⟨w.heap.size, 4, none⟩ = some (.int .i64 e) := (cell_of hx 4).trans rfl
  have x5 : w1.cell? ⟨w.heap.size, 5, none⟩ = some (.int .i64 p) := (cell_of hx 5).trans rfl
  have f24 := hA1.fz 24
  have f25 := hA1.fz 25
  have c24 := hA1.ceff
  have c25 := hA1.cpar
  have HX := Lib.hid hx
  clear hx
  go_upto_region 2 with (first
    | (go_at_call 28; refine (rletter_v e0 e1 rfl _).mono ?_; rintro e2 w2 ⟨rfl, rfl⟩)
    | (go_at_call 27; refine (rhasL e0 e1 t1 _).mono ?_; rintro e3 w3 ⟨rfl, rfl⟩))
  go_region
  have hA3 := (At.set_par (by decide) (by decide) (by decide) (At.set_eff (by decide) (by decide) (by decide) hA1 e) p).drew
  have hK3 := ((hK1.setCell 24 none (.int .i64 e)).setCell 25 none (.int .i64 p)).drew
  have hx3 := (Below.heap_setCell (w1.setCell ⟨b, 24, none⟩ (.int .i64 e)) ⟨b, 25, none⟩ (.int .i64 p) w.heap.size hne).trans ((Below.heap_setCell w1 ⟨b, 24, none⟩ (.int .i64 e) w.heap.size hne).trans HX.out)
  change ((w1.setCell ⟨b, 24, none⟩ (.int .i64 e)).setCell ⟨b, 25, none⟩ (.int .i64 p)).drew.heap[w.heap.size]? = _ at hx3
  clear c24 c25 f24 f25 x0 x4 x5
  generalize ((w1.setCell ⟨b, 24, none⟩ (.int .i64 e)).setCell ⟨b, 25, none⟩ (.int .i64 p)).drew = w3 at hA3 hK3 hx3 ⊢
  have y5 : w3.cell? ⟨w.heap.size, 5, none⟩ = some (.int .i64 p) := (cell_of hx3 5).trans rfl
  have g24 := hA3.fz 24
  have d24 := hA3.ceff
  go_wp2
  go_end0
  exact ⟨rfl, hA3, hK3⟩
theorem rlasting (hl : S.ops.length ≤ 700) (e0 : 0 ≤ e) (e1 : e ≤ 36) (s0 : 0 ≤ S.eff) (s1 : S.eff ≤ 36) (hA : RAt base w b S) : Calls Tryz.prog 32 #[.pointer (some ⟨b, 0, none⟩), .agg #[.int .i64 n, .int .i64 i, .int .i64 vc, .int .i64 va, .int .i64 e, .int .i64 p]] w (RLst base b (St.rLast n e p S) w) := by
  by_cases h0 : e = 0
  · subst h0
    by_cases hn : n = 0
    · subst hn
      by_cases hs : S.eff = 0
      · have : St.rLast 0 0 p S = S := by unfold St.rLast; rw [if_pos rfl, if_pos rfl, if_pos hs]
        rw [this]
        exact rlast_f base b w S i vc va p (by simp [hs]) hl hA
      · have : St.rLast 0 0 p S = St.rCompose (letterR S.eff) (S.put S.par) := by unfold St.rLast; rw [if_pos rfl, if_pos rfl, if_neg hs]
        rw [this]
        exact rlast_e base b w S i vc va p (by simp [hs]) (by omega) s1 hl hA
    · have : St.rLast n 0 p S = { S with eff := 0, par := 0 } := by unfold St.rLast; rw [if_pos rfl, if_neg hn]
      rw [this]
      exact rlast_d base b w S n i vc va p (by simp [hn]) hl hA
  · cases hlb : lastsB e with
    | false =>
      have : St.rLast n e p S = S := by unfold St.rLast; rw [if_neg h0, hlb]; rfl
      rw [this]
      exact rlast_c base b w S n i vc va e p (by simp [h0]) (by simp [h0]) (by omega) e1 hlb hl hA
    | true =>
      by_cases hp : p = 0
      · have : St.rLast n e p S = { S with eff := 0, par := p } := by unfold St.rLast; rw [if_neg h0, hlb, if_pos rfl, if_pos hp]
        rw [this]
        exact rlast_a base b w S n i vc va e p (by simp [h0]) (by simp [h0]) (by omega) e1 hlb (by simp [hp]) hl hA
      · have : St.rLast n e p S = { S with eff := e, par := p } := by unfold St.rLast; rw [if_neg h0, hlb, if_pos rfl, if_neg hp]
        rw [this]
        exact rlast_b base b w S n i vc va e p (by simp [h0]) (by simp [h0]) (by omega) e1 hlb (by simp [hp]) hl hA
end
end Go.Proofs.YtappnglfmidjoaaGreat.D
