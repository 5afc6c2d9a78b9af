/- validMemory of the program. -/
import Derived.Test.YtappnglfmidjoaaGreatAsked
import Derived.Deep.MidRow
set_option linter.unusedVariables false
set_option linter.unusedSimpArgs false
namespace Go.Proofs.YtappnglfmidjoaaGreat.D
open Go Go.RowKit Go.Proofs.YtappnglfmidjoaaGreat.DB

/-- A memory as it is handed over: slots, effect, parameter. -/
structure MemV (mv : Array Value) (ms : List Int) (e p : Int) : Prop where
  len : ms.length = 24
  arr : mv = (ms.map (Value.int .i64) ++ [Value.int .i64 e, Value.int .i64 p]).toArray
section
variable {mv : Array Value} {ms : List Int} {e p : Int}
theorem MemV.size (h : MemV mv ms e p) : mv.size = 26 := by rw [h.arr]; simp [h.len]
theorem MemV.slot (h : MemV mv ms e p) {i : Nat} {x : Int} (hx : ms[i]? = some x) : mv[i]? = some (.int .i64 x) := by
  have hi : i < ms.length := (List.getElem?_eq_some_iff.1 hx).1
  rw [h.arr, List.getElem?_toArray, List.getElem?_append, if_pos (by simpa using hi), List.getElem?_map, hx]
  rfl
theorem MemV.ceff (h : MemV mv ms e p) : mv[24]? = some (.int .i64 e) := by rw [h.arr]; simp [List.getElem?_append, h.len]
theorem MemV.cpar (h : MemV mv ms e p) : mv[25]? = some (.int .i64 p) := by rw [h.arr]; simp [List.getElem?_append, h.len]
end
def slotOk (x : Int) : Bool := decide (0 ≤ x ∧ x ≤ 255)
def memOk (ms : List Int) (e p : Int) : Bool := ms.all slotOk && (decide (0 ≤ e ∧ e ≤ 36) && decide (0 ≤ p ∧ p ≤ 255))
theorem memOk_bad {ms : List Int} {e p x : Int} {i : Nat} (hx : ms[i]? = some x) (h : ¬ slotOk x = true) : memOk ms e p = false := by
  have : ms.all slotOk = false := by
    cases q : ms.all slotOk with
    | false => rfl
    | true => exact absurd (List.all_eq_true.1 q x (List.mem_of_getElem? hx)) h
  simp [memOk, this]
theorem memOk_good {ms : List Int} {e p : Int} (hl : ms.length = 24) (h : ∀ j x, j < 24 → ms[j]? = some x → slotOk x = true) : memOk ms e p = (decide (0 ≤ e ∧ e ≤ 36) && decide (0 ≤ p ∧ p ≤ 255)) := by
  have : ms.all slotOk = true := List.all_eq_true.2 fun x hx => by
    obtain ⟨j, hj⟩ := List.getElem?_of_mem hx
    exact h j x (by have := (List.getElem?_eq_some_iff.1 hj).1; omega) hj
  simp [memOk, this]
theorem slot_ix (cs : Array Value) (v : Value) (i : Nat) (h : i < 24) (hc : cs[i]? = some v) (w : World) : (Instr.index 26 (.agg cs) (.int .i64 i)).run Tryz.prog w = .ok v w := by
  have h3 := Tryz.isAgg3
  have hs := Tryz.sizeOf3
  simp [Instr.index, asIntOf, Sem.run_bind, run_underlying Tryz.underlying26, Go.part, h3, hs, h, hc]
theorem info26 : (Tryz.prog.info? 26).map (·.size) = some 24 := by kernel_rfl
set_option maxRecDepth 100000 in
set_option maxHeartbeats 1000000 in
theorem pvalidMemory (mv : Array Value) (ms : List Int) (e p : Int) (hM : MemV mv ms e p) (w : World) : Calls Tryz.prog 37 #[.agg mv] w fun e' w' => e' = .returned (.bool (memOk ms e p)) ∧ w' = w.alloc (.cells mv 28) := by
  have hx := heap_alloc_new w (.cells mv 28)
  have hr : (w.alloc (.cells mv 28)).rangeAt w.heap.size 0 (ms.map (Value.int .i64)) := by
    intro j v hv
    rw [List.getElem?_map] at hv
    cases hj : ms[j]? with
    | none => simp [hj] at hv
    | some x =>
      simp only [hj, Option.map_some, Option.some.injEq] at hv
      rw [Nat.zero_add, cell_of hx, hM.slot hj, hv]
  have hi : (Tryz.prog.info? 26).map (·.size) = some (ms.map (Value.int .i64)).length := by rw [List.length_map, hM.len]; exact info26
  have c24 : (w.alloc (.cells mv 28)).cell? ⟨w.heap.size, 24, none⟩ = some (.int .i64 e) := (cell_of hx 24).trans hM.ceff
  have c25 : (w.alloc (.cells mv 28)).cell? ⟨w.heap.size, 25, none⟩ = some (.int .i64 p) := (cell_of hx 25).trans hM.cpar
  have hsz : (ms.map (Value.int .i64)).toArray.size = 24 := by simp [hM.len]
  have hcs : ∀ (i : Nat) (x : Int), ms[i]? = some x → (ms.map (Value.int .i64)).toArray[i]? = some (.int .i64 x) := by intro i x h; simp [h]
  have hlen := hM.len
  generalize (ms.map (Value.int .i64)) = cl at hr hi hsz hcs
  go_enter Tryz.func37, Tryz.ntmps37
  go_wp2_with (refine wpList_load_mid rfl 26 _ rfl w.heap.size 0 rfl cl _ hr Tryz.underlying26 rfl hi ?_)
  generalize hw1 : w.alloc (.cells mv 28) = w1 at *
  generalize w.heap.size = m at *
  go_loopw [7] (fun u7 w' => ∃ i : Nat, u7 = .int .i64 i ∧ i ≤ 24 ∧ w' = w1 ∧ ∀ j x, j < i → ms[j]? = some x → slotOk x = true) (fun u7 w' => match u7 with | .int _ i => (24 - i).toNat | _ => 0)
  case atStart => exact ⟨0, rfl, by omega, rfl, fun j x hj => absurd hj (Nat.not_lt_zero _)⟩
  case round =>
    obtain ⟨i, rfl, hi24, hwr, hall⟩ := hrel
    subst hwr
    by_cases q : i < 24
    · have q' : (i : Int) < 24 := by omega
      obtain ⟨x, hx1⟩ : ∃ x, ms[i]? = some x := ⟨_, List.getElem?_eq_getElem (by omega)⟩
      have hix := slot_ix cl.toArray _ i q (hcs i x hx1)
      by_cases r : slotOk x = true
      · have r1 : 0 ≤ x ∧ x ≤ 255 := by simpa [slotOk] using r
        obtain ⟨r1, r2⟩ := r1
        go_wp2
        refine ⟨⟨i + 1, rfl, by omega, trivial, fun j y hj hy => ?_⟩, by show (24 - ((i : Int) + 1)).toNat < (24 - (i : Int)).toNat; omega⟩
        by_cases k : j < i
        · exact hall j y k hy
        · have : j = i := by omega
          subst this
          rw [hx1] at hy
          cases hy
          exact r
      · have r1 : ¬ (0 ≤ x ∧ x ≤ 255) := by simpa [slotOk] using r
        by_cases r2 : x < 0
        · go_wp2
          go_ret
          exact ⟨by rw [memOk_bad hx1 r]; rfl, by first | rfl | exact hw1.symm⟩
        · have r3 : 255 < x := by omega
          have r4 : 0 ≤ x := by omega
          go_wp2
          go_ret
          exact ⟨by rw [memOk_bad hx1 r]; rfl, by first | rfl | exact hw1.symm⟩
    · have q' : ¬ (i : Int) < 24 := by omega
      have hgood := Lib.hid (memOk_good (e := e) (p := p) hlen (fun j x hj => hall j x (by omega)))
      have hw2 := Lib.hid hw1
      clear hall hcs hr
      go_wp2
      all_goals (go_ret; refine ⟨?_, by first | rfl | exact hw1.symm | exact hw2.out.symm⟩; rw [hgood.out]; refine congrArg (fun q => Ending.returned (Value.bool q)) ?_; rw [Bool.eq_iff_iff]; simp only [Bool.and_eq_true, decide_eq_true_eq, Bool.false_eq_true, false_iff]; omega)
end Go.Proofs.YtappnglfmidjoaaGreat.D
