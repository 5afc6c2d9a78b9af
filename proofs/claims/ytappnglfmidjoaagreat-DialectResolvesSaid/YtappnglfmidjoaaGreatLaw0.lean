/- awake; two equal memories. -/
import Derived.Test.YtappnglfmidjoaaGreatSame
set_option linter.unusedVariables false
set_option linter.unusedSimpArgs false
namespace Go.Proofs.YtappnglfmidjoaaGreat.D
open Go Go.RowKit Go.Proofs.YtappnglfmidjoaaGreat.DB Go.Great

/-- Equal rows of whole numbers. -/
theorem eqLoop {P : Program} (d : Nat) (e : TypeId) (k : IntKind) (hu : P.underlying e = some (.int k)) (xs : Array Value) (w : World) (l : List Nat)
    (h : ∀ i, i ∈ l → ∃ x : Int, (part e xs i).run P w = .ok (.int k x) w) :
    (forIn l ((none, ()) : Option Bool × Unit) (fun i r => do
      let a ← part e xs i
      let b ← part e xs i
      let q ← Op.equalIn (d + 1) e a b
      if (!q) = true then pure (ForInStep.done (some false, ())) else pure (ForInStep.yield (none, ()))) : Sem (Option Bool × Unit)).run P w = .ok (none, ()) w := by
  induction l with
  | nil => simp
  | cons i l ih =>
    obtain ⟨x, hx⟩ := h i (by simp)
    simp only [List.forIn_cons, Sem.run_bind, hx, Result.andThen_ok, run_equalIn_int w d e k k x x hu, beq_self_eq_true, Bool.not_true, Bool.false_eq_true, if_false, Sem.run_pure]
    exact ih (fun j hj => h j (by simp [hj]))
theorem run_equalIn_array_refl {P : Program} (d n : Nat) (t e : TypeId) (k : IntKind) (ht : P.underlying t = some (.array n e)) (hu : P.underlying e = some (.int k)) (hs : ∀ w, (sizeOf e).run P w = .ok 1 w) (xs : Array Value) (w : World)
    (h : ∀ i, i < n → ∃ x : Int, (part e xs i).run P w = .ok (.int k x) w) : (Op.equalIn (d + 1 + 1) t (.agg xs) (.agg xs)).run P w = .ok true w := by
  have hl := eqLoop d e k hu xs w (List.range' 0 n) (fun i hi => h i (by simp [List.mem_range'] at hi; omega))
  unfold Op.equalIn
  simp only [Sem.run_bind, run_underlying ht, Result.andThen_ok, hs, Nat.mul_one]
  rw [Std.Legacy.Range.forIn_eq_forIn_range']
  have e0 : List.range' [:n].start [:n].size [:n].step = List.range' 0 n := by simp [Std.Legacy.Range.size]
  rw [e0, hl]
  rfl
theorem fsOf28 : Tryz.prog.underlying 28 = some (.struct (Tryz.prog.fieldsOf 28)) := by rw [Program.fieldsOf, Tryz.underlying28]
theorem part26 (mv : Array Value) (h : mv.size = 26) (w : World) : (part 26 mv 0).run Tryz.prog w = .ok (.agg (mv.extract 0 24)) w := by
  have h26 := Tryz.isAgg26
  have hs := Tryz.sizeOf26
  simp [Go.part, h26, hs, h, Sem.run_bind]
theorem MemV.eqRefl {mv : Array Value} {ms : List Int} {e p : Int} (h : MemV mv ms e p) (w : World) : (Op.equalIn 10000 28 (.agg mv) (.agg mv)).run Tryz.prog w = .ok true w := by
  have hp : Tryz.prog.stoodInHeld 28 = false := by kernel_rfl
  have h3 := Tryz.underlying3
  have hsz := h.size
  rw [run_equalIn_agg w 9999 28 _ _ fsOf28 hp]
  simp only [Program.fieldsOf, Tryz.underlying28]
  have harr : (Op.equalIn 9999 26 (.agg (mv.extract 0 24)) (.agg (mv.extract 0 24))).run Tryz.prog w = .ok true w := by
    refine run_equalIn_array_refl 9997 24 26 3 .i64 Tryz.underlying26 Tryz.underlying3 (fun w => by have hs := Tryz.sizeOf3; simp [hs]) _ w (fun i hi => ?_)
    obtain ⟨x, hx⟩ : ∃ x, ms[i]? = some x := ⟨_, List.getElem?_eq_getElem (by rw [h.len]; exact hi)⟩
    have hc := h.slot hx
    have h3 := Tryz.isAgg3
    have hs := Tryz.sizeOf3
    refine ⟨x, ?_⟩
    have he : (mv.extract 0 24)[i]? = some (.int .i64 x) := by
      rw [Array.getElem?_extract, if_pos (by rw [hsz]; simp; omega), Nat.zero_add]
      exact hc
    simp [Go.part, h3, hs, Sem.run_bind, he]
  simp [go_sem, Op.eqFields, part26 mv h.size, harr, h.ceff, h.cpar, h3]
theorem MemV.neq {mv : Array Value} {ms : List Int} {e p : Int} (h : MemV mv ms e p) (w : World) : (binOp .neq 28 (.agg mv) (.agg mv)).run Tryz.prog w = .ok (.bool false) w := by
  rw [run_neq_struct, h.eqRefl w]; rfl
theorem MemV.eql {mv : Array Value} {ms : List Int} {e p : Int} (h : MemV mv ms e p) (w : World) : (binOp .eql 28 (.agg mv) (.agg mv)).run Tryz.prog w = .ok (.bool true) w := by
  rw [run_eql_struct, h.eqRefl w]; rfl
theorem MemV.inj {mv mv2 : Array Value} {ms : List Int} {e p : Int} (h : MemV mv ms e p) (h2 : MemV mv2 ms e p) : mv = mv2 := h.arr.trans h2.arr.symm
end Go.Proofs.YtappnglfmidjoaaGreat.D
