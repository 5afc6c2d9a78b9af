/- Arguments opened: a cell, a memory, a slice of cells. -/
import Derived.Test.YtappnglfmidjoaaGreatLaw0
import Derived.WalkKit
import Derived.ProofKit
import Derived.OpenShut
import Derived.Lib.SmallJoins
import Derived.Deep.Slices
import Derived.Deep.Fields
import Derived.ChangeSame
set_option linter.unusedVariables false
set_option linter.unusedSimpArgs false
namespace Go.Proofs.YtappnglfmidjoaaGreat.D
open Go Go.ChangeShapes Go.WideShapes Go.RowKit Go.Deep Go.Proofs.YtappnglfmidjoaaGreat.DB

section
variable {H : Type} {enc : TypeId × Value → H} {w : World} {base : Nat} {spare : Nat → Bool} {held : Bool}
theorem trod_one {P : Program} {l : List Value} {n i : Nat} {k : IntKind} {t : TypeId} {x : Option (DataW H × List MemPlace)} {y : DataW H × List MemPlace} (ht : P.underlying t = some (.int k))
    (h : DataW.trod enc P w base spare held n t ((l.drop i).take 1) = x) (hx : x = some y) : ∃ z, l[i]? = some (.int k z) := by
  obtain ⟨z, hz, _⟩ := DataW.trod_int ht (h.trans hx)
  refine ⟨z, ?_⟩
  have h0 : ((l.drop i).take 1)[0]? = some (.int k z) := by rw [hz]; rfl
  rw [List.getElem?_take, if_pos (by omega), List.getElem?_drop] at h0
  exact h0
theorem ints_of (l : List Value) (k : IntKind) (h : ∀ i, i < l.length → ∃ z, l[i]? = some (.int k z)) : ∃ ms : List Int, l = ms.map (Value.int k) := by
  induction l with
  | nil => exact ⟨[], rfl⟩
  | cons a t ih =>
    obtain ⟨ms, rfl⟩ := ih (fun i hi => by have := h (i + 1) (by simpa using hi); simpa using this)
    obtain ⟨z, hz⟩ := h 0 (by simp)
    simp at hz
    subst hz
    exact ⟨z :: ms, rfl⟩
theorem cellsOf3 : Tryz.prog.cellsOf 3 = 1 := by kernel_rfl
theorem cellsOf23 : Tryz.prog.cellsOf 23 = 6 := by kernel_rfl
theorem cellsOf26 : Tryz.prog.cellsOf 26 = 24 := by kernel_rfl
theorem cellsOf28 : Tryz.prog.cellsOf 28 = 26 := by kernel_rfl
theorem open_cell {r : Reach} {b0 : Nat} {v : Value} {d : DataW H} {p : List MemPlace} (hv : Value.okWide Tryz.prog w r b0 23 v) (h : DataW.Trod enc Tryz.prog w base spare held 23 v d p) :
    ∃ n i vc va ef pa : Int, v = .agg (CellV n i vc va ef pa) := by
  obtain ⟨cs, rfl, hsz⟩ := okWide_struct Tryz.underlying23 hv
  rw [cellsOf23] at hsz
  obtain ⟨fuel, hf⟩ := h
  obtain ⟨xs, n, _, hx, _, hlen, hg⟩ := DataW.trod_struct Tryz.underlying23 hf
  have hl : (Value.agg cs).cells.toList = cs.toList := rfl
  rw [hl] at hg
  have hxs : ∀ i, i < 6 → ∃ y, xs[i]? = some y := fun i hi => ⟨_, List.getElem?_eq_getElem (by rw [hlen]; exact hi)⟩
  have key : ∀ i, i < cs.toList.length → ∃ z, cs.toList[i]? = some (.int .i64 z) := by
    intro i hi
    have hi6 : i < 6 := by simpa [hsz] using hi
    obtain ⟨y, hy⟩ := hxs i hi6
    rcases (by omega : i = 0 ∨ i = 1 ∨ i = 2 ∨ i = 3 ∨ i = 4 ∨ i = 5) with rfl | rfl | rfl | rfl | rfl | rfl
    · have h : DataW.trod enc Tryz.prog w base spare held n 3 ((cs.toList.drop 0).take (Tryz.prog.cellsOf 3)) = xs[0]? := hg 0 _ rfl; rw [cellsOf3] at h; exact trod_one Tryz.underlying3 h hy
    · have h : DataW.trod enc Tryz.prog w base spare held n 3 ((cs.toList.drop 1).take (Tryz.prog.cellsOf 3)) = xs[1]? := hg 1 _ rfl; rw [cellsOf3] at h; exact trod_one Tryz.underlying3 h hy
    · have h : DataW.trod enc Tryz.prog w base spare held n 3 ((cs.toList.drop 2).take (Tryz.prog.cellsOf 3)) = xs[2]? := hg 2 _ rfl; rw [cellsOf3] at h; exact trod_one Tryz.underlying3 h hy
    · have h : DataW.trod enc Tryz.prog w base spare held n 3 ((cs.toList.drop 3).take (Tryz.prog.cellsOf 3)) = xs[3]? := hg 3 _ rfl; rw [cellsOf3] at h; exact trod_one Tryz.underlying3 h hy
    · have h : DataW.trod enc Tryz.prog w base spare held n 3 ((cs.toList.drop 4).take (Tryz.prog.cellsOf 3)) = xs[4]? := hg 4 _ rfl; rw [cellsOf3] at h; exact trod_one Tryz.underlying3 h hy
    · have h : DataW.trod enc Tryz.prog w base spare held n 3 ((cs.toList.drop 5).take (Tryz.prog.cellsOf 3)) = xs[5]? := hg 5 _ rfl; rw [cellsOf3] at h; exact trod_one Tryz.underlying3 h hy
  obtain ⟨ms, hms⟩ := ints_of _ _ key
  have hml : ms.length = 6 := by
    have := congrArg List.length hms
    simpa [hsz] using this.symm
  match ms, hml with
  | [n, i, vc, va, ef, pa], _ =>
    refine ⟨n, i, vc, va, ef, pa, ?_⟩
    have : cs = CellV n i vc va ef pa := by
      apply Array.toList_inj.1
      rw [hms]
      rfl
    rw [this]
theorem open_mem {r : Reach} {b0 : Nat} {v : Value} {d : DataW H} {p : List MemPlace} (hv : Value.okWide Tryz.prog w r b0 28 v) (h : DataW.Trod enc Tryz.prog w base spare held 28 v d p) :
    ∃ (mv : Array Value) (ms : List Int) (e q : Int), v = .agg mv ∧ MemV mv ms e q := by
  obtain ⟨cs, rfl, hsz⟩ := okWide_struct Tryz.underlying28 hv
  rw [cellsOf28] at hsz
  obtain ⟨fuel, hf⟩ := h
  obtain ⟨xs, n, _, hx, _, hlen, hg⟩ := DataW.trod_struct Tryz.underlying28 hf
  have hl : (Value.agg cs).cells.toList = cs.toList := rfl
  rw [hl] at hg
  have hxs : ∀ i, i < 3 → ∃ y, xs[i]? = some y := fun i hi => ⟨_, List.getElem?_eq_getElem (by rw [hlen]; exact hi)⟩
  have h0 : DataW.trod enc Tryz.prog w base spare held n 26 ((cs.toList.drop 0).take (Tryz.prog.cellsOf 26)) = xs[0]? := hg 0 _ rfl
  obtain ⟨y0, hy0⟩ := hxs 0 (by omega)
  rw [hy0, cellsOf26] at h0
  obtain ⟨zs, m, _, _, _, hzl, hz⟩ := DataW.trod_array Tryz.underlying26 h0
  rw [cellsOf3] at hz
  have key : ∀ i, i < cs.toList.length → ∃ z, cs.toList[i]? = some (.int .i64 z) := by
    intro i hi
    have hi26 : i < 26 := by simpa [hsz] using hi
    by_cases q : i < 24
    · obtain ⟨y, hy⟩ : ∃ y, zs[i]? = some y := ⟨_, List.getElem?_eq_getElem (by rw [hzl]; exact q)⟩
      obtain ⟨z, hz'⟩ := trod_one Tryz.underlying3 (by have := hz i q; rw [Nat.mul_one] at this; exact this) hy
      rw [List.getElem?_take, if_pos q, List.getElem?_drop, Nat.zero_add] at hz'
      exact ⟨z, hz'⟩
    · rcases (by omega : i = 24 ∨ i = 25) with rfl | rfl
      · obtain ⟨y, hy⟩ := hxs 1 (by omega)
        have h : DataW.trod enc Tryz.prog w base spare held n 3 ((cs.toList.drop 24).take (Tryz.prog.cellsOf 3)) = xs[1]? := hg 1 _ rfl; rw [cellsOf3] at h; exact trod_one Tryz.underlying3 h hy
      · obtain ⟨y, hy⟩ := hxs 2 (by omega)
        have h : DataW.trod enc Tryz.prog w base spare held n 3 ((cs.toList.drop 25).take (Tryz.prog.cellsOf 3)) = xs[2]? := hg 2 _ rfl; rw [cellsOf3] at h; exact trod_one Tryz.underlying3 h hy
  obtain ⟨ms, hms⟩ := ints_of _ _ key
  have hml : ms.length = 26 := by
    have := congrArg List.length hms
    simpa [hsz] using this.symm
  refine ⟨cs, ms.take 24, ms.getD 24 0, ms.getD 25 0, rfl, by simp [hml], ?_⟩
  have e1 : ms = ms.take 24 ++ [ms.getD 24 0, ms.getD 25 0] := by
    refine List.ext_getElem (by simp [hml]) (fun j h1 h2 => ?_)
    rw [List.getElem_append]
    split
    · rw [List.getElem_take]
    · rename_i hj
      have hj' : ¬ j < 24 := by simpa [hml] using hj
      rcases (by omega : j = 24 ∨ j = 25) with rfl | rfl
      · simp [hml, List.getD_eq_getElem?_getD, List.getElem?_eq_getElem h1]
      · simp [hml, List.getD_eq_getElem?_getD, List.getElem?_eq_getElem h1]
  apply Array.toList_inj.1
  rw [hms, show ((List.map (Value.int .i64) (ms.take 24) ++ [Value.int .i64 (ms.getD 24 0), Value.int .i64 (ms.getD 25 0)]).toArray).toList = List.map (Value.int .i64) (ms.take 24 ++ [ms.getD 24 0, ms.getD 25 0]) by simp, ← e1]
end
end Go.Proofs.YtappnglfmidjoaaGreat.D
