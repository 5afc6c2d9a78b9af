/- The struct in which a cell is asked: how it starts. -/
import Derived.Test.YtappnglfmidjoaaGreatValid
import Derived.Laws.Tables
set_option linter.unusedVariables false
set_option linter.unusedSimpArgs false
namespace Go.Proofs.YtappnglfmidjoaaGreat.D
open Go Go.RowKit Go.Proofs.YtappnglfmidjoaaGreat.DB

theorem build69 (mv : Array Value) (h : mv.size = 26) (d : Int) (w : World) : (Instr.build 69 #[(0, .agg mv), (1, .int .i64 d)]).run Tryz.prog w = .ok (.agg (mv ++ #[.int .i64 d, .int .i64 0, .int .i64 0, .int .i64 0, .slice none 0 0, .bool false])) w := by
  obtain ⟨l⟩ := mv
  simp only [List.size_toArray] at h
  iterate 26 (rcases l with _ | ⟨v, l⟩; · (simp at h))
  rcases l with _ | ⟨v, l⟩
  · exact run_build w 69 _ _ (by kernel_rfl)
  · simp at h
/-- A memory that is about to be asked. -/
def St.mem (ms : List Int) (e p : Int) : St := { slots := ms, eff := e, par := p, p := 0, h := 0, l := 0, ops := [] }
theorem At.start {mv : Array Value} {ms : List Int} {e p : Int} (hM : MemV mv ms e p) (d : Int) {w : World} {b base : Nat} (hb : base ≤ b) (hx : w.heap[b]? = some (.cells (mv ++ #[.int .i64 d, .int .i64 0, .int .i64 0, .int .i64 0, .slice none 0 0, .bool false]) 69)) :
    PAt base w b (St.mem ms e p) ∧ w.cell? ⟨b, 26, none⟩ = some (.int .i64 d) := by
  have hs := hM.size
  have hl := hM.len
  refine ⟨⟨hb, hM.len, _, hx, by simp [hs], ?_, ?_, ?_, ?_, ?_, ?_, .slice none 0 0, ?_, ?_⟩, ?_⟩
  · intro i hi
    rw [Array.getElem?_append, if_pos (by omega)]
    refine hM.slot ?_
    show ms[i]? = some (ms.getD i 0)
    rw [List.getD_eq_getElem?_getD, List.getElem?_eq_getElem (by omega)]
    rfl
  · rw [Array.getElem?_append, if_pos (by omega)]; exact hM.ceff
  · rw [Array.getElem?_append, if_pos (by omega)]; exact hM.cpar
  · rw [Array.getElem?_append, if_neg (by omega), hs]; rfl
  · rw [Array.getElem?_append, if_neg (by omega), hs]; rfl
  · rw [Array.getElem?_append, if_neg (by omega), hs]; rfl
  · rw [Array.getElem?_append, if_neg (by omega), hs]; rfl
  · exact ⟨rfl, .inl ⟨rfl, rfl⟩⟩
  · rw [cell_of hx, Array.getElem?_append, if_neg (by omega), hs]; rfl
end Go.Proofs.YtappnglfmidjoaaGreat.D
