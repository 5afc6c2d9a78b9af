/- ValidCell of the reference. -/
import Derived.Test.YtappnglfmidjoaaGreatCellE
import Derived.Deep.RegionWith
set_option linter.unusedVariables false
set_option linter.unusedSimpArgs false
namespace Go.Proofs.YtappnglfmidjoaaGreat.D
open Go Go.RowKit Go.Proofs.YtappnglfmidjoaaGreat.DB Go.Great

theorem keepS {w0 w w' : World} {m : Nat} {n vc ef : Int} (hm : m < w0.heap.size) (hb : Below w.heap.size w w') (h : w.cell? ⟨m, 0, none⟩ = some (.int .i64 n) ∧ w.cell? ⟨m, 2, none⟩ = some (.int .i64 vc) ∧ w.cell? ⟨m, 4, none⟩ = some (.int .i64 ef) ∧ Below w0.heap.size w0 w) :
    w'.cell? ⟨m, 0, none⟩ = some (.int .i64 n) ∧ w'.cell? ⟨m, 2, none⟩ = some (.int .i64 vc) ∧ w'.cell? ⟨m, 4, none⟩ = some (.int .i64 ef) ∧ Below w0.heap.size w0 w' := by
  obtain ⟨h0, h2, h4, hB⟩ := h
  have hm' : m < w.heap.size := Nat.lt_of_lt_of_le hm hB.size
  exact ⟨(hb.cell (p := ⟨m, 0, none⟩) hm').trans h0, (hb.cell (p := ⟨m, 2, none⟩) hm').trans h2, (hb.cell (p := ⟨m, 4, none⟩) hm').trans h4, hB.trans (hb.mono hB.size)⟩
theorem rcmd_v {d k : Int} (h : cmdsD d = k) (w : World) : Calls Tryz.prog 26 #[.int .i64 d] w fun e w' => e = .returned (.int .i64 k) ∧ w' = w := h ▸ rcommands d w
end Go.Proofs.YtappnglfmidjoaaGreat.D
