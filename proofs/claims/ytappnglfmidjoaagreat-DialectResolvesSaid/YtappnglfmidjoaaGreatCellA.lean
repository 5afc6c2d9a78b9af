/- Which cells there are at all: pattern.ValidCell and the reference's own. -/
import Derived.WalkKit
import Derived.WalkSpells
import Derived.Lib.Hide
import Derived.KernelRfl
import Derived.Deep.DeepCutAuto
import Derived.BigQuiet
import Derived.Deep.QuietTactic
import Derived.Test.YtappnglfmidjoaaGreatProg
import Derived.Test.YtappnglfmidjoaaGreatSt
set_option linter.unusedVariables false
set_option linter.unusedSimpArgs false
namespace Go.Proofs.YtappnglfmidjoaaGreat.D
open Go Go.RowKit Go.Proofs.YtappnglfmidjoaaGreat.DB

def inB (x lo hi : Int) : Bool := decide (lo ≤ x ∧ x ≤ hi)
theorem pwithin (x lo hi : Int) (w : World) : Calls Tryz.prog 35 #[.int .i64 x, .int .i64 lo, .int .i64 hi] w fun e w' => e = .returned (.bool (inB x lo hi)) ∧ w' = w := by
  by_cases q : lo ≤ x <;> by_cases r : x ≤ hi
  all_goals
    go_enter Tryz.func35, Tryz.ntmps35
    go_wp2
    go_ret
    exact ⟨by simp [inB, q, r], rfl⟩
theorem pis (d : Int) (w : World) : Calls Tryz.prog 18 #[.int .i64 d] w fun e w' => e = .returned (.bool (inB d 1 6)) ∧ w' = w := by
  by_cases q : 1 ≤ d <;> by_cases r : d ≤ 6
  all_goals
    go_enter Tryz.func18, Tryz.ntmps18
    go_wp2
    go_ret
    exact ⟨by simp [inB, q, r], rfl⟩
abbrev CellV (n i vc va ef pa : Int) : Array Value := #[.int .i64 n, .int .i64 i, .int .i64 vc, .int .i64 va, .int .i64 ef, .int .i64 pa]
def noteB (n : Int) : Bool := inB n 0 120 || n == 253 || n == 254 || n == 255
def volB (vc va : Int) : Bool := inB vc 0 12 && inB va 0 99 && (decide (0 < vc) || va == 0)
def effB (ef pa : Int) : Bool := inB ef 0 36 && inB pa 0 255 && (decide (0 < ef) || pa == 0)
def patOk (n i vc va ef pa : Int) : Bool := noteB n && inB i 0 31 && (volB vc va && effB ef pa)
/-- A cell lies in a box of its own. -/
structure CellAt (w1 : World) (m : Nat) (n i vc va ef pa : Int) : Prop where
  c0 : w1.cell? ⟨m, 0, none⟩ = some (.int .i64 n)
  c1 : w1.cell? ⟨m, 1, none⟩ = some (.int .i64 i)
  c2 : w1.cell? ⟨m, 2, none⟩ = some (.int .i64 vc)
  c3 : w1.cell? ⟨m, 3, none⟩ = some (.int .i64 va)
  c4 : w1.cell? ⟨m, 4, none⟩ = some (.int .i64 ef)
  c5 : w1.cell? ⟨m, 5, none⟩ = some (.int .i64 pa)
theorem CellAt.box (w : World) (n i vc va ef pa : Int) : CellAt (w.alloc (.cells (CellV n i vc va ef pa) 23)) w.heap.size n i vc va ef pa := by
  have hx := heap_alloc_new w (.cells (CellV n i vc va ef pa) 23)
  exact ⟨(cell_of hx 0).trans rfl, (cell_of hx 1).trans rfl, (cell_of hx 2).trans rfl, (cell_of hx 3).trans rfl, (cell_of hx 4).trans rfl, (cell_of hx 5).trans rfl⟩
set_option maxRecDepth 100000 in
set_option maxHeartbeats 2000000 in
theorem ppat0 (cv : Array Value) (n i vc va ef pa : Int) (w w1 : World) (hw : w.alloc (.cells cv 23) = w1) (hc : CellAt w1 w.heap.size n i vc va ef pa) : Calls Tryz.prog 19 #[.agg cv] w fun e w' => e = .returned (.bool (patOk n i vc va ef pa)) ∧ w1 = w' := by
  obtain ⟨c0, c1, c2, c3, c4, c5⟩ := hc
  go_enter Tryz.func19, Tryz.ntmps19
  go_upto_region 1 with fail
  go_cut [3] (fun s3 wx => s3 = .bool (noteB n) ∧ w1 = wx)
  case first =>
    go_wp2_with (go_at_call 35; refine (pwithin _ _ _ _).mono ?_; rintro _ w2 ⟨rfl, rfl⟩)
    all_goals (go_meet; exact ⟨by simp_all [noteB], rfl⟩)
  case rest =>
    obtain ⟨rfl, rfl⟩ := hcut
    go_upto_region 2 with fail
    go_cut [4] (fun s4 wx => s4 = .bool (volB vc va) ∧ w1 = wx)
    case first =>
      go_wp2_with (go_at_call 35; refine (pwithin _ _ _ _).mono ?_; rintro _ w2 ⟨rfl, rfl⟩)
      all_goals (go_meet; exact ⟨by simp_all [volB], rfl⟩)
    case rest =>
      obtain ⟨rfl, rfl⟩ := hcut
      go_upto_region 3 with fail
      go_cut [5] (fun s5 wx => s5 = .bool (effB ef pa) ∧ w1 = wx)
      case first =>
        go_wp2_with (go_at_call 35; refine (pwithin _ _ _ _).mono ?_; rintro _ w2 ⟨rfl, rfl⟩)
        all_goals (go_meet; exact ⟨by simp_all [effB], rfl⟩)
      case rest =>
        obtain ⟨rfl, rfl⟩ := hcut
        go_wp2_with (go_at_call 35; refine (pwithin _ _ _ _).mono ?_; rintro _ w2 ⟨rfl, rfl⟩)
        all_goals (go_ret; exact ⟨by simp_all [patOk], rfl⟩)
theorem ppat (n i vc va ef pa : Int) (w : World) : Calls Tryz.prog 19 #[.agg (CellV n i vc va ef pa)] w fun e w' => e = .returned (.bool (patOk n i vc va ef pa)) ∧ Below w.heap.size w w' :=
  (ppat0 _ n i vc va ef pa w _ rfl (CellAt.box w n i vc va ef pa)).mono fun _ _ ⟨he, hw⟩ => ⟨he, hw ▸ (Below.refl _ _).alloc (Nat.le_refl _) _⟩
set_option maxRecDepth 100000 in
set_option maxHeartbeats 2000000 in
theorem rpat0 (cv : Array Value) (n i vc va ef pa : Int) (w w1 : World) (hw : w.alloc (.cells cv 23) = w1) (hc : CellAt w1 w.heap.size n i vc va ef pa) : Calls Tryz.prog 24 #[.agg cv] w fun e w' => e = .returned (.bool (patOk n i vc va ef pa)) ∧ w1 = w' := by
  obtain ⟨c0, c1, c2, c3, c4, c5⟩ := hc
  go_enter Tryz.func24, Tryz.ntmps24
  go_upto_region 1 with fail
  go_cut [3] (fun s3 wx => s3 = .bool (noteB n) ∧ w1 = wx)
  case first =>
    go_wp2
    all_goals (go_meet; exact ⟨by congr 1; rw [Bool.eq_iff_iff]; simp [noteB, inB]; omega, rfl⟩)
  case rest =>
    obtain ⟨rfl, rfl⟩ := hcut
    go_upto_region 2 with fail
    go_cut [4] (fun s4 wx => s4 = .bool (volB vc va) ∧ w1 = wx)
    case first =>
      go_wp2
      all_goals (go_meet; exact ⟨by congr 1; rw [Bool.eq_iff_iff]; simp [volB, inB]; omega, rfl⟩)
    case rest =>
      obtain ⟨rfl, rfl⟩ := hcut
      go_upto_region 3 with fail
      go_cut [5] (fun s5 wx => s5 = .bool (effB ef pa) ∧ w1 = wx)
      case first =>
        go_wp2
        all_goals (go_meet; exact ⟨by congr 1; rw [Bool.eq_iff_iff]; simp [effB, inB]; omega, rfl⟩)
      case rest =>
        obtain ⟨rfl, rfl⟩ := hcut
        go_wp2
        all_goals (go_ret; exact ⟨by refine congrArg (fun b => Ending.returned (Value.bool b)) ?_; rw [Bool.eq_iff_iff]; simp [patOk, inB, *]; try omega, rfl⟩)
theorem rpat (n i vc va ef pa : Int) (w : World) : Calls Tryz.prog 24 #[.agg (CellV n i vc va ef pa)] w fun e w' => e = .returned (.bool (patOk n i vc va ef pa)) ∧ Below w.heap.size w w' :=
  (rpat0 _ n i vc va ef pa w _ rfl (CellAt.box w n i vc va ef pa)).mono fun _ _ ⟨he, hw⟩ => ⟨he, hw ▸ (Below.refl _ _).alloc (Nat.le_refl _) _⟩
end Go.Proofs.YtappnglfmidjoaaGreat.D
