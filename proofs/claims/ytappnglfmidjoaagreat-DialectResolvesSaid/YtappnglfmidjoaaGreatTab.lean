/- The tables by their numbers, the letters. -/
import Derived.Test.YtappnglfmidjoaaGreatCol
import Derived.Test.YtappnglfmidjoaaGreatShelf
set_option linter.unusedVariables false
set_option linter.unusedSimpArgs false
namespace Go.Proofs.YtappnglfmidjoaaGreat.D
open Go Go.RowKit
open Go.Proofs.YtappnglfmidjoaaGreat.DB
def letterOf (n : Int) : Int := if n ≤ 10 then 47 + n else 54 + n
theorem letter_ix (n : Int) (h0 : 1 ≤ n) (h1 : n ≤ 36) (w : World) : (Instr.index 9 (.string { data := #[48, 49, 50, 51, 52, 53, 54, 55, 56, 57, 65, 66, 67, 68, 69, 70, 71, 72, 73, 74, 75, 76, 77, 78, 79, 80, 81, 82, 83, 84, 85, 86, 87, 88, 89, 90] }) (.int .i64 (n - 1))).run Tryz.prog w = .ok (.int .u8 (letterOf n)) w := by
  rcases (by omega : n = 1 ∨ n = 2 ∨ n = 3 ∨ n = 4 ∨ n = 5 ∨ n = 6 ∨ n = 7 ∨ n = 8 ∨ n = 9 ∨ n = 10 ∨ n = 11 ∨ n = 12 ∨ n = 13 ∨ n = 14 ∨ n = 15 ∨ n = 16 ∨ n = 17 ∨ n = 18 ∨ n = 19 ∨ n = 20 ∨ n = 21 ∨ n = 22 ∨ n = 23 ∨ n = 24 ∨ n = 25 ∨ n = 26 ∨ n = 27 ∨ n = 28 ∨ n = 29 ∨ n = 30 ∨ n = 31 ∨ n = 32 ∨ n = 33 ∨ n = 34 ∨ n = 35 ∨ n = 36) with rfl | rfl | rfl | rfl | rfl | rfl | rfl | rfl | rfl | rfl | rfl | rfl | rfl | rfl | rfl | rfl | rfl | rfl | rfl | rfl | rfl | rfl | rfl | rfl | rfl | rfl | rfl | rfl | rfl | rfl | rfl | rfl | rfl | rfl | rfl | rfl <;> rfl
set_option maxHeartbeats 400000 in
theorem pletter (n : Int) (h0 : 1 ≤ n) (h1 : n ≤ 36) (w : World) : Calls Tryz.prog 23 #[.int .i64 n] w fun e w' => e = .returned (.int .u8 (letterOf n)) ∧ w' = w := by
  have hix := letter_ix n h0 h1
  go_enter Tryz.func23, Tryz.ntmps23
  go_wp2
  go_ret
  exact ⟨rfl, rfl⟩
/-- The program's table of a dialect. -/
def tabOf (d : Int) : Int → Option (St → St) := if d = 1 then tFour else if d = 2 then tScream else if d = 3 then tFast else if d = 4 then tImpulse else if d = 5 then tCompose else tChip
set_option maxRecDepth 100000 in
set_option maxHeartbeats 400000 in
theorem effects1 (X : Nat → Prop) (base b : Nat) (w : World) (hb : b < w.heap.size) (hX : ∀ i, X i → i < w.heap.size) :
    Calls Tryz.prog 76 #[.int .i64 1] w (MkMap .u8 X base b (tabOf 1) w) := by
  have hix : ∀ (x0 x1 x2 x3 x4 x5 x6 : Value) (w : World), (Instr.index 83 (.agg #[x0, x1, x2, x3, x4, x5, x6]) (.int .i64 1)).run Tryz.prog w = .ok x1 w := by intros; rfl
  have hcl := run_enter Tryz.func78 (by kernel_rfl) (by kernel_rfl)
  go_enter Tryz.func76, Tryz.ntmps76
  go_wp2_with fail
  refine (mk_four X base b w hb hX).mono ?_
  rintro _ w1 ⟨r, rfl, B⟩
  go_wp2_with fail
  go_ret
  exact ⟨r, rfl, B⟩
set_option maxRecDepth 100000 in
set_option maxHeartbeats 400000 in
theorem effects2 (X : Nat → Prop) (base b : Nat) (w : World) (hb : b < w.heap.size) (hX : ∀ i, X i → i < w.heap.size) :
    Calls Tryz.prog 76 #[.int .i64 2] w (MkMap .u8 X base b (tabOf 2) w) := by
  have hix : ∀ (x0 x1 x2 x3 x4 x5 x6 : Value) (w : World), (Instr.index 83 (.agg #[x0, x1, x2, x3, x4, x5, x6]) (.int .i64 2)).run Tryz.prog w = .ok x2 w := by intros; rfl
  have hcl := run_enter Tryz.func79 (by kernel_rfl) (by kernel_rfl)
  go_enter Tryz.func76, Tryz.ntmps76
  go_wp2_with fail
  refine (mk_scream X base b w hb hX).mono ?_
  rintro _ w1 ⟨r, rfl, B⟩
  go_wp2_with fail
  go_ret
  exact ⟨r, rfl, B⟩
set_option maxRecDepth 100000 in
set_option maxHeartbeats 400000 in
theorem effects3 (X : Nat → Prop) (base b : Nat) (w : World) (hb : b < w.heap.size) (hX : ∀ i, X i → i < w.heap.size) :
    Calls Tryz.prog 76 #[.int .i64 3] w (MkMap .u8 X base b (tabOf 3) w) := by
  have hix : ∀ (x0 x1 x2 x3 x4 x5 x6 : Value) (w : World), (Instr.index 83 (.agg #[x0, x1, x2, x3, x4, x5, x6]) (.int .i64 3)).run Tryz.prog w = .ok x3 w := by intros; rfl
  have hcl := run_enter Tryz.func80 (by kernel_rfl) (by kernel_rfl)
  go_enter Tryz.func76, Tryz.ntmps76
  go_wp2_with fail
  refine (mk_fast X base b w hb hX).mono ?_
  rintro _ w1 ⟨r, rfl, B⟩
  go_wp2_with fail
  go_ret
  exact ⟨r, rfl, B⟩
set_option maxRecDepth 100000 in
set_option maxHeartbeats 400000 in
theorem effects4 (X : Nat → Prop) (base b : Nat) (w : World) (hb : b < w.heap.size) (hX : ∀ i, X i → i < w.heap.size) :
    Calls Tryz.prog 76 #[.int .i64 4] w (MkMap .u8 X base b (tabOf 4) w) := by
  have hix : ∀ (x0 x1 x2 x3 x4 x5 x6 : Value) (w : World), (Instr.index 83 (.agg #[x0, x1, x2, x3, x4, x5, x6]) (.int .i64 4)).run Tryz.prog w = .ok x4 w := by intros; rfl
  have hcl := run_enter Tryz.func81 (by kernel_rfl) (by kernel_rfl)
  go_enter Tryz.func76, Tryz.ntmps76
  go_wp2_with fail
  refine (mk_impulse X base b w hb hX).mono ?_
  rintro _ w1 ⟨r, rfl, B⟩
  go_wp2_with fail
  go_ret
  exact ⟨r, rfl, B⟩
set_option maxRecDepth 100000 in
set_option maxHeartbeats 400000 in
theorem effects5 (X : Nat → Prop) (base b : Nat) (w : World) (hb : b < w.heap.size) (hX : ∀ i, X i → i < w.heap.size) :
    Calls Tryz.prog 76 #[.int .i64 5] w (MkMap .u8 X base b (tabOf 5) w) := by
  have hix : ∀ (x0 x1 x2 x3 x4 x5 x6 : Value) (w : World), (Instr.index 83 (.agg #[x0, x1, x2, x3, x4, x5, x6]) (.int .i64 5)).run Tryz.prog w = .ok x5 w := by intros; rfl
  have hcl := run_enter Tryz.func82 (by kernel_rfl) (by kernel_rfl)
  go_enter Tryz.func76, Tryz.ntmps76
  go_wp2_with fail
  refine (mk_compose X base b w hb hX).mono ?_
  rintro _ w1 ⟨r, rfl, B⟩
  go_wp2_with fail
  go_ret
  exact ⟨r, rfl, B⟩
set_option maxRecDepth 100000 in
set_option maxHeartbeats 400000 in
theorem effects6 (X : Nat → Prop) (base b : Nat) (w : World) (hb : b < w.heap.size) (hX : ∀ i, X i → i < w.heap.size) :
    Calls Tryz.prog 76 #[.int .i64 6] w (MkMap .u8 X base b (tabOf 6) w) := by
  have hix : ∀ (x0 x1 x2 x3 x4 x5 x6 : Value) (w : World), (Instr.index 83 (.agg #[x0, x1, x2, x3, x4, x5, x6]) (.int .i64 6)).run Tryz.prog w = .ok x6 w := by intros; rfl
  have hcl := run_enter Tryz.func83 (by kernel_rfl) (by kernel_rfl)
  go_enter Tryz.func76, Tryz.ntmps76
  go_wp2_with fail
  refine (mk_chip X base b w hb hX).mono ?_
  rintro _ w1 ⟨r, rfl, B⟩
  go_wp2_with fail
  go_ret
  exact ⟨r, rfl, B⟩
theorem peffects (X : Nat → Prop) (base b : Nat) (w : World) (hb : b < w.heap.size) (hX : ∀ i, X i → i < w.heap.size) (d : Int) (h0 : 1 ≤ d) (h1 : d ≤ 6) :
    Calls Tryz.prog 76 #[.int .i64 d] w (MkMap .u8 X base b (tabOf d) w) := by
  rcases (by omega : d = 1 ∨ d = 2 ∨ d = 3 ∨ d = 4 ∨ d = 5 ∨ d = 6) with rfl | rfl | rfl | rfl | rfl | rfl
  · exact effects1 X base b w hb hX
  · exact effects2 X base b w hb hX
  · exact effects3 X base b w hb hX
  · exact effects4 X base b w hb hX
  · exact effects5 X base b w hb hX
  · exact effects6 X base b w hb hX
/-- What a table offers for an effect. -/
def Offers (X : Nat → Prop) (base b : Nat) (M : Int → Option (St → St)) (c : Int) (w : World) (e : Ending) (w' : World) : Prop :=
  ∃ v, e = .returned v ∧ Below w.heap.size w w' ∧ ((M c = none ∧ v = .nilFunc) ∨ ∃ E, M c = some E ∧ Eff X base b w' v E)
set_option maxRecDepth 100000 in
set_option maxHeartbeats 400000 in
theorem peffect (X : Nat → Prop) (base b : Nat) (w : World) (hb : b < w.heap.size) (hX : ∀ i, X i → i < w.heap.size) (d n : Int) (h0 : 1 ≤ d) (h1 : d ≤ 6) (n0 : 1 ≤ n) (n1 : n ≤ 36) :
    Calls Tryz.prog 52 #[.agg #[.int .i64 d, .map none], .int .i64 n] w (Offers X base b (tabOf d) (letterOf n) w) := by
  have hq : ∀ w : World, (binOp .neq 51 (.map none) (.map none)).run Tryz.prog w = .ok (.bool false) w := by intro w; rfl
  have hbel : Below w.heap.size w (w.alloc (.cells #[.int .i64 d, .map none] 53)) := (Below.refl _ _).alloc (Nat.le_refl _) _
  go_enter Tryz.func52, Tryz.ntmps52
  go_wp2_with (first | (go_at_call 76; refine (peffects X base b _ (Nat.lt_of_lt_of_le hb hbel.size) (fun i hi => Nat.lt_of_lt_of_le (hX i hi) hbel.size) d h0 h1).mono ?_; rintro _ w1 ⟨r, rfl, B⟩) | (go_at_call 23; refine (pletter n n0 n1 _).mono ?_; rintro _ w2 ⟨rfl, rfl⟩) | (refine wpList_lookupG rfl _ _ 51 rfl 5 77 Tryz.underlying51 Tryz.underlying5 .nilFunc zeroEff rfl B.map (letterOf n) rfl ?_; intro v hv))
  go_ret
  refine ⟨v, rfl, hbel.trans (B.below.mono hbel.size), ?_⟩
  rcases hv with ⟨h1, h2⟩ | ⟨E, h1, h2⟩
  · exact .inl ⟨h1, h2⟩
  · exact .inr ⟨E, h1, h2.mono (fun _ h => .inl h)⟩
set_option maxRecDepth 100000 in
theorem ix0124 (c : Int) (h0 : 0 ≤ c) (h1 : c < 256) : decide (Lib.indexByte [48, 49, 50, 52] c.toNat.toUInt8 ≥ 0) = decide (c = 48 ∨ c = 49 ∨ c = 50 ∨ c = 52) := by
  obtain ⟨n, rfl⟩ : ∃ n : Nat, c = n := ⟨c.toNat, by omega⟩
  have hn : n < 256 := by omega
  clear h0 h1
  revert n
  decide
def lastsB (n : Int) : Bool := decide (n = 1 ∨ n = 2 ∨ n = 3 ∨ n = 5)
theorem plasts (n : Int) (h0 : 0 ≤ n) (h1 : n ≤ 36) (w : World) : Calls Tryz.prog 75 #[.int .i64 n] w fun e w' => e = .returned (.bool (lastsB n)) ∧ w' = w := by
  by_cases q : n = 0
  · subst q
    go_enter Tryz.func75, Tryz.ntmps75
    go_wp2
    go_ret
    exact ⟨rfl, rfl⟩
  · have n0 : 1 ≤ n := by omega
    have hl : decide (Lib.indexByte [48, 49, 50, 52] (letterOf n).toNat.toUInt8 ≥ 0) = lastsB n := by
      rw [ix0124 _ (by unfold letterOf; split <;> omega) (by unfold letterOf; split <;> omega)]
      unfold lastsB letterOf
      congr 1
      apply propext
      split <;> omega
    go_enter Tryz.func75, Tryz.ntmps75
    go_wp2_with (first | (go_at_call 23; refine (pletter n n0 h1 _).mono ?_; rintro _ w2 ⟨rfl, rfl⟩) | (go_at_call 22; refine (Tryz.strings_IndexByte _ _ _).mono ?_; rintro _ w3 ⟨rfl, rfl⟩))
    go_ret
    exact ⟨rfl, rfl⟩

end Go.Proofs.YtappnglfmidjoaaGreat.D
