/- The notes, the volume commands and the letters, of both sides. -/
import Derived.Test.YtappnglfmidjoaaGreatCellC
import Derived.Deep.WholeRow
set_option linter.unusedVariables false
set_option linter.unusedSimpArgs false
namespace Go.Proofs.YtappnglfmidjoaaGreat.D
open Go Go.RowKit Go.Proofs.YtappnglfmidjoaaGreat.DB Go.Great

def noteD (d n : Int) : Bool := if n = 0 then true else if n = 255 then (d == 3 || d == 4 || d == 6) else if n = 254 then (d == 2 || d == 4) else if n = 253 then d == 4 else decide (lowQ d ≤ n ∧ n ≤ highQ d)
theorem quirkV_cells {w1 w : World} {g : Nat} {old : Array Value} (d : Int) (h : w1.heap[g]? = some (.cells old 39 (0, 0))) : (w1.setRow g (quirkV d)).cell? ⟨g, 4, none⟩ = some (.int .i64 (lowQ d)) ∧ (w1.setRow g (quirkV d)).cell? ⟨g, 5, none⟩ = some (.int .i64 (highQ d)) := by
  have hh := setRow_heap w1 g old (quirkV d) 39 (0, 0) h
  exact ⟨by rw [cell_of hh]; exact quirkV_low d, by rw [cell_of hh]; exact quirkV_high d⟩
set_option maxRecDepth 100000 in
set_option maxHeartbeats 2000000 in
theorem phasNote (d n : Int) (h0 : 1 ≤ d) (h1 : d ≤ 6) (w : World) : Calls Tryz.prog 20 #[.int .i64 d, .int .i64 n] w fun e w' => e = .returned (.bool (noteD d n)) ∧ Below w.heap.size w w' := by
  have hix := quirk_ix d h0 h1
  go_enter Tryz.func20, Tryz.ntmps20
  go_upto_region 2 with (first | (go_at_call 34; refine (ptable _).mono ?_; rintro _ w2 ⟨rfl, hB2⟩) | (refine wpList_store_rowTo rfl 39 _ _ rfl rfl w2.heap.size (quirkV d) rfl rfl 39 _ (heap_alloc_new w2 _) (quirkV_info d) (Eq.trans (b := 29) (by kernel_rfl) (quirkV_size d).symm) (quirkV_one d) ?_))
  rw [World.setRow_alloc_new]
  have hx := heap_alloc_new w2 (.cells (quirkV d) 39)
  have c4 := (cell_of hx 4).trans (quirkV_low d)
  have c5 := (cell_of hx 5).trans (quirkV_high d)
  have hb4 := hB2.alloc hB2.size (.cells (quirkV d) 39)
  generalize w2.alloc (.cells (quirkV d) 39) = w4 at c4 c5 hb4 ⊢
  clear hx hix
  by_cases n0 : n = 0
  · subst n0
    go_wp2_with fail
    all_goals (go_ret; exact ⟨by simp [noteD], hb4⟩)
  have m0 : (n == 0) = false := by simp [n0]
  by_cases n1 : n = 255
  · subst n1
    go_wp2_with fail
    all_goals (go_ret; exact ⟨by simp_all [noteD], hb4⟩)
  have m1 : (n == 255) = false := by simp [n1]
  by_cases n2 : n = 254
  · subst n2
    go_wp2_with fail
    all_goals (go_ret; exact ⟨by simp_all [noteD], hb4⟩)
  have m2 : (n == 254) = false := by simp [n2]
  by_cases n3 : n = 253
  · subst n3
    go_wp2_with fail
    all_goals (go_ret; exact ⟨by simp_all [noteD], hb4⟩)
  have m3 : (n == 253) = false := by simp [n3]
  go_wp2_with fail
  all_goals (go_ret; exact ⟨by simp [noteD, *] <;> omega, hb4⟩)
set_option maxRecDepth 100000 in
set_option maxHeartbeats 2000000 in
theorem rnoted (d n : Int) (h0 : 1 ≤ d) (h1 : d ≤ 6) (w : World) : Calls Tryz.prog 25 #[.int .i64 d, .int .i64 n] w fun e w' => e = .returned (.bool (noteD d n)) ∧ Below w.heap.size w w' := by
  have hix := quirk_ix d h0 h1
  go_enter Tryz.func25, Tryz.ntmps25
  go_upto_region 2 with (first | (go_at_call 15; refine (rquirks _ _).mono ?_; rintro _ w2 ⟨rfl, hB2⟩) | (refine wpList_store_rowTo rfl 39 _ _ rfl rfl w2.heap.size (quirkV d) rfl rfl 39 _ (heap_alloc_new w2 _) (quirkV_info d) (Eq.trans (b := 29) (by kernel_rfl) (quirkV_size d).symm) (quirkV_one d) ?_))
  rw [World.setRow_alloc_new]
  have hx := heap_alloc_new w2 (.cells (quirkV d) 39)
  have c4 := (cell_of hx 4).trans (quirkV_low d)
  have c5 := (cell_of hx 5).trans (quirkV_high d)
  have hb4 := hB2.alloc hB2.size (.cells (quirkV d) 39)
  generalize w2.alloc (.cells (quirkV d) 39) = w4 at c4 c5 hb4 ⊢
  clear hx hix
  by_cases n0 : n = 0
  · subst n0
    go_wp2_with fail
    all_goals (go_ret; exact ⟨by simp [noteD], hb4⟩)
  have m0 : (n == 0) = false := by simp [n0]
  by_cases n1 : n = 255
  · subst n1
    go_wp2_with fail
    all_goals (go_ret; exact ⟨by simp_all [noteD], hb4⟩)
  have m1 : (n == 255) = false := by simp [n1]
  by_cases n2 : n = 254
  · subst n2
    go_wp2_with fail
    all_goals (go_ret; exact ⟨by simp_all [noteD], hb4⟩)
  have m2 : (n == 254) = false := by simp [n2]
  by_cases n3 : n = 253
  · subst n3
    go_wp2_with fail
    all_goals (go_ret; exact ⟨by simp_all [noteD], hb4⟩)
  have m3 : (n == 253) = false := by simp [n3]
  go_wp2_with fail
  all_goals (go_ret; exact ⟨by simp [noteD, *] <;> omega, hb4⟩)
/-! ### The volume commands -/
def cmdsD (d : Int) : Int := if d = 2 then 1 else if d = 3 then 8 else if d = 4 then 10 else 0
theorem rcommands (d : Int) (w : World) : Calls Tryz.prog 26 #[.int .i64 d] w fun e w' => e = .returned (.int .i64 (cmdsD d)) ∧ w' = w := by
  by_cases h2 : d = 2
  · subst h2; go_enter Tryz.func26, Tryz.ntmps26; go_wp2; go_ret; exact ⟨rfl, rfl⟩
  by_cases h3 : d = 3
  · subst h3; go_enter Tryz.func26, Tryz.ntmps26; go_wp2; go_ret; exact ⟨rfl, rfl⟩
  by_cases h4 : d = 4
  · subst h4; go_enter Tryz.func26, Tryz.ntmps26; go_wp2; go_ret; exact ⟨rfl, rfl⟩
  have t2 : (d == 2) = false := by simp [h2]
  have t3 : (d == 3) = false := by simp [h3]
  have t4 : (d == 4) = false := by simp [h4]
  go_enter Tryz.func26, Tryz.ntmps26
  go_wp2
  go_ret
  exact ⟨by simp [cmdsD, h2, h3, h4], rfl⟩
/-! ### The letters -/
def letB1 : ByteArray := { data := #[48, 49, 50, 51, 52, 53, 54, 55, 56, 57, 65, 66, 67, 68, 69, 70] }
def letB2 : ByteArray := { data := #[65, 66, 67, 68, 69, 70, 71, 72, 73, 74, 75, 76, 79, 81, 82, 83, 84, 85, 86, 88] }
def letB3 : ByteArray := { data := #[48, 49, 50, 51, 52, 53, 54, 55, 56, 57, 65, 66, 67, 68, 69, 70, 71, 72, 75, 76, 80, 82, 84, 88] }
def letB4 : ByteArray := { data := #[65, 66, 67, 68, 69, 70, 71, 72, 73, 74, 75, 76, 77, 78, 79, 80, 81, 82, 83, 84, 85, 86, 87, 88, 89, 90] }
def letB5 : ByteArray := { data := #[48, 49, 50, 51, 52, 53] }
def letB6 : ByteArray := { data := #[48, 49, 50, 51, 52, 65, 66, 67, 68, 69, 70, 78, 83] }
def lettersV (d : Int) : ByteArray := if d = 1 then letB1 else if d = 2 then letB2 else if d = 3 then letB3 else if d = 4 then letB4 else if d = 5 then letB5 else if d = 6 then letB6 else { data := #[] }
theorem pletters1 (w : World) : Calls Tryz.prog 16 #[.int .i64 1] w fun e w' => e = .returned (.string letB1) ∧ w' = w := by
  have hix : ∀ (x0 x1 x2 x3 x4 x5 x6 : Value) (w : World), (Instr.index 61 (.agg #[x0, x1, x2, x3, x4, x5, x6]) (.int .i64 1)).run Tryz.prog w = .ok x1 w := by intros; rfl
  go_enter Tryz.func16, Tryz.ntmps16
  go_wp2_with (go_at_call 18; refine (pis _ _).mono ?_; rintro _ w2 ⟨rfl, rfl⟩)
  go_ret
  exact ⟨rfl, rfl⟩
theorem rletters1 (w : World) : Calls Tryz.prog 17 #[.int .i64 1] w fun e w' => e = .returned (.string letB1) ∧ w' = w := by
  go_enter Tryz.func17, Tryz.ntmps17
  go_wp2
  go_ret
  exact ⟨rfl, rfl⟩
theorem pletters2 (w : World) : Calls Tryz.prog 16 #[.int .i64 2] w fun e w' => e = .returned (.string letB2) ∧ w' = w := by
  have hix : ∀ (x0 x1 x2 x3 x4 x5 x6 : Value) (w : World), (Instr.index 61 (.agg #[x0, x1, x2, x3, x4, x5, x6]) (.int .i64 2)).run Tryz.prog w = .ok x2 w := by intros; rfl
  go_enter Tryz.func16, Tryz.ntmps16
  go_wp2_with (go_at_call 18; refine (pis _ _).mono ?_; rintro _ w2 ⟨rfl, rfl⟩)
  go_ret
  exact ⟨rfl, rfl⟩
theorem rletters2 (w : World) : Calls Tryz.prog 17 #[.int .i64 2] w fun e w' => e = .returned (.string letB2) ∧ w' = w := by
  go_enter Tryz.func17, Tryz.ntmps17
  go_wp2
  go_ret
  exact ⟨rfl, rfl⟩
theorem pletters3 (w : World) : Calls Tryz.prog 16 #[.int .i64 3] w fun e w' => e = .returned (.string letB3) ∧ w' = w := by
  have hix : ∀ (x0 x1 x2 x3 x4 x5 x6 : Value) (w : World), (Instr.index 61 (.agg #[x0, x1, x2, x3, x4, x5, x6]) (.int .i64 3)).run Tryz.prog w = .ok x3 w := by intros; rfl
  go_enter Tryz.func16, Tryz.ntmps16
  go_wp2_with (go_at_call 18; refine (pis _ _).mono ?_; rintro _ w2 ⟨rfl, rfl⟩)
  go_ret
  exact ⟨rfl, rfl⟩
theorem rletters3 (w : World) : Calls Tryz.prog 17 #[.int .i64 3] w fun e w' => e = .returned (.string letB3) ∧ w' = w := by
  go_enter Tryz.func17, Tryz.ntmps17
  go_wp2
  go_ret
  exact ⟨rfl, rfl⟩
theorem pletters4 (w : World) : Calls Tryz.prog 16 #[.int .i64 4] w fun e w' => e = .returned (.string letB4) ∧ w' = w := by
  have hix : ∀ (x0 x1 x2 x3 x4 x5 x6 : Value) (w : World), (Instr.index 61 (.agg #[x0, x1, x2, x3, x4, x5, x6]) (.int .i64 4)).run Tryz.prog w = .ok x4 w := by intros; rfl
  go_enter Tryz.func16, Tryz.ntmps16
  go_wp2_with (go_at_call 18; refine (pis _ _).mono ?_; rintro _ w2 ⟨rfl, rfl⟩)
  go_ret
  exact ⟨rfl, rfl⟩
theorem rletters4 (w : World) : Calls Tryz.prog 17 #[.int .i64 4] w fun e w' => e = .returned (.string letB4) ∧ w' = w := by
  go_enter Tryz.func17, Tryz.ntmps17
  go_wp2
  go_ret
  exact ⟨rfl, rfl⟩
theorem pletters5 (w : World) : Calls Tryz.prog 16 #[.int .i64 5] w fun e w' => e = .returned (.string letB5) ∧ w' = w := by
  have hix : ∀ (x0 x1 x2 x3 x4 x5 x6 : Value) (w : World), (Instr.index 61 (.agg #[x0, x1, x2, x3, x4, x5, x6]) (.int .i64 5)).run Tryz.prog w = .ok x5 w := by intros; rfl
  go_enter Tryz.func16, Tryz.ntmps16
  go_wp2_with (go_at_call 18; refine (pis _ _).mono ?_; rintro _ w2 ⟨rfl, rfl⟩)
  go_ret
  exact ⟨rfl, rfl⟩
theorem rletters5 (w : World) : Calls Tryz.prog 17 #[.int .i64 5] w fun e w' => e = .returned (.string letB5) ∧ w' = w := by
  go_enter Tryz.func17, Tryz.ntmps17
  go_wp2
  go_ret
  exact ⟨rfl, rfl⟩
theorem pletters6 (w : World) : Calls Tryz.prog 16 #[.int .i64 6] w fun e w' => e = .returned (.string letB6) ∧ w' = w := by
  have hix : ∀ (x0 x1 x2 x3 x4 x5 x6 : Value) (w : World), (Instr.index 61 (.agg #[x0, x1, x2, x3, x4, x5, x6]) (.int .i64 6)).run Tryz.prog w = .ok x6 w := by intros; rfl
  go_enter Tryz.func16, Tryz.ntmps16
  go_wp2_with (go_at_call 18; refine (pis _ _).mono ?_; rintro _ w2 ⟨rfl, rfl⟩)
  go_ret
  exact ⟨rfl, rfl⟩
theorem rletters6 (w : World) : Calls Tryz.prog 17 #[.int .i64 6] w fun e w' => e = .returned (.string letB6) ∧ w' = w := by
  go_enter Tryz.func17, Tryz.ntmps17
  go_wp2
  go_ret
  exact ⟨rfl, rfl⟩
theorem pletters (d : Int) (w : World) : Calls Tryz.prog 16 #[.int .i64 d] w fun e w' => e = .returned (.string (lettersV d)) ∧ w' = w := by
  by_cases q : 1 ≤ d ∧ d ≤ 6
  · rcases (by omega : d = 1 ∨ d = 2 ∨ d = 3 ∨ d = 4 ∨ d = 5 ∨ d = 6) with rfl | rfl | rfl | rfl | rfl | rfl
    · exact pletters1 w
    · exact pletters2 w
    · exact pletters3 w
    · exact pletters4 w
    · exact pletters5 w
    · exact pletters6 w
  · have hq : lettersV d = { data := #[] } := by unfold lettersV; repeat' (first | rfl | (rw [if_neg (by omega)]))
    rw [hq]
    clear hq
    have hn : inB d 1 6 = false := by simp [inB]; omega
    go_enter Tryz.func16, Tryz.ntmps16
    go_wp2_with (go_at_call 18; refine (pis _ _).mono ?_; rintro _ w2 ⟨rfl, rfl⟩)
    go_ret
    exact ⟨rfl, rfl⟩
theorem rletters (d : Int) (w : World) : Calls Tryz.prog 17 #[.int .i64 d] w fun e w' => e = .returned (.string (lettersV d)) ∧ w' = w := by
  by_cases q : 1 ≤ d ∧ d ≤ 6
  · rcases (by omega : d = 1 ∨ d = 2 ∨ d = 3 ∨ d = 4 ∨ d = 5 ∨ d = 6) with rfl | rfl | rfl | rfl | rfl | rfl
    · exact rletters1 w
    · exact rletters2 w
    · exact rletters3 w
    · exact rletters4 w
    · exact rletters5 w
    · exact rletters6 w
  · have hq : lettersV d = { data := #[] } := by unfold lettersV; repeat' (first | rfl | (rw [if_neg (by omega)]))
    rw [hq]
    clear hq
    have t1 : (d == 1) = false := by simp; omega
    have t2 : (d == 2) = false := by simp; omega
    have t3 : (d == 3) = false := by simp; omega
    have t4 : (d == 4) = false := by simp; omega
    have t5 : (d == 5) = false := by simp; omega
    have t6 : (d == 6) = false := by simp; omega
    go_enter Tryz.func17, Tryz.ntmps17
    go_wp2_with (go_at_call 18; refine (pis _ _).mono ?_; rintro _ w2 ⟨rfl, rfl⟩)
    go_ret
    exact ⟨rfl, rfl⟩
def letterR (n : Int) : Int := if n ≤ 10 then 47 + n else 54 + n
theorem rletter (n : Int) (h0 : 1 ≤ n) (h1 : n ≤ 36) (w : World) : Calls Tryz.prog 28 #[.int .i64 n] w fun e w' => e = .returned (.int .u8 (letterR n)) ∧ w' = w := by
  by_cases q : n ≤ 10
  · have hl := Lib.hid (show letterR n = 47 + n by simp [letterR, q])
    go_enter Tryz.func28, Tryz.ntmps28
    go_wp2
    go_ret
    exact ⟨congrArg (fun b => Ending.returned (Value.int .u8 b)) (by rw [hl.out]; omega), rfl⟩
  · have hl := Lib.hid (show letterR n = 54 + n by simp [letterR, q])
    have q' : 10 < n := by omega
    go_enter Tryz.func28, Tryz.ntmps28
    go_wp2
    go_ret
    exact ⟨congrArg (fun b => Ending.returned (Value.int .u8 b)) (by rw [hl.out]; omega), rfl⟩
def hasB (l : List UInt8) (c : Int) : Bool := l.any fun b => (b.toNat : Int) == c
set_option maxHeartbeats 400000 in
theorem rhas (s : ByteArray) (c : Int) (w : World) (hs : s.size ≤ maxLen) :
    Calls Tryz.prog 27 #[.string s, .int .u8 c] w fun e w' => e = .returned (.bool (hasB s.data.toList c)) ∧ w' = w := by
  unfold maxLen at hs
  go_enter Tryz.func27, Tryz.ntmps27
  go_wp2
  go_loop [5] (fun i => ∃ k : Nat, k ≤ s.size ∧ i = .int .i64 k ∧ ∀ j, j < k → ∀ h : j < s.size, ¬ ((s[j].toNat : Int) = c)) (fun i => s.size - (intOf i).toNat)
  case atStart => exact ⟨0, Nat.zero_le _, rfl, fun j hj => absurd hj (Nat.not_lt_zero _)⟩
  case round =>
    obtain ⟨k, hk, rfl, hall⟩ := hrel
    have HA := Lib.hid hall
    clear hall
    by_cases hlt : k < s.size
    · by_cases hq : (s[k].toNat : Int) = c
      · have hqb : ((s[k].toNat : Int) == c) = true := by simpa using hq
        have hr : hasB s.data.toList c = true := by
          unfold hasB
          rw [List.any_eq_true]
          exact ⟨s[k], by show s.data[k] ∈ s.data.toList; simp, hqb⟩
        have HR := Lib.hid hr
        clear hr
        go_wp2
        go_ret
        exact ⟨by rw [HR.out]; rfl, rfl⟩
      · have hqb : ((s[k].toNat : Int) == c) = false := by simpa using hq
        have HQ := Lib.hid hq
        clear hq
        go_wp2
        go_round
        case rel =>
          refine ⟨k + 1, by omega, by go_num, fun j hj hl => ?_⟩
          by_cases e : j < k
          · exact HA.out j e hl
          · obtain rfl : j = k := by omega
            exact HQ.out
        case measure => simp [intOf]; omega
    · have hr : hasB s.data.toList c = false := by
        unfold hasB
        rw [List.any_eq_false]
        intro b hb
        obtain ⟨j, hj, rfl⟩ := List.getElem_of_mem hb
        have hj' : j < s.size := by simpa using hj
        have e2 : ¬ ((s.data.toList[j].toNat : Int) = c) := by
          have := HA.out j (by omega) hj'
          rw [show s.data.toList[j] = s[j] from by simp; rfl]
          exact this
        simpa using e2
      have HR := Lib.hid hr
      clear hr
      go_wp2
      go_ret
      exact ⟨by rw [HR.out]; rfl, rfl⟩
end Go.Proofs.YtappnglfmidjoaaGreat.D
