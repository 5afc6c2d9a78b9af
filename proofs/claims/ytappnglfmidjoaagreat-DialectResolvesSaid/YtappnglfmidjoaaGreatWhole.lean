/- 'whole' of the statement, walked. -/
import Derived.Test.YtappnglfmidjoaaGreatRecall
set_option linter.unusedVariables false
set_option linter.unusedSimpArgs false
namespace Go.Proofs.YtappnglfmidjoaaGreat.D
open Go Go.RowKit Go.Proofs.YtappnglfmidjoaaGreat.DB Go.Great

def rngB (b : UInt8) : Bool := (decide (48 ≤ b.toNat) && decide (b.toNat ≤ 57)) || (decide (65 ≤ b.toNat) && decide (b.toNat ≤ 90))
theorem rng_at {s : ByteArray} (h : s.data.toList.all rngB = true) (k : Nat) (hk : k < s.size) : (48 ≤ (s[k].toNat : Int) ∧ (s[k].toNat : Int) ≤ 57) ∨ (65 ≤ (s[k].toNat : Int) ∧ (s[k].toNat : Int) ≤ 90) := by
  have h1 := List.all_eq_true.1 h s[k] (by show s.data[k] ∈ s.data.toList; simp)
  unfold rngB at h1
  simp only [Bool.or_eq_true, Bool.and_eq_true, decide_eq_true_eq] at h1
  omega
set_option maxHeartbeats 1000000 in
theorem pwhole1 (s : ByteArray) (hs : wl1 = s) (ef : Int) (w : World) (e0 : 0 ≤ ef) (e1 : ef ≤ 36) : Calls Tryz.prog 13 #[.int .i64 1, .int .i64 ef] w fun e w' => e = .returned (.bool (isAny s ef)) ∧ w = w' := by
  have hix : ∀ (x0 x1 x2 x3 x4 x5 x6 : Value) (w : World), (Instr.index 61 (.agg #[x0, x1, x2, x3, x4, x5, x6]) (.int .i64 1)).run Tryz.prog w = .ok x1 w := by intros; rfl
  have hwl : ({ data := #[51, 57] } : ByteArray) = s := hs
  have hsz : s.size ≤ 9223372036854775807 := hs ▸ (by decide)
  have HR := Lib.hid (fun k hk => rng_at (s := s) (hs ▸ (by decide)) k hk)
  clear hs
  go_enter Tryz.func13, Tryz.ntmps13
  go_upto_region 2 with fail
  clear hwl hix
  go_wp2
  go_loop [6] (fun i => ∃ k : Nat, k ≤ s.size ∧ i = .int .i64 k ∧ ∀ j, j < k → ∀ h : j < s.size, ¬ isB (s[j]'h) ef = true) (fun i => s.size - (intOf i).toNat)
  case atStart => exact ⟨0, Nat.zero_le _, rfl, fun j hj => absurd hj (Nat.not_lt_zero _)⟩
  case round =>
    obtain ⟨k, hk, rfl, hall⟩ := hrel
    have HA := Lib.hid hall
    clear hall
    by_cases hlt : k < s.size
    · have hr := HR.out k hlt
      have hm := (show isB (s[k]'hlt) ef = if ((s[k]'hlt).toNat : Int) ≤ 57 then ef == ((s[k]'hlt).toNat : Int) - 48 + 1 else ef == ((s[k]'hlt).toNat : Int) - 65 + 11 from rfl)
      by_cases hq : isB (s[k]'hlt) ef = true
      · have hany : isAny s ef = true := by
          unfold isAny
          rw [List.any_eq_true]
          exact ⟨s[k], by show s.data[k] ∈ s.data.toList; simp, hq⟩
        have HN := Lib.hid hany
        by_cases h57 : ((s[k]'hlt).toNat : Int) ≤ 57
        · rw [if_pos h57, hq] at hm
          have he : ef = ((s[k]'hlt).toNat : Int) - 48 + 1 := by simpa using hm.symm
          have hlo : 48 ≤ ((s[k]'hlt).toNat : Int) := by omega
          clear hany hm hq hr
          generalize hbv : ((s[k]'hlt).toNat : Int) = bv at *
          subst he
          go_wp2
          go_ret
          exact ⟨by rw [HN.out]; rfl, rfl⟩
        · rw [if_neg h57, hq] at hm
          have he : ef = ((s[k]'hlt).toNat : Int) - 65 + 11 := by simpa using hm.symm
          have hlo : 65 ≤ ((s[k]'hlt).toNat : Int) := by omega
          have hhi : ((s[k]'hlt).toNat : Int) ≤ 90 := by omega
          have h57' : 57 < ((s[k]'hlt).toNat : Int) := by omega
          clear hany hm hq hr
          generalize hbv : ((s[k]'hlt).toNat : Int) = bv at *
          subst he
          go_wp2
          go_ret
          exact ⟨by rw [HN.out]; rfl, rfl⟩
      · have hnx : ∀ j, j < k + 1 → ∀ h : j < s.size, ¬ isB (s[j]'h) ef = true := by
          intro j hj h
          by_cases e : j < k
          · exact HA.out j e h
          · obtain rfl : j = k := by omega
            exact hq
        have HX := Lib.hid hnx
        have hq' : isB (s[k]'hlt) ef = false := by simpa using hq
        rw [hq'] at hm
        clear hnx hq hq'
        by_cases h57 : ((s[k]'hlt).toNat : Int) ≤ 57
        · rw [if_pos h57] at hm
          have hlo : 48 ≤ ((s[k]'hlt).toNat : Int) := by omega
          have hm' : (ef == ((s[k]'hlt).toNat : Int) - 48 + 1) = false := hm.symm
          clear hm hr
          generalize hbv : ((s[k]'hlt).toNat : Int) = bv at *
          go_wp2
          go_round
          case rel => exact ⟨k + 1, by omega, by go_num, HX.out⟩
          case measure => simp [intOf]; omega
        · rw [if_neg h57] at hm
          have hlo : 65 ≤ ((s[k]'hlt).toNat : Int) := by omega
          have hhi : ((s[k]'hlt).toNat : Int) ≤ 90 := by omega
          have h57' : 57 < ((s[k]'hlt).toNat : Int) := by omega
          have hm' : (ef == ((s[k]'hlt).toNat : Int) - 65 + 11) = false := hm.symm
          clear hm hr
          generalize hbv : ((s[k]'hlt).toNat : Int) = bv at *
          go_wp2
          go_round
          case rel => exact ⟨k + 1, by omega, by go_num, HX.out⟩
          case measure => simp [intOf]; omega
    · have hany : isAny s ef = false := by
        unfold isAny
        rw [List.any_eq_false]
        intro b hb
        obtain ⟨j, hj, rfl⟩ := List.getElem_of_mem hb
        have hj' : j < s.size := by simpa using hj
        have h2 := HA.out j (by omega) hj'
        rw [show s.data.toList[j] = s[j] from by simp; rfl]
        exact h2
      have HN := Lib.hid hany
      clear hany
      go_wp2
      go_ret
      exact ⟨by rw [HN.out]; rfl, rfl⟩
set_option maxHeartbeats 1000000 in
theorem pwhole2 (s : ByteArray) (hs : wl2 = s) (ef : Int) (w : World) (e0 : 0 ≤ ef) (e1 : ef ≤ 36) : Calls Tryz.prog 13 #[.int .i64 2, .int .i64 ef] w fun e w' => e = .returned (.bool (isAny s ef)) ∧ w = w' := by
  have hix : ∀ (x0 x1 x2 x3 x4 x5 x6 : Value) (w : World), (Instr.index 61 (.agg #[x0, x1, x2, x3, x4, x5, x6]) (.int .i64 2)).run Tryz.prog w = .ok x2 w := by intros; rfl
  have hwl : ({ data := #[68, 69, 70, 71, 73, 74, 75, 76, 79, 81, 82, 83] } : ByteArray) = s := hs
  have hsz : s.size ≤ 9223372036854775807 := hs ▸ (by decide)
  have HR := Lib.hid (fun k hk => rng_at (s := s) (hs ▸ (by decide)) k hk)
  clear hs
  go_enter Tryz.func13, Tryz.ntmps13
  go_upto_region 2 with fail
  clear hwl hix
  go_wp2
  go_loop [6] (fun i => ∃ k : Nat, k ≤ s.size ∧ i = .int .i64 k ∧ ∀ j, j < k → ∀ h : j < s.size, ¬ isB (s[j]'h) ef = true) (fun i => s.size - (intOf i).toNat)
  case atStart => exact ⟨0, Nat.zero_le _, rfl, fun j hj => absurd hj (Nat.not_lt_zero _)⟩
  case round =>
    obtain ⟨k, hk, rfl, hall⟩ := hrel
    have HA := Lib.hid hall
    clear hall
    by_cases hlt : k < s.size
    · have hr := HR.out k hlt
      have hm := (show isB (s[k]'hlt) ef = if ((s[k]'hlt).toNat : Int) ≤ 57 then ef == ((s[k]'hlt).toNat : Int) - 48 + 1 else ef == ((s[k]'hlt).toNat : Int) - 65 + 11 from rfl)
      by_cases hq : isB (s[k]'hlt) ef = true
      · have hany : isAny s ef = true := by
          unfold isAny
          rw [List.any_eq_true]
          exact ⟨s[k], by show s.data[k] ∈ s.data.toList; simp, hq⟩
        have HN := Lib.hid hany
        by_cases h57 : ((s[k]'hlt).toNat : Int) ≤ 57
        · rw [if_pos h57, hq] at hm
          have he : ef = ((s[k]'hlt).toNat : Int) - 48 + 1 := by simpa using hm.symm
          have hlo : 48 ≤ ((s[k]'hlt).toNat : Int) := by omega
          clear hany hm hq hr
          generalize hbv : ((s[k]'hlt).toNat : Int) = bv at *
          subst he
          go_wp2
          go_ret
          exact ⟨by rw [HN.out]; rfl, rfl⟩
        · rw [if_neg h57, hq] at hm
          have he : ef = ((s[k]'hlt).toNat : Int) - 65 + 11 := by simpa using hm.symm
          have hlo : 65 ≤ ((s[k]'hlt).toNat : Int) := by omega
          have hhi : ((s[k]'hlt).toNat : Int) ≤ 90 := by omega
          have h57' : 57 < ((s[k]'hlt).toNat : Int) := by omega
          clear hany hm hq hr
          generalize hbv : ((s[k]'hlt).toNat : Int) = bv at *
          subst he
          go_wp2
          go_ret
          exact ⟨by rw [HN.out]; rfl, rfl⟩
      · have hnx : ∀ j, j < k + 1 → ∀ h : j < s.size, ¬ isB (s[j]'h) ef = true := by
          intro j hj h
          by_cases e : j < k
          · exact HA.out j e h
          · obtain rfl : j = k := by omega
            exact hq
        have HX := Lib.hid hnx
        have hq' : isB (s[k]'hlt) ef = false := by simpa using hq
        rw [hq'] at hm
        clear hnx hq hq'
        by_cases h57 : ((s[k]'hlt).toNat : Int) ≤ 57
        · rw [if_pos h57] at hm
          have hlo : 48 ≤ ((s[k]'hlt).toNat : Int) := by omega
          have hm' : (ef == ((s[k]'hlt).toNat : Int) - 48 + 1) = false := hm.symm
          clear hm hr
          generalize hbv : ((s[k]'hlt).toNat : Int) = bv at *
          go_wp2
          go_round
          case rel => exact ⟨k + 1, by omega, by go_num, HX.out⟩
          case measure => simp [intOf]; omega
        · rw [if_neg h57] at hm
          have hlo : 65 ≤ ((s[k]'hlt).toNat : Int) := by omega
          have hhi : ((s[k]'hlt).toNat : Int) ≤ 90 := by omega
          have h57' : 57 < ((s[k]'hlt).toNat : Int) := by omega
          have hm' : (ef == ((s[k]'hlt).toNat : Int) - 65 + 11) = false := hm.symm
          clear hm hr
          generalize hbv : ((s[k]'hlt).toNat : Int) = bv at *
          go_wp2
          go_round
          case rel => exact ⟨k + 1, by omega, by go_num, HX.out⟩
          case measure => simp [intOf]; omega
    · have hany : isAny s ef = false := by
        unfold isAny
        rw [List.any_eq_false]
        intro b hb
        obtain ⟨j, hj, rfl⟩ := List.getElem_of_mem hb
        have hj' : j < s.size := by simpa using hj
        have h2 := HA.out j (by omega) hj'
        rw [show s.data.toList[j] = s[j] from by simp; rfl]
        exact h2
      have HN := Lib.hid hany
      clear hany
      go_wp2
      go_ret
      exact ⟨by rw [HN.out]; rfl, rfl⟩
set_option maxHeartbeats 1000000 in
theorem pwhole3 (s : ByteArray) (hs : wl3 = s) (ef : Int) (w : World) (e0 : 0 ≤ ef) (e1 : ef ≤ 36) : Calls Tryz.prog 13 #[.int .i64 3, .int .i64 ef] w fun e w' => e = .returned (.bool (isAny s ef)) ∧ w = w' := by
  have hix : ∀ (x0 x1 x2 x3 x4 x5 x6 : Value) (w : World), (Instr.index 61 (.agg #[x0, x1, x2, x3, x4, x5, x6]) (.int .i64 3)).run Tryz.prog w = .ok x3 w := by intros; rfl
  have hwl : ({ data := #[49, 50, 51, 53, 54, 57, 65, 72, 80, 84] } : ByteArray) = s := hs
  have hsz : s.size ≤ 9223372036854775807 := hs ▸ (by decide)
  have HR := Lib.hid (fun k hk => rng_at (s := s) (hs ▸ (by decide)) k hk)
  clear hs
  go_enter Tryz.func13, Tryz.ntmps13
  go_upto_region 2 with fail
  clear hwl hix
  go_wp2
  go_loop [6] (fun i => ∃ k : Nat, k ≤ s.size ∧ i = .int .i64 k ∧ ∀ j, j < k → ∀ h : j < s.size, ¬ isB (s[j]'h) ef = true) (fun i => s.size - (intOf i).toNat)
  case atStart => exact ⟨0, Nat.zero_le _, rfl, fun j hj => absurd hj (Nat.not_lt_zero _)⟩
  case round =>
    obtain ⟨k, hk, rfl, hall⟩ := hrel
    have HA := Lib.hid hall
    clear hall
    by_cases hlt : k < s.size
    · have hr := HR.out k hlt
      have hm := (show isB (s[k]'hlt) ef = if ((s[k]'hlt).toNat : Int) ≤ 57 then ef == ((s[k]'hlt).toNat : Int) - 48 + 1 else ef == ((s[k]'hlt).toNat : Int) - 65 + 11 from rfl)
      by_cases hq : isB (s[k]'hlt) ef = true
      · have hany : isAny s ef = true := by
          unfold isAny
          rw [List.any_eq_true]
          exact ⟨s[k], by show s.data[k] ∈ s.data.toList; simp, hq⟩
        have HN := Lib.hid hany
        by_cases h57 : ((s[k]'hlt).toNat : Int) ≤ 57
        · rw [if_pos h57, hq] at hm
          have he : ef = ((s[k]'hlt).toNat : Int) - 48 + 1 := by simpa using hm.symm
          have hlo : 48 ≤ ((s[k]'hlt).toNat : Int) := by omega
          clear hany hm hq hr
          generalize hbv : ((s[k]'hlt).toNat : Int) = bv at *
          subst he
          go_wp2
          go_ret
          exact ⟨by rw [HN.out]; rfl, rfl⟩
        · rw [if_neg h57, hq] at hm
          have he : ef = ((s[k]'hlt).toNat : Int) - 65 + 11 := by simpa using hm.symm
          have hlo : 65 ≤ ((s[k]'hlt).toNat : Int) := by omega
          have hhi : ((s[k]'hlt).toNat : Int) ≤ 90 := by omega
          have h57' : 57 < ((s[k]'hlt).toNat : Int) := by omega
          clear hany hm hq hr
          generalize hbv : ((s[k]'hlt).toNat : Int) = bv at *
          subst he
          go_wp2
          go_ret
          exact ⟨by rw [HN.out]; rfl, rfl⟩
      · have hnx : ∀ j, j < k + 1 → ∀ h : j < s.size, ¬ isB (s[j]'h) ef = true := by
          intro j hj h
          by_cases e : j < k
          · exact HA.out j e h
          · obtain rfl : j = k := by omega
            exact hq
        have HX := Lib.hid hnx
        have hq' : isB (s[k]'hlt) ef = false := by simpa using hq
        rw [hq'] at hm
        clear hnx hq hq'
        by_cases h57 : ((s[k]'hlt).toNat : Int) ≤ 57
        · rw [if_pos h57] at hm
          have hlo : 48 ≤ ((s[k]'hlt).toNat : Int) := by omega
          have hm' : (ef == ((s[k]'hlt).toNat : Int) - 48 + 1) = false := hm.symm
          clear hm hr
          generalize hbv : ((s[k]'hlt).toNat : Int) = bv at *
          go_wp2
          go_round
          case rel => exact ⟨k + 1, by omega, by go_num, HX.out⟩
          case measure => simp [intOf]; omega
        · rw [if_neg h57] at hm
          have hlo : 65 ≤ ((s[k]'hlt).toNat : Int) := by omega
          have hhi : ((s[k]'hlt).toNat : Int) ≤ 90 := by omega
          have h57' : 57 < ((s[k]'hlt).toNat : Int) := by omega
          have hm' : (ef == ((s[k]'hlt).toNat : Int) - 65 + 11) = false := hm.symm
          clear hm hr
          generalize hbv : ((s[k]'hlt).toNat : Int) = bv at *
          go_wp2
          go_round
          case rel => exact ⟨k + 1, by omega, by go_num, HX.out⟩
          case measure => simp [intOf]; omega
    · have hany : isAny s ef = false := by
        unfold isAny
        rw [List.any_eq_false]
        intro b hb
        obtain ⟨j, hj, rfl⟩ := List.getElem_of_mem hb
        have hj' : j < s.size := by simpa using hj
        have h2 := HA.out j (by omega) hj'
        rw [show s.data.toList[j] = s[j] from by simp; rfl]
        exact h2
      have HN := Lib.hid hany
      clear hany
      go_wp2
      go_ret
      exact ⟨by rw [HN.out]; rfl, rfl⟩
set_option maxHeartbeats 1000000 in
theorem pwhole4 (s : ByteArray) (hs : wl4 = s) (ef : Int) (w : World) (e0 : 0 ≤ ef) (e1 : ef ≤ 36) : Calls Tryz.prog 13 #[.int .i64 4, .int .i64 ef] w fun e w' => e = .returned (.bool (isAny s ef)) ∧ w = w' := by
  have hix : ∀ (x0 x1 x2 x3 x4 x5 x6 : Value) (w : World), (Instr.index 61 (.agg #[x0, x1, x2, x3, x4, x5, x6]) (.int .i64 4)).run Tryz.prog w = .ok x4 w := by intros; rfl
  have hwl : ({ data := #[68, 69, 70, 71, 73, 74, 75, 76, 78, 79, 80, 81, 83, 84, 87] } : ByteArray) = s := hs
  have hsz : s.size ≤ 9223372036854775807 := hs ▸ (by decide)
  have HR := Lib.hid (fun k hk => rng_at (s := s) (hs ▸ (by decide)) k hk)
  clear hs
  go_enter Tryz.func13, Tryz.ntmps13
  go_upto_region 2 with fail
  clear hwl hix
  go_wp2
  go_loop [6] (fun i => ∃ k : Nat, k ≤ s.size ∧ i = .int .i64 k ∧ ∀ j, j < k → ∀ h : j < s.size, ¬ isB (s[j]'h) ef = true) (fun i => s.size - (intOf i).toNat)
  case atStart => exact ⟨0, Nat.zero_le _, rfl, fun j hj => absurd hj (Nat.not_lt_zero _)⟩
  case round =>
    obtain ⟨k, hk, rfl, hall⟩ := hrel
    have HA := Lib.hid hall
    clear hall
    by_cases hlt : k < s.size
    · have hr := HR.out k hlt
      have hm := (show isB (s[k]'hlt) ef = if ((s[k]'hlt).toNat : Int) ≤ 57 then ef == ((s[k]'hlt).toNat : Int) - 48 + 1 else ef == ((s[k]'hlt).toNat : Int) - 65 + 11 from rfl)
      by_cases hq : isB (s[k]'hlt) ef = true
      · have hany : isAny s ef = true := by
          unfold isAny
          rw [List.any_eq_true]
          exact ⟨s[k], by show s.data[k] ∈ s.data.toList; simp, hq⟩
        have HN := Lib.hid hany
        by_cases h57 : ((s[k]'hlt).toNat : Int) ≤ 57
        · rw [if_pos h57, hq] at hm
          have he : ef = ((s[k]'hlt).toNat : Int) - 48 + 1 := by simpa using hm.symm
          have hlo : 48 ≤ ((s[k]'hlt).toNat : Int) := by omega
          clear hany hm hq hr
          generalize hbv : ((s[k]'hlt).toNat : Int) = bv at *
          subst he
          go_wp2
          go_ret
          exact ⟨by rw [HN.out]; rfl, rfl⟩
        · rw [if_neg h57, hq] at hm
          have he : ef = ((s[k]'hlt).toNat : Int) - 65 + 11 := by simpa using hm.symm
          have hlo : 65 ≤ ((s[k]'hlt).toNat : Int) := by omega
          have hhi : ((s[k]'hlt).toNat : Int) ≤ 90 := by omega
          have h57' : 57 < ((s[k]'hlt).toNat : Int) := by omega
          clear hany hm hq hr
          generalize hbv : ((s[k]'hlt).toNat : Int) = bv at *
          subst he
          go_wp2
          go_ret
          exact ⟨by rw [HN.out]; rfl, rfl⟩
      · have hnx : ∀ j, j < k + 1 → ∀ h : j < s.size, ¬ isB (s[j]'h) ef = true := by
          intro j hj h
          by_cases e : j < k
          · exact HA.out j e h
          · obtain rfl : j = k := by omega
            exact hq
        have HX := Lib.hid hnx
        have hq' : isB (s[k]'hlt) ef = false := by simpa using hq
        rw [hq'] at hm
        clear hnx hq hq'
        by_cases h57 : ((s[k]'hlt).toNat : Int) ≤ 57
        · rw [if_pos h57] at hm
          have hlo : 48 ≤ ((s[k]'hlt).toNat : Int) := by omega
          have hm' : (ef == ((s[k]'hlt).toNat : Int) - 48 + 1) = false := hm.symm
          clear hm hr
          generalize hbv : ((s[k]'hlt).toNat : Int) = bv at *
          go_wp2
          go_round
          case rel => exact ⟨k + 1, by omega, by go_num, HX.out⟩
          case measure => simp [intOf]; omega
        · rw [if_neg h57] at hm
          have hlo : 65 ≤ ((s[k]'hlt).toNat : Int) := by omega
          have hhi : ((s[k]'hlt).toNat : Int) ≤ 90 := by omega
          have h57' : 57 < ((s[k]'hlt).toNat : Int) := by omega
          have hm' : (ef == ((s[k]'hlt).toNat : Int) - 65 + 11) = false := hm.symm
          clear hm hr
          generalize hbv : ((s[k]'hlt).toNat : Int) = bv at *
          go_wp2
          go_round
          case rel => exact ⟨k + 1, by omega, by go_num, HX.out⟩
          case measure => simp [intOf]; omega
    · have hany : isAny s ef = false := by
        unfold isAny
        rw [List.any_eq_false]
        intro b hb
        obtain ⟨j, hj, rfl⟩ := List.getElem_of_mem hb
        have hj' : j < s.size := by simpa using hj
        have h2 := HA.out j (by omega) hj'
        rw [show s.data.toList[j] = s[j] from by simp; rfl]
        exact h2
      have HN := Lib.hid hany
      clear hany
      go_wp2
      go_ret
      exact ⟨by rw [HN.out]; rfl, rfl⟩
set_option maxHeartbeats 1000000 in
theorem pwhole5 (s : ByteArray) (hs : wl5 = s) (ef : Int) (w : World) (e0 : 0 ≤ ef) (e1 : ef ≤ 36) : Calls Tryz.prog 13 #[.int .i64 5, .int .i64 ef] w fun e w' => e = .returned (.bool (isAny s ef)) ∧ w = w' := by
  have hix : ∀ (x0 x1 x2 x3 x4 x5 x6 : Value) (w : World), (Instr.index 61 (.agg #[x0, x1, x2, x3, x4, x5, x6]) (.int .i64 5)).run Tryz.prog w = .ok x5 w := by intros; rfl
  have hwl : ({ data := #[] } : ByteArray) = s := hs
  have hsz : s.size ≤ 9223372036854775807 := hs ▸ (by decide)
  obtain rfl : wl5 = s := hs
  have hn : isAny wl5 ef = false := rfl
  rw [hn]
  clear hn hwl hsz
  go_enter Tryz.func13, Tryz.ntmps13
  go_wp2
  go_loop [6] (fun i => i = .int .i64 0) (fun i => 0)
  case atStart => rfl
  case round =>
    obtain rfl := hrel
    go_wp2
    go_ret
    exact ⟨rfl, rfl⟩
set_option maxHeartbeats 1000000 in
theorem pwhole6 (s : ByteArray) (hs : wl6 = s) (ef : Int) (w : World) (e0 : 0 ≤ ef) (e1 : ef ≤ 36) : Calls Tryz.prog 13 #[.int .i64 6, .int .i64 ef] w fun e w' => e = .returned (.bool (isAny s ef)) ∧ w = w' := by
  have hix : ∀ (x0 x1 x2 x3 x4 x5 x6 : Value) (w : World), (Instr.index 61 (.agg #[x0, x1, x2, x3, x4, x5, x6]) (.int .i64 6)).run Tryz.prog w = .ok x6 w := by intros; rfl
  have hwl : ({ data := #[49, 50, 51, 65] } : ByteArray) = s := hs
  have hsz : s.size ≤ 9223372036854775807 := hs ▸ (by decide)
  have HR := Lib.hid (fun k hk => rng_at (s := s) (hs ▸ (by decide)) k hk)
  clear hs
  go_enter Tryz.func13, Tryz.ntmps13
  go_upto_region 2 with fail
  clear hwl hix
  go_wp2
  go_loop [6] (fun i => ∃ k : Nat, k ≤ s.size ∧ i = .int .i64 k ∧ ∀ j, j < k → ∀ h : j < s.size, ¬ isB (s[j]'h) ef = true) (fun i => s.size - (intOf i).toNat)
  case atStart => exact ⟨0, Nat.zero_le _, rfl, fun j hj => absurd hj (Nat.not_lt_zero _)⟩
  case round =>
    obtain ⟨k, hk, rfl, hall⟩ := hrel
    have HA := Lib.hid hall
    clear hall
    by_cases hlt : k < s.size
    · have hr := HR.out k hlt
      have hm := (show isB (s[k]'hlt) ef = if ((s[k]'hlt).toNat : Int) ≤ 57 then ef == ((s[k]'hlt).toNat : Int) - 48 + 1 else ef == ((s[k]'hlt).toNat : Int) - 65 + 11 from rfl)
      by_cases hq : isB (s[k]'hlt) ef = true
      · have hany : isAny s ef = true := by
          unfold isAny
          rw [List.any_eq_true]
          exact ⟨s[k], by show s.data[k] ∈ s.data.toList; simp, hq⟩
        have HN := Lib.hid hany
        by_cases h57 : ((s[k]'hlt).toNat : Int) ≤ 57
        · rw [if_pos h57, hq] at hm
          have he : ef = ((s[k]'hlt).toNat : Int) - 48 + 1 := by simpa using hm.symm
          have hlo : 48 ≤ ((s[k]'hlt).toNat : Int) := by omega
          clear hany hm hq hr
          generalize hbv : ((s[k]'hlt).toNat : Int) = bv at *
          subst he
          go_wp2
          go_ret
          exact ⟨by rw [HN.out]; rfl, rfl⟩
        · rw [if_neg h57, hq] at hm
          have he : ef = ((s[k]'hlt).toNat : Int) - 65 + 11 := by simpa using hm.symm
          have hlo : 65 ≤ ((s[k]'hlt).toNat : Int) := by omega
          have hhi : ((s[k]'hlt).toNat : Int) ≤ 90 := by omega
          have h57' : 57 < ((s[k]'hlt).toNat : Int) := by omega
          clear hany hm hq hr
          generalize hbv : ((s[k]'hlt).toNat : Int) = bv at *
          subst he
          go_wp2
          go_ret
          exact ⟨by rw [HN.out]; rfl, rfl⟩
      · have hnx : ∀ j, j < k + 1 → ∀ h : j < s.size, ¬ isB (s[j]'h) ef = true := by
          intro j hj h
          by_cases e : j < k
          · exact HA.out j e h
          · obtain rfl : j = k := by omega
            exact hq
        have HX := Lib.hid hnx
        have hq' : isB (s[k]'hlt) ef = false := by simpa using hq
        rw [hq'] at hm
        clear hnx hq hq'
        by_cases h57 : ((s[k]'hlt).toNat : Int) ≤ 57
        · rw [if_pos h57] at hm
          have hlo : 48 ≤ ((s[k]'hlt).toNat : Int) := by omega
          have hm' : (ef == ((s[k]'hlt).toNat : Int) - 48 + 1) = false := hm.symm
          clear hm hr
          generalize hbv : ((s[k]'hlt).toNat : Int) = bv at *
          go_wp2
          go_round
          case rel => exact ⟨k + 1, by omega, by go_num, HX.out⟩
          case measure => simp [intOf]; omega
        · rw [if_neg h57] at hm
          have hlo : 65 ≤ ((s[k]'hlt).toNat : Int) := by omega
          have hhi : ((s[k]'hlt).toNat : Int) ≤ 90 := by omega
          have h57' : 57 < ((s[k]'hlt).toNat : Int) := by omega
          have hm' : (ef == ((s[k]'hlt).toNat : Int) - 65 + 11) = false := hm.symm
          clear hm hr
          generalize hbv : ((s[k]'hlt).toNat : Int) = bv at *
          go_wp2
          go_round
          case rel => exact ⟨k + 1, by omega, by go_num, HX.out⟩
          case measure => simp [intOf]; omega
    · have hany : isAny s ef = false := by
        unfold isAny
        rw [List.any_eq_false]
        intro b hb
        obtain ⟨j, hj, rfl⟩ := List.getElem_of_mem hb
        have hj' : j < s.size := by simpa using hj
        have h2 := HA.out j (by omega) hj'
        rw [show s.data.toList[j] = s[j] from by simp; rfl]
        exact h2
      have HN := Lib.hid hany
      clear hany
      go_wp2
      go_ret
      exact ⟨by rw [HN.out]; rfl, rfl⟩
theorem wb1 (ef : Int) (e0 : 0 ≤ ef) (e1 : ef ≤ 36) : isAny wl1 ef = wholeB 1 ef := by
  obtain ⟨n, rfl⟩ : ∃ n : Nat, ef = n := ⟨ef.toNat, by omega⟩
  have hn : n < 37 := by omega
  clear e0 e1
  revert n
  decide
theorem wb2 (ef : Int) (e0 : 0 ≤ ef) (e1 : ef ≤ 36) : isAny wl2 ef = wholeB 2 ef := by
  obtain ⟨n, rfl⟩ : ∃ n : Nat, ef = n := ⟨ef.toNat, by omega⟩
  have hn : n < 37 := by omega
  clear e0 e1
  revert n
  decide
theorem wb3 (ef : Int) (e0 : 0 ≤ ef) (e1 : ef ≤ 36) : isAny wl3 ef = wholeB 3 ef := by
  obtain ⟨n, rfl⟩ : ∃ n : Nat, ef = n := ⟨ef.toNat, by omega⟩
  have hn : n < 37 := by omega
  clear e0 e1
  revert n
  decide
theorem wb4 (ef : Int) (e0 : 0 ≤ ef) (e1 : ef ≤ 36) : isAny wl4 ef = wholeB 4 ef := by
  obtain ⟨n, rfl⟩ : ∃ n : Nat, ef = n := ⟨ef.toNat, by omega⟩
  have hn : n < 37 := by omega
  clear e0 e1
  revert n
  decide
theorem wb5 (ef : Int) (e0 : 0 ≤ ef) (e1 : ef ≤ 36) : isAny wl5 ef = wholeB 5 ef := by
  obtain ⟨n, rfl⟩ : ∃ n : Nat, ef = n := ⟨ef.toNat, by omega⟩
  have hn : n < 37 := by omega
  clear e0 e1
  revert n
  decide
theorem wb6 (ef : Int) (e0 : 0 ≤ ef) (e1 : ef ≤ 36) : isAny wl6 ef = wholeB 6 ef := by
  obtain ⟨n, rfl⟩ : ∃ n : Nat, ef = n := ⟨ef.toNat, by omega⟩
  have hn : n < 37 := by omega
  clear e0 e1
  revert n
  decide
theorem lawWhole (d ef : Int) (w : World) (d0 : 1 ≤ d) (d1 : d ≤ 6) (e0 : 0 ≤ ef) (e1 : ef ≤ 36) : Calls Tryz.prog 13 #[.int .i64 d, .int .i64 ef] w fun e w' => e = .returned (.bool (wholeB d ef)) ∧ w = w' := by
  rcases (by omega : d = 1 ∨ d = 2 ∨ d = 3 ∨ d = 4 ∨ d = 5 ∨ d = 6) with rfl | rfl | rfl | rfl | rfl | rfl
  · rw [← wb1 ef e0 e1]; exact pwhole1 _ rfl ef w e0 e1
  · rw [← wb2 ef e0 e1]; exact pwhole2 _ rfl ef w e0 e1
  · rw [← wb3 ef e0 e1]; exact pwhole3 _ rfl ef w e0 e1
  · rw [← wb4 ef e0 e1]; exact pwhole4 _ rfl ef w e0 e1
  · rw [← wb5 ef e0 e1]; exact pwhole5 _ rfl ef w e0 e1
  · rw [← wb6 ef e0 e1]; exact pwhole6 _ rfl ef w e0 e1
end Go.Proofs.YtappnglfmidjoaaGreat.D
