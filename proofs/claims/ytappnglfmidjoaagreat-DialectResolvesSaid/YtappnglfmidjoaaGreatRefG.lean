/- The reference: effect, by dialect and number. -/
import Derived.Test.YtappnglfmidjoaaGreatRefE
import Derived.Test.YtappnglfmidjoaaGreatTab
set_option linter.unusedVariables false
set_option linter.unusedSimpArgs false
namespace Go.Proofs.YtappnglfmidjoaaGreat.D
open Go Go.RowKit Go.Proofs.YtappnglfmidjoaaGreat.DB

theorem rletter_v {n c : Int} (h0 : 1 ≤ n) (h1 : n ≤ 36) (h : letterR n = c) (w : World) : Calls Tryz.prog 28 #[.int .i64 n] w fun e w' => e = .returned (.int .u8 c) ∧ w = w' :=
  (rletter n h0 h1 w).mono fun _ _ ⟨h2, h3⟩ => ⟨h ▸ h2, h3.symm⟩
/-- What a cell's effect does in the reference, if the dialect has it. -/
def hasL (d : Int) (c : Int) : Bool := hasB (lettersV d).data.toList c
theorem has_or {l : List UInt8} {c : Int} (h : hasB l c = true) : ∃ b, b ∈ l ∧ (b.toNat : Int) = c := by
  unfold hasB at h
  rw [List.any_eq_true] at h
  obtain ⟨b, hb, h⟩ := h
  exact ⟨b, hb, by simpa using h⟩
theorem has_2 {c : Int} (h : hasL 2 c = true) : c = 65 ∨ c = 66 ∨ c = 67 ∨ c = 68 ∨ c = 69 ∨ c = 70 ∨ c = 71 ∨ c = 72 ∨ c = 73 ∨ c = 74 ∨ c = 75 ∨ c = 76 ∨ c = 79 ∨ c = 81 ∨ c = 82 ∨ c = 84 ∨ c = 85 ∨ c = 86 ∨ c = 83 ∨ c = 88 := by
  obtain ⟨b, hb, rfl⟩ := has_or h
  have hb2 : b ∈ [(65 : UInt8), (66 : UInt8), (67 : UInt8), (68 : UInt8), (69 : UInt8), (70 : UInt8), (71 : UInt8), (72 : UInt8), (73 : UInt8), (74 : UInt8), (75 : UInt8), (76 : UInt8), (79 : UInt8), (81 : UInt8), (82 : UInt8), (83 : UInt8), (84 : UInt8), (85 : UInt8), (86 : UInt8), (88 : UInt8)] := hb
  simp only [List.mem_cons, List.not_mem_nil, or_false] at hb2
  rcases hb2 with rfl | rfl | rfl | rfl | rfl | rfl | rfl | rfl | rfl | rfl | rfl | rfl | rfl | rfl | rfl | rfl | rfl | rfl | rfl | rfl
  · exact .inl rfl
  · exact .inr (.inl rfl)
  · exact .inr (.inr (.inl rfl))
  · exact .inr (.inr (.inr (.inl rfl)))
  · exact .inr (.inr (.inr (.inr (.inl rfl))))
  · exact .inr (.inr (.inr (.inr (.inr (.inl rfl)))))
  · exact .inr (.inr (.inr (.inr (.inr (.inr (.inl rfl))))))
  · exact .inr (.inr (.inr (.inr (.inr (.inr (.inr (.inl rfl)))))))
  · exact .inr (.inr (.inr (.inr (.inr (.inr (.inr (.inr (.inl rfl))))))))
  · exact .inr (.inr (.inr (.inr (.inr (.inr (.inr (.inr (.inr (.inl rfl)))))))))
  · exact .inr (.inr (.inr (.inr (.inr (.inr (.inr (.inr (.inr (.inr (.inl rfl))))))))))
  · exact .inr (.inr (.inr (.inr (.inr (.inr (.inr (.inr (.inr (.inr (.inr (.inl rfl)))))))))))
  · exact .inr (.inr (.inr (.inr (.inr (.inr (.inr (.inr (.inr (.inr (.inr (.inr (.inl rfl))))))))))))
  · exact .inr (.inr (.inr (.inr (.inr (.inr (.inr (.inr (.inr (.inr (.inr (.inr (.inr (.inl rfl)))))))))))))
  · exact .inr (.inr (.inr (.inr (.inr (.inr (.inr (.inr (.inr (.inr (.inr (.inr (.inr (.inr (.inl rfl))))))))))))))
  · exact .inr (.inr (.inr (.inr (.inr (.inr (.inr (.inr (.inr (.inr (.inr (.inr (.inr (.inr (.inr (.inr (.inr (.inr (.inl rfl))))))))))))))))))
  · exact .inr (.inr (.inr (.inr (.inr (.inr (.inr (.inr (.inr (.inr (.inr (.inr (.inr (.inr (.inr (.inl rfl)))))))))))))))
  · exact .inr (.inr (.inr (.inr (.inr (.inr (.inr (.inr (.inr (.inr (.inr (.inr (.inr (.inr (.inr (.inr (.inl rfl))))))))))))))))
  · exact .inr (.inr (.inr (.inr (.inr (.inr (.inr (.inr (.inr (.inr (.inr (.inr (.inr (.inr (.inr (.inr (.inr (.inl rfl)))))))))))))))))
  · exact .inr (.inr (.inr (.inr (.inr (.inr (.inr (.inr (.inr (.inr (.inr (.inr (.inr (.inr (.inr (.inr (.inr (.inr (.inr (rfl)))))))))))))))))))
theorem has_3 {c : Int} (h : hasL 3 c = true) : c = 48 ∨ c = 49 ∨ c = 50 ∨ c = 51 ∨ c = 52 ∨ c = 53 ∨ c = 54 ∨ c = 55 ∨ c = 56 ∨ c = 57 ∨ c = 65 ∨ c = 66 ∨ c = 67 ∨ c = 68 ∨ c = 70 ∨ c = 71 ∨ c = 72 ∨ c = 75 ∨ c = 76 ∨ c = 80 ∨ c = 82 ∨ c = 84 ∨ c = 69 ∨ c = 88 := by
  obtain ⟨b, hb, rfl⟩ := has_or h
  have hb2 : b ∈ [(48 : UInt8), (49 : UInt8), (50 : UInt8), (51 : UInt8), (52 : UInt8), (53 : UInt8), (54 : UInt8), (55 : UInt8), (56 : UInt8), (57 : UInt8), (65 : UInt8), (66 : UInt8), (67 : UInt8), (68 : UInt8), (69 : UInt8), (70 : UInt8), (71 : UInt8), (72 : UInt8), (75 : UInt8), (76 : UInt8), (80 : UInt8), (82 : UInt8), (84 : UInt8), (88 : UInt8)] := hb
  simp only [List.mem_cons, List.not_mem_nil, or_false] at hb2
  rcases hb2 with rfl | rfl | rfl | rfl | rfl | rfl | rfl | rfl | rfl | rfl | rfl | rfl | rfl | rfl | rfl | rfl | rfl | rfl | rfl | rfl | rfl | rfl | rfl | rfl
  · exact .inl rfl
  · exact .inr (.inl rfl)
  · exact .inr (.inr (.inl rfl))
  · exact .inr (.inr (.inr (.inl rfl)))
  · exact .inr (.inr (.inr (.inr (.inl rfl))))
  · exact .inr (.inr (.inr (.inr (.inr (.inl rfl)))))
  · exact .inr (.inr (.inr (.inr (.inr (.inr (.inl rfl))))))
  · exact .inr (.inr (.inr (.inr (.inr (.inr (.inr (.inl rfl)))))))
  · exact .inr (.inr (.inr (.inr (.inr (.inr (.inr (.inr (.inl rfl))))))))
  · exact .inr (.inr (.inr (.inr (.inr (.inr (.inr (.inr (.inr (.inl rfl)))))))))
  · exact .inr (.inr (.inr (.inr (.inr (.inr (.inr (.inr (.inr (.inr (.inl rfl))))))))))
  · exact .inr (.inr (.inr (.inr (.inr (.inr (.inr (.inr (.inr (.inr (.inr (.inl rfl)))))))))))
  · exact .inr (.inr (.inr (.inr (.inr (.inr (.inr (.inr (.inr (.inr (.inr (.inr (.inl rfl))))))))))))
  · exact .inr (.inr (.inr (.inr (.inr (.inr (.inr (.inr (.inr (.inr (.inr (.inr (.inr (.inl rfl)))))))))))))
  · exact .inr (.inr (.inr (.inr (.inr (.inr (.inr (.inr (.inr (.inr (.inr (.inr (.inr (.inr (.inr (.inr (.inr (.inr (.inr (.inr (.inr (.inr (.inl rfl))))))))))))))))))))))
  · exact .inr (.inr (.inr (.inr (.inr (.inr (.inr (.inr (.inr (.inr (.inr (.inr (.inr (.inr (.inl rfl))))))))))))))
  · exact .inr (.inr (.inr (.inr (.inr (.inr (.inr (.inr (.inr (.inr (.inr (.inr (.inr (.inr (.inr (.inl rfl)))))))))))))))
  · exact .inr (.inr (.inr (.inr (.inr (.inr (.inr (.inr (.inr (.inr (.inr (.inr (.inr (.inr (.inr (.inr (.inl rfl))))))))))))))))
  · exact .inr (.inr (.inr (.inr (.inr (.inr (.inr (.inr (.inr (.inr (.inr (.inr (.inr (.inr (.inr (.inr (.inr (.inl rfl)))))))))))))))))
  · exact .inr (.inr (.inr (.inr (.inr (.inr (.inr (.inr (.inr (.inr (.inr (.inr (.inr (.inr (.inr (.inr (.inr (.inr (.inl rfl))))))))))))))))))
  · exact .inr (.inr (.inr (.inr (.inr (.inr (.inr (.inr (.inr (.inr (.inr (.inr (.inr (.inr (.inr (.inr (.inr (.inr (.inr (.inl rfl)))))))))))))))))))
  · exact .inr (.inr (.inr (.inr (.inr (.inr (.inr (.inr (.inr (.inr (.inr (.inr (.inr (.inr (.inr (.inr (.inr (.inr (.inr (.inr (.inl rfl))))))))))))))))))))
  · exact .inr (.inr (.inr (.inr (.inr (.inr (.inr (.inr (.inr (.inr (.inr (.inr (.inr (.inr (.inr (.inr (.inr (.inr (.inr (.inr (.inr (.inl rfl)))))))))))))))))))))
  · exact .inr (.inr (.inr (.inr (.inr (.inr (.inr (.inr (.inr (.inr (.inr (.inr (.inr (.inr (.inr (.inr (.inr (.inr (.inr (.inr (.inr (.inr (.inr (rfl)))))))))))))))))))))))
theorem has_4 {c : Int} (h : hasL 4 c = true) : c = 65 ∨ c = 66 ∨ c = 67 ∨ c = 68 ∨ c = 69 ∨ c = 70 ∨ c = 71 ∨ c = 72 ∨ c = 73 ∨ c = 74 ∨ c = 75 ∨ c = 76 ∨ c = 77 ∨ c = 78 ∨ c = 79 ∨ c = 80 ∨ c = 81 ∨ c = 82 ∨ c = 83 ∨ c = 84 ∨ c = 85 ∨ c = 86 ∨ c = 87 ∨ c = 88 ∨ c = 89 ∨ c = 90 := by
  obtain ⟨b, hb, rfl⟩ := has_or h
  have hb2 : b ∈ [(65 : UInt8), (66 : UInt8), (67 : UInt8), (68 : UInt8), (69 : UInt8), (70 : UInt8), (71 : UInt8), (72 : UInt8), (73 : UInt8), (74 : UInt8), (75 : UInt8), (76 : UInt8), (77 : UInt8), (78 : UInt8), (79 : UInt8), (80 : UInt8), (81 : UInt8), (82 : UInt8), (83 : UInt8), (84 : UInt8), (85 : UInt8), (86 : UInt8), (87 : UInt8), (88 : UInt8), (89 : UInt8), (90 : UInt8)] := hb
  simp only [List.mem_cons, List.not_mem_nil, or_false] at hb2
  rcases hb2 with rfl | rfl | rfl | rfl | rfl | rfl | rfl | rfl | rfl | rfl | rfl | rfl | rfl | rfl | rfl | rfl | rfl | rfl | rfl | rfl | rfl | rfl | rfl | rfl | rfl | rfl
  · exact .inl rfl
  · exact .inr (.inl rfl)
  · exact .inr (.inr (.inl rfl))
  · exact .inr (.inr (.inr (.inl rfl)))
  · exact .inr (.inr (.inr (.inr (.inl rfl))))
  · exact .inr (.inr (.inr (.inr (.inr (.inl rfl)))))
  · exact .inr (.inr (.inr (.inr (.inr (.inr (.inl rfl))))))
  · exact .inr (.inr (.inr (.inr (.inr (.inr (.inr (.inl rfl)))))))
  · exact .inr (.inr (.inr (.inr (.inr (.inr (.inr (.inr (.inl rfl))))))))
  · exact .inr (.inr (.inr (.inr (.inr (.inr (.inr (.inr (.inr (.inl rfl)))))))))
  · exact .inr (.inr (.inr (.inr (.inr (.inr (.inr (.inr (.inr (.inr (.inl rfl))))))))))
  · exact .inr (.inr (.inr (.inr (.inr (.inr (.inr (.inr (.inr (.inr (.inr (.inl rfl)))))))))))
  · exact .inr (.inr (.inr (.inr (.inr (.inr (.inr (.inr (.inr (.inr (.inr (.inr (.inl rfl))))))))))))
  · exact .inr (.inr (.inr (.inr (.inr (.inr (.inr (.inr (.inr (.inr (.inr (.inr (.inr (.inl rfl)))))))))))))
  · exact .inr (.inr (.inr (.inr (.inr (.inr (.inr (.inr (.inr (.inr (.inr (.inr (.inr (.inr (.inl rfl))))))))))))))
  · exact .inr (.inr (.inr (.inr (.inr (.inr (.inr (.inr (.inr (.inr (.inr (.inr (.inr (.inr (.inr (.inl rfl)))))))))))))))
  · exact .inr (.inr (.inr (.inr (.inr (.inr (.inr (.inr (.inr (.inr (.inr (.inr (.inr (.inr (.inr (.inr (.inl rfl))))))))))))))))
  · exact .inr (.inr (.inr (.inr (.inr (.inr (.inr (.inr (.inr (.inr (.inr (.inr (.inr (.inr (.inr (.inr (.inr (.inl rfl)))))))))))))))))
  · exact .inr (.inr (.inr (.inr (.inr (.inr (.inr (.inr (.inr (.inr (.inr (.inr (.inr (.inr (.inr (.inr (.inr (.inr (.inl rfl))))))))))))))))))
  · exact .inr (.inr (.inr (.inr (.inr (.inr (.inr (.inr (.inr (.inr (.inr (.inr (.inr (.inr (.inr (.inr (.inr (.inr (.inr (.inl rfl)))))))))))))))))))
  · exact .inr (.inr (.inr (.inr (.inr (.inr (.inr (.inr (.inr (.inr (.inr (.inr (.inr (.inr (.inr (.inr (.inr (.inr (.inr (.inr (.inl rfl))))))))))))))))))))
  · exact .inr (.inr (.inr (.inr (.inr (.inr (.inr (.inr (.inr (.inr (.inr (.inr (.inr (.inr (.inr (.inr (.inr (.inr (.inr (.inr (.inr (.inl rfl)))))))))))))))))))))
  · exact .inr (.inr (.inr (.inr (.inr (.inr (.inr (.inr (.inr (.inr (.inr (.inr (.inr (.inr (.inr (.inr (.inr (.inr (.inr (.inr (.inr (.inr (.inl rfl))))))))))))))))))))))
  · exact .inr (.inr (.inr (.inr (.inr (.inr (.inr (.inr (.inr (.inr (.inr (.inr (.inr (.inr (.inr (.inr (.inr (.inr (.inr (.inr (.inr (.inr (.inr (.inl rfl)))))))))))))))))))))))
  · exact .inr (.inr (.inr (.inr (.inr (.inr (.inr (.inr (.inr (.inr (.inr (.inr (.inr (.inr (.inr (.inr (.inr (.inr (.inr (.inr (.inr (.inr (.inr (.inr (.inl rfl))))))))))))))))))))))))
  · exact .inr (.inr (.inr (.inr (.inr (.inr (.inr (.inr (.inr (.inr (.inr (.inr (.inr (.inr (.inr (.inr (.inr (.inr (.inr (.inr (.inr (.inr (.inr (.inr (.inr (rfl)))))))))))))))))))))))))
theorem has_6 {c : Int} (h : hasL 6 c = true) : c = 48 ∨ c = 66 ∨ c = 67 ∨ c = 49 ∨ c = 50 ∨ c = 51 ∨ c = 52 ∨ c = 65 ∨ c = 68 ∨ c = 70 ∨ c = 78 ∨ c = 83 ∨ c = 69 := by
  obtain ⟨b, hb, rfl⟩ := has_or h
  have hb2 : b ∈ [(48 : UInt8), (49 : UInt8), (50 : UInt8), (51 : UInt8), (52 : UInt8), (65 : UInt8), (66 : UInt8), (67 : UInt8), (68 : UInt8), (69 : UInt8), (70 : UInt8), (78 : UInt8), (83 : UInt8)] := hb
  simp only [List.mem_cons, List.not_mem_nil, or_false] at hb2
  rcases hb2 with rfl | rfl | rfl | rfl | rfl | rfl | rfl | rfl | rfl | rfl | rfl | rfl | rfl
  · exact .inl rfl
  · exact .inr (.inr (.inr (.inl rfl)))
  · exact .inr (.inr (.inr (.inr (.inl rfl))))
  · exact .inr (.inr (.inr (.inr (.inr (.inl rfl)))))
  · exact .inr (.inr (.inr (.inr (.inr (.inr (.inl rfl))))))
  · exact .inr (.inr (.inr (.inr (.inr (.inr (.inr (.inl rfl)))))))
  · exact .inr (.inl rfl)
  · exact .inr (.inr (.inl rfl))
  · exact .inr (.inr (.inr (.inr (.inr (.inr (.inr (.inr (.inl rfl))))))))
  · exact .inr (.inr (.inr (.inr (.inr (.inr (.inr (.inr (.inr (.inr (.inr (.inr (rfl))))))))))))
  · exact .inr (.inr (.inr (.inr (.inr (.inr (.inr (.inr (.inr (.inl rfl)))))))))
  · exact .inr (.inr (.inr (.inr (.inr (.inr (.inr (.inr (.inr (.inr (.inl rfl))))))))))
  · exact .inr (.inr (.inr (.inr (.inr (.inr (.inr (.inr (.inr (.inr (.inr (.inl rfl)))))))))))
set_option maxRecDepth 100000 in
set_option maxHeartbeats 400000 in
theorem r_effect_1 (base b : Nat) (w : World) (S : St) (n c p : Int) (F : St → St) (n0 : 1 ≤ n) (n1 : n ≤ 36) (hcn : letterR n = c) (hl0 : hasL 1 c = true) (hF : tFour c = some F) (px0 : 0 ≤ p) (px1 : p ≤ 255) (hl : S.ops.length ≤ 700) (hA : RAt base w b S) :
    Calls Tryz.prog 33 #[.pointer (some ⟨b, 0, none⟩), .int .i64 1, .int .i64 n, .int .i64 p] w fun e w' => e = .returned (.tuple #[]) ∧ RAt base w' b (F (S.put p)) ∧ Kp 50 base b w w' := by
  have HF := Lib.hid hF
  have HC := Lib.hid hcn
  have HL := Lib.hid hl0
  clear hF hcn hl0
  go_enter Tryz.func33, Tryz.ntmps33
  go_wp2_with (first
    | (go_at_call 40; refine (rput base b _ S p hA).mono ?_; rintro e1 w1 ⟨rfl, hA1, hK1⟩)
    | (go_at_call 28; refine (rletter_v n0 n1 HC.out _).mono ?_; rintro e2 w2 ⟨rfl, rfl⟩)
    | (go_at_call 43; refine (r_four base b _ (S.put p) c F HF.out (by rw [St.ops_put]; omega) hA1).mono ?_; rintro e3 w3 ⟨rfl, hA3, hK3⟩))
  go_end0
  exact ⟨rfl, hA3, hK1.trans hK3⟩
set_option maxRecDepth 100000 in
set_option maxHeartbeats 400000 in
theorem r_effect_2 (base b : Nat) (w : World) (S : St) (n c p : Int) (F : St → St) (n0 : 1 ≤ n) (n1 : n ≤ 36) (hcn : letterR n = c) (hl0 : hasL 2 c = true) (hF : tScream c = some F) (px0 : 0 ≤ p) (px1 : p ≤ 255) (hl : S.ops.length ≤ 700) (hA : RAt base w b S) :
    Calls Tryz.prog 33 #[.pointer (some ⟨b, 0, none⟩), .int .i64 2, .int .i64 n, .int .i64 p] w fun e w' => e = .returned (.tuple #[]) ∧ RAt base w' b (F (S.put p)) ∧ Kp 50 base b w w' := by
  have HF := Lib.hid hF
  have HC := Lib.hid hcn
  have HL := Lib.hid hl0
  clear hF hcn hl0
  go_enter Tryz.func33, Tryz.ntmps33
  go_wp2_with (first
    | (go_at_call 40; refine (rput base b _ S p hA).mono ?_; rintro e1 w1 ⟨rfl, hA1, hK1⟩)
    | (go_at_call 28; refine (rletter_v n0 n1 HC.out _).mono ?_; rintro e2 w2 ⟨rfl, rfl⟩)
    | (go_at_call 44; refine (r_scream base b _ (S.put p) c F (has_2 HL.out) HF.out px0 px1 (by rw [St.ops_put]; omega) hA1).mono ?_; rintro e3 w3 ⟨rfl, hA3, hK3⟩))
  go_end0
  exact ⟨rfl, hA3, hK1.trans hK3⟩
set_option maxRecDepth 100000 in
set_option maxHeartbeats 400000 in
theorem r_effect_3 (base b : Nat) (w : World) (S : St) (n c p : Int) (F : St → St) (n0 : 1 ≤ n) (n1 : n ≤ 36) (hcn : letterR n = c) (hl0 : hasL 3 c = true) (hF : tFast c = some F) (px0 : 0 ≤ p) (px1 : p ≤ 255) (hl : S.ops.length ≤ 700) (hA : RAt base w b S) :
    Calls Tryz.prog 33 #[.pointer (some ⟨b, 0, none⟩), .int .i64 3, .int .i64 n, .int .i64 p] w fun e w' => e = .returned (.tuple #[]) ∧ RAt base w' b (F (S.put p)) ∧ Kp 50 base b w w' := by
  have HF := Lib.hid hF
  have HC := Lib.hid hcn
  have HL := Lib.hid hl0
  clear hF hcn hl0
  go_enter Tryz.func33, Tryz.ntmps33
  go_wp2_with (first
    | (go_at_call 40; refine (rput base b _ S p hA).mono ?_; rintro e1 w1 ⟨rfl, hA1, hK1⟩)
    | (go_at_call 28; refine (rletter_v n0 n1 HC.out _).mono ?_; rintro e2 w2 ⟨rfl, rfl⟩)
    | (go_at_call 45; refine (r_fast base b _ (S.put p) c F (has_3 HL.out) HF.out (by rw [St.ops_put]; omega) hA1).mono ?_; rintro e3 w3 ⟨rfl, hA3, hK3⟩))
  go_end0
  exact ⟨rfl, hA3, hK1.trans hK3⟩
set_option maxRecDepth 100000 in
set_option maxHeartbeats 400000 in
theorem r_effect_4 (base b : Nat) (w : World) (S : St) (n c p : Int) (F : St → St) (n0 : 1 ≤ n) (n1 : n ≤ 36) (hcn : letterR n = c) (hl0 : hasL 4 c = true) (hF : tImpulse c = some F) (px0 : 0 ≤ p) (px1 : p ≤ 255) (hl : S.ops.length ≤ 700) (hA : RAt base w b S) :
    Calls Tryz.prog 33 #[.pointer (some ⟨b, 0, none⟩), .int .i64 4, .int .i64 n, .int .i64 p] w fun e w' => e = .returned (.tuple #[]) ∧ RAt base w' b (F (S.put p)) ∧ Kp 50 base b w w' := by
  have HF := Lib.hid hF
  have HC := Lib.hid hcn
  have HL := Lib.hid hl0
  clear hF hcn hl0
  go_enter Tryz.func33, Tryz.ntmps33
  go_wp2_with (first
    | (go_at_call 40; refine (rput base b _ S p hA).mono ?_; rintro e1 w1 ⟨rfl, hA1, hK1⟩)
    | (go_at_call 28; refine (rletter_v n0 n1 HC.out _).mono ?_; rintro e2 w2 ⟨rfl, rfl⟩)
    | (go_at_call 46; refine (r_impulse base b _ (S.put p) c F (has_4 HL.out) HF.out (by rw [St.ops_put]; omega) hA1).mono ?_; rintro e3 w3 ⟨rfl, hA3, hK3⟩))
  go_end0
  exact ⟨rfl, hA3, hK1.trans hK3⟩
set_option maxRecDepth 100000 in
set_option maxHeartbeats 400000 in
theorem r_effect_6 (base b : Nat) (w : World) (S : St) (n c p : Int) (F : St → St) (n0 : 1 ≤ n) (n1 : n ≤ 36) (hcn : letterR n = c) (hl0 : hasL 6 c = true) (hF : tChip c = some F) (px0 : 0 ≤ p) (px1 : p ≤ 255) (hl : S.ops.length ≤ 700) (hA : RAt base w b S) :
    Calls Tryz.prog 33 #[.pointer (some ⟨b, 0, none⟩), .int .i64 6, .int .i64 n, .int .i64 p] w fun e w' => e = .returned (.tuple #[]) ∧ RAt base w' b (F (S.put p)) ∧ Kp 50 base b w w' := by
  have HF := Lib.hid hF
  have HC := Lib.hid hcn
  have HL := Lib.hid hl0
  clear hF hcn hl0
  go_enter Tryz.func33, Tryz.ntmps33
  go_wp2_with (first
    | (go_at_call 40; refine (rput base b _ S p hA).mono ?_; rintro e1 w1 ⟨rfl, hA1, hK1⟩)
    | (go_at_call 28; refine (rletter_v n0 n1 HC.out _).mono ?_; rintro e2 w2 ⟨rfl, rfl⟩)
    | (go_at_call 48; refine (r_chip base b _ (S.put p) c F (has_6 HL.out) HF.out (by rw [St.ops_put]; omega) hA1).mono ?_; rintro e3 w3 ⟨rfl, hA3, hK3⟩))
  go_end0
  exact ⟨rfl, hA3, hK1.trans hK3⟩
set_option maxRecDepth 100000 in
set_option maxHeartbeats 400000 in
theorem r_effect_5 (base b : Nat) (w : World) (S : St) (n c p : Int) (n0 : 1 ≤ n) (n1 : n ≤ 36) (hcn : letterR n = c) (hl : S.ops.length ≤ 700) (hA : RAt base w b S) :
    Calls Tryz.prog 33 #[.pointer (some ⟨b, 0, none⟩), .int .i64 5, .int .i64 n, .int .i64 p] w fun e w' => e = .returned (.tuple #[]) ∧ RAt base w' b (St.rCompose c (S.put p)) ∧ Kp 50 base b w w' := by
  have HC := Lib.hid hcn
  clear hcn
  go_enter Tryz.func33, Tryz.ntmps33
  go_wp2_with (first
    | (go_at_call 40; refine (rput base b _ S p hA).mono ?_; rintro e1 w1 ⟨rfl, hA1, hK1⟩)
    | (go_at_call 28; refine (rletter_v n0 n1 HC.out _).mono ?_; rintro e2 w2 ⟨rfl, rfl⟩)
    | (go_at_call 47; refine (r_compose base b _ (S.put p) c (by rw [St.ops_put]; omega) hA1).mono ?_; rintro e3 w3 ⟨rfl, hA3, hK3⟩))
  go_end0
  exact ⟨rfl, hA3, hK1.trans hK3⟩
end Go.Proofs.YtappnglfmidjoaaGreat.D
