/- Same: whether two lists of operations are equal. -/
import Derived.Test.YtappnglfmidjoaaGreatResB
import Derived.BigQuiet
import Derived.Deep.QuietTactic
import Derived.Deep.DeepCutAuto
import Derived.Laws.StructEq
set_option linter.unusedVariables false
set_option linter.unusedSimpArgs false
namespace Go.Proofs.YtappnglfmidjoaaGreat.D
open Go Go.RowKit Go.Proofs.YtappnglfmidjoaaGreat.DB Go.Great

theorem opvs_get (L : List (Int × Int × Int)) (i : Nat) (x : Int × Int × Int) (h : L[i]? = some x) : (opvs L)[i * 3]? = some (.int .i64 x.1) ∧ (opvs L)[i * 3 + 1]? = some (.int .i64 x.2.1) ∧ (opvs L)[i * 3 + 2]? = some (.int .i64 x.2.2) := by
  induction L generalizing i with
  | nil => simp at h
  | cons a t ih =>
    cases i with
    | zero => simp at h; subst h; exact ⟨rfl, rfl, rfl⟩
    | succ i =>
      have := ih i (by simpa using h)
      have e : opvs (a :: t) = opv a ++ opvs t := by simp [opvs]
      rw [e]
      have hl : (opv a).length = 3 := rfl
      simp only [List.getElem?_append, hl]
      rw [if_neg (by omega), if_neg (by omega), if_neg (by omega)]
      rw [show (i + 1) * 3 - 3 = i * 3 by omega, show (i + 1) * 3 + 1 - 3 = i * 3 + 1 by omega, show (i + 1) * 3 + 2 - 3 = i * 3 + 2 by omega]
      exact this
/-- The cells of an operation. -/
theorem own_cells {base : Nat} {w : World} {v : Value} {L : List (Int × Int × Int)} (h : w.ownsRow base 50 3 v L.length (opvs L)) :
    ∃ a n cap, v = .slice a n cap ∧ n = L.length ∧ n ≤ cap ∧ cap ≤ maxLen ∧ (0 < L.length → ∃ g, a = some ⟨g, 0, none⟩ ∧ ∀ i x, L[i]? = some x → w.cell? ⟨g, i * 3, none⟩ = some (.int .i64 x.1) ∧ w.cell? ⟨g, i * 3 + 1, none⟩ = some (.int .i64 x.2.1) ∧ w.cell? ⟨g, i * 3 + 2, none⟩ = some (.int .i64 x.2.2)) := by
  obtain ⟨_, h⟩ := h
  rcases h with ⟨rfl, h⟩ | ⟨g, cap, cur, rfl, _, hh, hc, hm, _, ht⟩
  · exact ⟨none, 0, 0, rfl, h.symm, Nat.le_refl _, Nat.zero_le _, fun h0 => by omega⟩
  · refine ⟨_, _, cap, rfl, rfl, hc, hm, fun _ => ⟨g, rfl, fun i x hx => ?_⟩⟩
    have hi := (List.getElem?_eq_some_iff.1 hx).1
    obtain ⟨h0, h1, h2⟩ := opvs_get L i x hx
    rw [← ht] at h0 h1 h2
    simp only [List.getElem?_take, Array.getElem?_toList] at h0 h1 h2
    rw [if_pos (by omega)] at h0 h1 h2
    exact ⟨by rw [cell_of hh]; exact h0, by rw [cell_of hh]; exact h1, by rw [cell_of hh]; exact h2⟩
theorem neq50 (a b c a2 b2 c2 : Int) (w : World) : (binOp .neq 50 (.agg #[.int .i64 a, .int .i64 b, .int .i64 c]) (.agg #[.int .i64 a2, .int .i64 b2, .int .i64 c2])).run Tryz.prog w = .ok (.bool (!(a == a2 && (b == b2 && c == c2)))) w := by
  have h50 := Tryz.underlying50
  have h3 := Tryz.underlying3
  have hp : Tryz.prog.stoodInHeld 50 = false := by kernel_rfl
  have hs : Tryz.prog.underlying 50 = some (.struct (Tryz.prog.fieldsOf 50)) := by rw [Program.fieldsOf, h50]
  rw [run_neq_struct, run_equalIn_agg w 9999 50 _ _ hs hp]
  simp only [Program.fieldsOf, h50]
  by_cases e1 : a = a2 <;> by_cases e2 : b = b2 <;> by_cases e3 : c = c2 <;> simp [go_sem, Op.eqFields, h3, e1, e2, e3]
theorem neqEq (x : Int × Int × Int) (w : World) : (binOp .neq 50 (.agg #[.int .i64 x.1, .int .i64 x.2.1, .int .i64 x.2.2]) (.agg #[.int .i64 x.1, .int .i64 x.2.1, .int .i64 x.2.2])).run Tryz.prog w = .ok (.bool false) w := by rw [neq50]; simp
theorem neqNe (x y : Int × Int × Int) (h : ¬ x = y) (w : World) : (binOp .neq 50 (.agg #[.int .i64 x.1, .int .i64 x.2.1, .int .i64 x.2.2]) (.agg #[.int .i64 y.1, .int .i64 y.2.1, .int .i64 y.2.2])).run Tryz.prog w = .ok (.bool true) w := by
  rw [neq50]
  have : (x.1 == y.1 && (x.2.1 == y.2.1 && x.2.2 == y.2.2)) = false := by
    rw [Bool.eq_false_iff]
    intro e
    simp only [Bool.and_eq_true, beq_iff_eq] at e
    exact h (Prod.ext e.1 (Prod.ext e.2.1 e.2.2))
  rw [this]
  rfl
theorem psame_ne (va vb : Value) (La Lb : List (Int × Int × Int)) (w : World) (ha : w.ownsRow 0 50 3 va La.length (opvs La)) (hb : w.ownsRow 0 50 3 vb Lb.length (opvs Lb)) (hn : ¬ La.length = Lb.length) :
    Calls Tryz.prog 12 #[va, vb] w fun e w' => e = .returned (.bool (decide (La = Lb))) ∧ Below w.heap.size w w' := by
  obtain ⟨a, n, cap, rfl, hn1, hc1, hm1, _⟩ := own_cells ha
  obtain ⟨b, m, cap2, rfl, hn2, hc2, hm2, _⟩ := own_cells hb
  have hd : decide (La = Lb) = false := by simp only [decide_eq_false_iff_not]; intro e; exact hn (congrArg List.length e)
  rw [hd]
  rw [← hn1, ← hn2] at hn
  have hne : ((n : Int) != m) = true := by simp; omega
  clear hd ha hb hn1 hn2 hn
  unfold maxLen at hm1 hm2
  go_enter Tryz.func12, Tryz.ntmps12
  go_wp2
  go_ret
  exact ⟨rfl, Below.refl _ _⟩
set_option maxRecDepth 100000 in
set_option maxHeartbeats 2000000 in
theorem psame_eq (va vb : Value) (La Lb : List (Int × Int × Int)) (w : World) (ha : w.ownsRow 0 50 3 va La.length (opvs La)) (hb : w.ownsRow 0 50 3 vb Lb.length (opvs Lb)) (hn : La.length = Lb.length) :
    Calls Tryz.prog 12 #[va, vb] w fun e w' => e = .returned (.bool (decide (La = Lb))) ∧ Below w.heap.size w w' := by
  obtain ⟨a, n, cap, rfl, hn1, hc1, hm1, hA⟩ := own_cells ha
  obtain ⟨b, m, cap2, rfl, hn2, hc2, hm2, hB⟩ := own_cells hb
  obtain rfl : m = n := by omega
  have HA := Lib.hid hA
  have HB := Lib.hid hB
  have HL := Lib.hid hn1
  have HLb := Lib.hid hn2
  clear ha hb hA hB hn hn1 hn2
  unfold maxLen at hm1 hm2
  go_enter Tryz.func12, Tryz.ntmps12
  go_wp2
  go_loopw [5, 13] (fun u5 u13 w' => ∃ k : Nat, u13 = .int .i64 k ∧ k ≤ m ∧ (∃ q, w' = w.drewN q) ∧ ∀ j, j < k → La[j]? = Lb[j]?) (fun _ u13 _ => m - (intOf u13).toNat)
  case atStart => exact ⟨0, rfl, Nat.zero_le _, ⟨0, rfl⟩, fun j hj => absurd hj (Nat.not_lt_zero _)⟩
  case round =>
    obtain ⟨k, rfl, hk, ⟨q, rfl⟩, hall⟩ := hrel
    have HALL := Lib.hid hall
    clear hall
    by_cases hlt : k < m
    · obtain ⟨g, rfl, hg⟩ := HA.out (by rw [← HL.out]; omega)
      obtain ⟨g2, rfl, hg2⟩ := HB.out (by rw [← HLb.out]; omega)
      obtain ⟨x, hx⟩ : ∃ x, La[k]? = some x := ⟨_, List.getElem?_eq_getElem (by rw [← HL.out]; exact hlt)⟩
      obtain ⟨y, hy⟩ : ∃ y, Lb[k]? = some y := ⟨_, List.getElem?_eq_getElem (by rw [← HLb.out]; exact hlt)⟩
      obtain ⟨x0, x1, x2⟩ := hg k x hx
      obtain ⟨y0, y1, y2⟩ := hg2 k y hy
      have HX := Lib.hid hx
      have HY := Lib.hid hy
      clear hx hy hg hg2
      have i0 : (0 : Int) ≤ (k : Int) := by omega
      have i1 : (k : Int) < (m : Int) := by omega
      by_cases hxy : x = y
      · subst hxy
        have hq := neqEq x
        go_wp2
        go_quiet (fail)
        go_wp2
        refine ⟨⟨k + 1, by go_num, by omega, ⟨_, rfl⟩, fun j hj => ?_⟩, by simp [intOf]; omega⟩
        by_cases e : j < k
        · exact HALL.out j e
        · obtain rfl : j = k := by omega
          rw [HX.out, HY.out]
      · have hq := neqNe x y hxy
        have hd : decide (La = Lb) = false := by
          simp only [decide_eq_false_iff_not]
          rintro rfl
          exact hxy (Option.some.inj (HX.out.symm.trans HY.out))
        have HD := Lib.hid hd
        clear hd hxy
        go_wp2
        go_quiet (fail)
        go_wp2
        go_ret
        exact ⟨by rw [HD.out]; rfl, ⟨rfl, rfl, rfl, Nat.le_refl _, fun _ _ => rfl⟩⟩
    · have hd : decide (La = Lb) = true := by
        simp only [decide_eq_true_eq]
        refine List.ext_getElem? (fun j => ?_)
        by_cases hj : j < m
        · exact HALL.out j (by omega)
        · rw [List.getElem?_eq_none (by rw [← HL.out]; omega), List.getElem?_eq_none (by rw [← HLb.out]; omega)]
      have HD := Lib.hid hd
      clear hd
      go_wp2
      go_ret
      exact ⟨by rw [HD.out]; rfl, ⟨rfl, rfl, rfl, Nat.le_refl _, fun _ _ => rfl⟩⟩
theorem psame (va vb : Value) (La Lb : List (Int × Int × Int)) (w : World) (ha : w.ownsRow 0 50 3 va La.length (opvs La)) (hb : w.ownsRow 0 50 3 vb Lb.length (opvs Lb)) :
    Calls Tryz.prog 12 #[va, vb] w fun e w' => e = .returned (.bool (decide (La = Lb))) ∧ Below w.heap.size w w' := by
  by_cases h : La.length = Lb.length
  · exact psame_eq va vb La Lb w ha hb h
  · exact psame_ne va vb La Lb w ha hb h
end Go.Proofs.YtappnglfmidjoaaGreat.D
