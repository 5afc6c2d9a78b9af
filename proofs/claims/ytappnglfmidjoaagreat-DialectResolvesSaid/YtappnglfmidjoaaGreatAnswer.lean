/- asked of the program. -/
import Derived.Test.YtappnglfmidjoaaGreatStart
set_option linter.unusedVariables false
set_option linter.unusedSimpArgs false
namespace Go.Proofs.YtappnglfmidjoaaGreat.D
open Go Go.RowKit Go.Proofs.YtappnglfmidjoaaGreat.DB

/-- What column does, if there is a command. -/
def St.colS (d vc va : Int) (S : St) : St := if 0 < vc then St.fColumn (decide (d = 3)) vc va S else S
/-- What asked does. -/
def St.doS (d E P : Int) (S : St) : St := if 0 < E then (match tabOf d (letterOf E) with | some F => F (S.put P) | none => S) else S
def St.askedS (d n vc va ef pa : Int) (S : St) : St :=
  if d = 5 then St.doS d (lastingE n ef pa (St.colS d vc va S)).1 (lastingE n ef pa (St.colS d vc va S)).2 (St.lastingS n ef pa (St.colS d vc va S)) else St.doS d ef pa (St.colS d vc va S)
theorem info28 : (Tryz.prog.info? 28).map (·.size) = some 26 := by kernel_rfl
theorem info23 : (Tryz.prog.info? 23).map (·.size) = some 6 := by kernel_rfl
theorem info53 : (Tryz.prog.info? 53).map (·.size) = some 2 := by kernel_rfl
theorem range_of {w : World} {b : Nat} {cs : Array Value} {t : Nat} {fr : Nat × Nat} (h : w.heap[b]? = some (.cells cs t fr)) : w.rangeAt b 0 cs.toList := by
  intro j v hv
  rw [Nat.zero_add, cell_of h]
  simpa using hv
theorem peffect2 (X : Nat → Prop) (base b : Nat) (w : World) (hb : b < w.heap.size) (hX : ∀ i, X i → i < w.heap.size) (d n : Int) (h0 : 1 ≤ d) (h1 : d ≤ 6) (n0 : 1 ≤ n) (n1 : n ≤ 36) :
    Calls Tryz.prog 52 #[.agg #[.int .i64 d, .map none], .int .i64 n] w fun e w' => ∃ v, e = .returned v ∧ Below w.heap.size w w' ∧ ((Hid (tabOf d (letterOf n) = none) ∧ v = .nilFunc) ∨ ∃ F fid cap, Hid (tabOf d (letterOf n) = some F) ∧ v = .func (.func fid) #[] cap ∧ (∀ (args : Array Value) (w1 : World), (callFunc fid args).run Tryz.prog w1 = .ok (.enter fid args) w1) ∧ Hid (Eff X base b w' (.func (.func fid) #[] cap) F)) := by
  refine (peffect X base b w hb hX d n h0 h1 n0 n1).mono ?_
  rintro e w' ⟨v, rfl, hB, hv⟩
  refine ⟨v, rfl, hB, ?_⟩
  rcases hv with ⟨q, rfl⟩ | ⟨F, q, hE⟩
  · exact .inl ⟨q, rfl⟩
  · obtain ⟨fid, cap, rfl, hr, h⟩ := hE
    exact .inr ⟨F, fid, cap, q, rfl, hr, ⟨fid, cap, rfl, hr, h⟩⟩
theorem wpList_build2 {P : Program} {ops : Array Oper} {rest : List Oper} {o : Oper} {a : Act} {Q : Exit → Act → World → Prop} {w : World} (hg : o.guard = none) (t : TypeId) (i j : Nat) (x y : Operand) (hop : o.op = Op.build t #[(i, x), (j, y)]) (u v z : Value) (hx : a.eval x = u) (hy : a.eval y = v)
    (hrun : (Instr.build t #[(i, u), (j, v)]).run P w = .ok z w) (hn : wpList P ops Q rest (a.put o.dst z) w) : wpList P ops Q (o :: rest) a w := by
  refine wpList_plain hg fun K' hK' => ?_
  unfold Oper.wp
  simp [execOp, hop, hx, hy, hrun, Result.andThen]
  exact hK' _ _ hn
theorem apart_new {w : World} {b base i : Nat} {w' : World} {cs : Array Value} {t : Nat} {fr : Nat × Nat} (hK : Kp 50 base b w w') (hc : w.heap[i]? = some (.cells cs t fr)) (hb : i ≠ b) (ht : t ≠ 50) : w'.heap[i]? = some (.cells cs t fr) :=
  (hK.cell (a := ⟨i, 0, none⟩) hb hc ht).trans hc
theorem eff_whole (S : St) (k : Int) : (S.whole k).eff = S.eff := by unfold St.whole; split <;> rfl
theorem eff_halves (S : St) (k : Int) : (S.halves k).eff = S.eff := rfl
theorem eff_ask (S : St) (k x y : Int) : (S.ask k x y).eff = S.eff := rfl
theorem eff_put (S : St) (x : Int) : (S.put x).eff = S.eff := rfl
theorem ite_p {α : Type} (Q : α → Prop) {c : Prop} [Decidable c] {a b : α} (h1 : Q a) (h2 : Q b) : Q (if c then a else b) := by split <;> assumption
theorem colS_eff (d vc va : Int) (S : St) : (St.colS d vc va S).eff = S.eff := by
  unfold St.colS St.fColumn
  repeat' (refine ite_p (fun T : St => T.eff = S.eff) ?_ ?_)
  all_goals try (simp only [eff_ask, eff_put, eff_halves]; done)
  all_goals try rfl
  all_goals (show (St.ask _ _ _ _).eff = _; rw [eff_ask]; split <;> rw [eff_whole, eff_put])
theorem colS_ops (d vc va : Int) (S : St) : (St.colS d vc va S).ops.length ≤ S.ops.length + 1 := by
  unfold St.colS St.fColumn
  repeat' (refine ite_p (fun T : St => T.ops.length ≤ S.ops.length + 1) ?_ ?_)
  all_goals try (simp [St.ops_ask, St.ops_put, St.ops_whole, St.ops_halves]; done)
  split <;> simp [St.ops_ask, St.ops_put, St.ops_whole, St.ops_halves]
theorem lastingE_b (n e p : Int) (S : St) (e0 : 0 ≤ e) (e1 : e ≤ 36) (s0 : 0 ≤ S.eff) (s1 : S.eff ≤ 36) : 0 ≤ (lastingE n e p S).1 ∧ (lastingE n e p S).1 ≤ 36 := by
  unfold lastingE
  simp only []
  repeat' split
  all_goals (simp only []; omega)
theorem lastingS_ops (n e p : Int) (S : St) : (St.lastingS n e p S).ops = S.ops := by
  unfold St.lastingS
  repeat' split
  all_goals rfl
set_option maxRecDepth 100000 in
set_option maxHeartbeats 2000000 in
theorem pasked_a5 (d : Int) (d0 : 1 ≤ d) (d1 : d ≤ 6) (mv : Array Value) (ms : List Int) (e p : Int) (hM : MemV mv ms e p) (n i vc va ef pa : Int) (w : World) (ef0 : 0 ≤ ef) (ef1 : ef ≤ 36) (e0 : 0 ≤ e) (e1 : e ≤ 36)
    (v0 : 0 < vc) (v1 : vc ≤ 10) (a0 : 0 ≤ va) (a1 : va ≤ 99) (h5 : (d == 5) = true) :
    Calls Tryz.prog 38 #[.agg #[.int .i64 d, .map none], .agg mv, .agg #[.int .i64 n, .int .i64 i, .int .i64 vc, .int .i64 va, .int .i64 ef, .int .i64 pa]] w fun e' w' => ∃ b, e' = .returned (.pointer (some ⟨b, 0, none⟩)) ∧ PAt w.heap.size w' b (St.askedS d n vc va ef pa (St.mem ms e p)) ∧ Below w.heap.size w w' := by
  have hd0 : ((w.alloc (.cells #[.int .i64 d, .map none] 53)).alloc (.cells mv 28)).heap[w.heap.size]? = some (.cells #[.int .i64 d, .map none] 53) :=
    (Below.heap_alloc _ _ _ (by rw [World.size_alloc]; omega)).trans (heap_alloc_new w _)
  have hd3 : (((w.alloc (.cells #[.int .i64 d, .map none] 53)).alloc (.cells mv 28)).alloc (.cells #[.int .i64 n, .int .i64 i, .int .i64 vc, .int .i64 va, .int .i64 ef, .int .i64 pa] 23)).heap[w.heap.size]? = some (.cells #[.int .i64 d, .map none] 53) := (Below.heap_alloc _ _ _ (by rw [World.size_alloc, World.size_alloc]; omega)).trans hd0
  have hm : (((w.alloc (.cells #[.int .i64 d, .map none] 53)).alloc (.cells mv 28)).alloc (.cells #[.int .i64 n, .int .i64 i, .int .i64 vc, .int .i64 va, .int .i64 ef, .int .i64 pa] 23)).heap[w.heap.size + 1]? = some (.cells mv 28) := by
    have h1 := heap_alloc_new (w.alloc (.cells #[.int .i64 d, .map none] 53)) (.cells mv 28)
    rw [World.size_alloc] at h1
    exact (Below.heap_alloc _ _ _ (by rw [World.size_alloc, World.size_alloc]; omega)).trans h1
  have hc3 : (((w.alloc (.cells #[.int .i64 d, .map none] 53)).alloc (.cells mv 28)).alloc (.cells #[.int .i64 n, .int .i64 i, .int .i64 vc, .int .i64 va, .int .i64 ef, .int .i64 pa] 23)).heap[w.heap.size + 1 + 1]? = some (.cells #[.int .i64 n, .int .i64 i, .int .i64 vc, .int .i64 va, .int .i64 ef, .int .i64 pa] 23) := by
    have h1 := heap_alloc_new ((w.alloc (.cells #[.int .i64 d, .map none] 53)).alloc (.cells mv 28)) (.cells #[.int .i64 n, .int .i64 i, .int .i64 vc, .int .i64 va, .int .i64 ef, .int .i64 pa] 23)
    rw [World.size_alloc, World.size_alloc] at h1
    exact h1
  have hs3 : (((w.alloc (.cells #[.int .i64 d, .map none] 53)).alloc (.cells mv 28)).alloc (.cells #[.int .i64 n, .int .i64 i, .int .i64 vc, .int .i64 va, .int .i64 ef, .int .i64 pa] 23)).heap.size = w.heap.size + 1 + 1 + 1 := by rw [World.size_alloc, World.size_alloc, World.size_alloc]
  have hr := range_of hm
  have hu : (Tryz.prog.info? 28).map (·.size) = some mv.toList.length := by rw [Array.length_toList, hM.size]; exact info28
  obtain ⟨ca, hca, hb⟩ : ∃ ca, ca = mv ++ #[.int .i64 d, .int .i64 0, .int .i64 0, .int .i64 0, .slice none 0 0, .bool false] ∧ ∀ w, (Instr.build 69 #[(0, .agg mv), (1, .int .i64 d)]).run Tryz.prog w = .ok (.agg ca) w := ⟨_, rfl, build69 mv hM.size d⟩
  have Hb := Lib.hid hb
  clear hb
  have hd4 : ((((w.alloc (.cells #[.int .i64 d, .map none] 53)).alloc (.cells mv 28)).alloc (.cells #[.int .i64 n, .int .i64 i, .int .i64 vc, .int .i64 va, .int .i64 ef, .int .i64 pa] 23)).alloc (.cells ca 69)).heap[w.heap.size]? = some (.cells #[.int .i64 d, .map none] 53) := (Below.heap_alloc _ _ _ (by rw [hs3]; omega)).trans hd3
  have hc4 : ((((w.alloc (.cells #[.int .i64 d, .map none] 53)).alloc (.cells mv 28)).alloc (.cells #[.int .i64 n, .int .i64 i, .int .i64 vc, .int .i64 va, .int .i64 ef, .int .i64 pa] 23)).alloc (.cells ca 69)).heap[w.heap.size + 1 + 1]? = some (.cells #[.int .i64 n, .int .i64 i, .int .i64 vc, .int .i64 va, .int .i64 ef, .int .i64 pa] 23) := (Below.heap_alloc _ _ _ (by rw [hs3]; omega)).trans hc3
  have hn4 : ((((w.alloc (.cells #[.int .i64 d, .map none] 53)).alloc (.cells mv 28)).alloc (.cells #[.int .i64 n, .int .i64 i, .int .i64 vc, .int .i64 va, .int .i64 ef, .int .i64 pa] 23)).alloc (.cells ca 69)).heap[w.heap.size + 1 + 1 + 1]? = some (.cells ca 69) := by have h1 := heap_alloc_new (((w.alloc (.cells #[.int .i64 d, .map none] 53)).alloc (.cells mv 28)).alloc (.cells #[.int .i64 n, .int .i64 i, .int .i64 vc, .int .i64 va, .int .i64 ef, .int .i64 pa] 23)) (.cells ca 69); rw [hs3] at h1; exact h1
  rw [hca] at hn4
  obtain ⟨hA4, hT4⟩ := At.start hM d (base := w.heap.size) (by omega) hn4
  rw [← hca] at hA4 hT4
  have hB4 : Below w.heap.size w ((((w.alloc (.cells #[.int .i64 d, .map none] 53)).alloc (.cells mv 28)).alloc (.cells #[.int .i64 n, .int .i64 i, .int .i64 vc, .int .i64 va, .int .i64 ef, .int .i64 pa] 23)).alloc (.cells ca 69)) := ((((Below.refl _ _).alloc (Nat.le_refl _) _).alloc (by rw [World.size_alloc]; omega) _).alloc (by rw [World.size_alloc, World.size_alloc]; omega) _).alloc (by rw [hs3]; omega) _
  have L28 := Lib.hid hu
  have R28 := Lib.hid hr
  clear hu hr hm hd3 hd0 hc3 hn4 hca
  have HA4 := Lib.hid hA4
  have HT4 := Lib.hid hT4
  have HD4 := Lib.hid hd4
  have HC4 := Lib.hid hc4
  have HB4 := Lib.hid hB4
  clear hA4 hT4 hd4 hc4 hB4
  go_enter Tryz.func38, Tryz.ntmps38
  go_wp2_with (first | (refine wpList_load_mid rfl 28 _ rfl (w.heap.size + 1) 0 rfl mv.toList _ R28.out Tryz.underlying28 rfl L28.out ?_) | (refine wpList_build2 rfl 69 0 1 _ _ rfl (.agg mv) (.int .i64 d) (.agg ca) rfl rfl (Hb.out _) ?_) | (go_at_call 50; refine (pcolumn w.heap.size _ _ (St.mem ms e p) d vc va (by omega) v1 a0 a1 HT4.out (by simp [St.mem]) HA4.out).mono ?_; rintro _ w5 ⟨rfl, hA5, hK5⟩))
  have hd5 := apart_new hK5 HD4.out (by omega) (by decide)
  have hc5 := apart_new hK5 HC4.out (by omega) (by decide)
  have hB5 := HB4.out.trans (hK5.below (by omega) (Nat.le_refl _) HB4.out.size)
  clear hK5
  clear HA4 HT4 HD4 HC4 HB4 R28 L28 Hb hs3
  have hA6 : PAt w.heap.size w5 _ (St.colS d vc va (St.mem ms e p)) := hA5.eq (by unfold St.colS; rw [if_pos (by omega)])
  have so := colS_ops d vc va (St.mem ms e p)
  have se := colS_eff d vc va (St.mem ms e p)
  have so' : (St.colS d vc va (St.mem ms e p)).ops.length ≤ 1 := so
  have se' : (St.colS d vc va (St.mem ms e p)).eff = e := se
  clear hA5 so se
  have x4 : w5.cell? ⟨w.heap.size + 1 + 1, 4, none⟩ = some (.int .i64 ef) := (cell_of hc5 4).trans rfl
  have x5 : w5.cell? ⟨w.heap.size + 1 + 1, 5, none⟩ = some (.int .i64 pa) := (cell_of hc5 5).trans rfl
  go_region
  replace hA6 := hA6.drew
  replace hB5 : Below w.heap.size w w5.drew := ⟨hB5.os, hB5.tape, hB5.output, hB5.size, hB5.block⟩
  change w5.drew.heap[_]? = _ at hd5
  change w5.drew.heap[_]? = _ at hc5
  clear x4 x5
  have hAS : St.askedS d n vc va ef pa (St.mem ms e p) = St.doS d (lastingE n ef pa (St.colS d vc va (St.mem ms e p))).1 (lastingE n ef pa (St.colS d vc va (St.mem ms e p))).2 (St.lastingS n ef pa (St.colS d vc va (St.mem ms e p))) := by simp [St.askedS, show d = 5 from by simpa using h5]
  have HAS := Lib.hid hAS
  clear hAS
  generalize w5.drew = w6 at hA6 hB5 hd5 hc5 ⊢
  generalize St.colS d vc va (St.mem ms e p) = S1 at *
  have y0 : w6.cell? ⟨w.heap.size, 0, none⟩ = some (.int .i64 d) := (cell_of hd5 0).trans rfl
  have R23 := Lib.hid (range_of hc5)
  have hL := plasting w.heap.size (w.heap.size + 1 + 1 + 1) w6 S1 n i vc va ef pa ef0 ef1 (by rw [se']; exact e0) (by rw [se']; exact e1) hA6
  have lb := lastingE_b n ef pa S1 ef0 ef1 (by rw [se']; exact e0) (by rw [se']; exact e1)
  have lo := lastingS_ops n ef pa S1
  generalize (lastingE n ef pa S1).1 = E at hL lb HAS
  generalize (lastingE n ef pa S1).2 = P at hL HAS
  generalize St.lastingS n ef pa S1 = S2 at hL lo HAS
  have so2 : S2.ops.length ≤ 1 := by rw [lo]; exact so'
  have HL := Lib.hid hL
  clear hL lo
  have HD := Lib.hid hd5
  have HB := Lib.hid hB5
  clear hd5 hB5
  by_cases hE : 0 < E
  · have hqn := neq_nil
    have hqf := neq_func
    go_wp2_with (first | (refine wpList_load_mid rfl 23 _ rfl (w.heap.size + 1 + 1) 0 rfl [.int .i64 n, .int .i64 i, .int .i64 vc, .int .i64 va, .int .i64 ef, .int .i64 pa] _ R23.out Tryz.underlying23 rfl info23 ?_) | (go_at_call 51; refine HL.out.mono ?_; rintro _ w7 ⟨rfl, hA7, hK7⟩; have hd7 := apart_new hK7 HD.out (by omega) (by decide); have R53 := Lib.hid (range_of hd7); have HB7 := Lib.hid (HB.out.trans (hK7.below (by omega) (Nat.le_refl _) HB.out.size)); clear hK7 hd7) | (go_at_call 53; refine (pput w.heap.size _ _ S2 P (hA7.below hB8)).mono ?_; rintro _ w9 ⟨rfl, hA9, hK9⟩) | (refine wpList_load_mid rfl 53 _ rfl w.heap.size 0 rfl [.int .i64 d, .map none] _ R53.out Tryz.underlying53 rfl info53 ?_) | (go_at_call 52; refine (peffect2 (fun _ => False) w.heap.size (w.heap.size + 1 + 1 + 1) _ hA7.lt (fun _ h => h.elim) d E d0 d1 (by omega) lb.2).mono ?_; rintro _ w8 ⟨v, rfl, hB8, (⟨h1, rfl⟩ | ⟨F, fid, cap, h1, rfl, hr, hF⟩)⟩))
    · go_ret
      exact ⟨_, rfl, (hA7.below hB8).eq (by rw [HAS.out]; unfold St.doS; rw [if_pos hE, h1.out]), HB7.out.trans (hB8.mono HB7.out.size)⟩
    · obtain ⟨fid', cap', e1, hr', hF'⟩ := hF.out
      cases e1
      refine (hF' _ _ (kp_x hK9 _) hA9 (by rw [St.ops_put]; omega)).mono ?_
      rintro _ w10 ⟨rfl, hA10, hK10⟩
      clear hF' hF hr'
      go_wp2
      go_ret
      have HB8 := HB7.out.trans (hB8.mono HB7.out.size)
      exact ⟨_, rfl, hA10.eq (by rw [HAS.out]; unfold St.doS; rw [if_pos hE, h1.out]), HB8.trans ((hK9.trans hK10).below (by omega) (Nat.le_refl _) HB8.size)⟩
  · go_wp2_with (first | (refine wpList_load_mid rfl 23 _ rfl (w.heap.size + 1 + 1) 0 rfl [.int .i64 n, .int .i64 i, .int .i64 vc, .int .i64 va, .int .i64 ef, .int .i64 pa] _ R23.out Tryz.underlying23 rfl info23 ?_) | (go_at_call 51; refine HL.out.mono ?_; rintro _ w7 ⟨rfl, hA7, hK7⟩; have hd7 := apart_new hK7 HD.out (by omega) (by decide); have R53 := Lib.hid (range_of hd7); have HB7 := Lib.hid (HB.out.trans (hK7.below (by omega) (Nat.le_refl _) HB.out.size)); clear hK7 hd7) | (go_at_call 53; refine (pput w.heap.size _ _ S2 P (hA7.below hB8)).mono ?_; rintro _ w9 ⟨rfl, hA9, hK9⟩) | (refine wpList_load_mid rfl 53 _ rfl w.heap.size 0 rfl [.int .i64 d, .map none] _ R53.out Tryz.underlying53 rfl info53 ?_) | (go_at_call 52; refine (peffect2 (fun _ => False) w.heap.size (w.heap.size + 1 + 1 + 1) _ hA7.lt (fun _ h => h.elim) d E d0 d1 (by omega) lb.2).mono ?_; rintro _ w8 ⟨v, rfl, hB8, (⟨h1, rfl⟩ | ⟨F, fid, cap, h1, rfl, hr, hF⟩)⟩))
    go_ret
    exact ⟨_, rfl, hA7.eq (by rw [HAS.out]; unfold St.doS; rw [if_neg (by omega)]), HB7.out⟩
set_option maxRecDepth 100000 in
set_option maxHeartbeats 2000000 in
theorem pasked_a (d : Int) (d0 : 1 ≤ d) (d1 : d ≤ 6) (mv : Array Value) (ms : List Int) (e p : Int) (hM : MemV mv ms e p) (n i vc va ef pa : Int) (w : World) (ef0 : 0 ≤ ef) (ef1 : ef ≤ 36) (e0 : 0 ≤ e) (e1 : e ≤ 36)
    (v0 : 0 < vc) (v1 : vc ≤ 10) (a0 : 0 ≤ va) (a1 : va ≤ 99) (h5 : (d == 5) = false) :
    Calls Tryz.prog 38 #[.agg #[.int .i64 d, .map none], .agg mv, .agg #[.int .i64 n, .int .i64 i, .int .i64 vc, .int .i64 va, .int .i64 ef, .int .i64 pa]] w fun e' w' => ∃ b, e' = .returned (.pointer (some ⟨b, 0, none⟩)) ∧ PAt w.heap.size w' b (St.askedS d n vc va ef pa (St.mem ms e p)) ∧ Below w.heap.size w w' := by
  have hd0 : ((w.alloc (.cells #[.int .i64 d, .map none] 53)).alloc (.cells mv 28)).heap[w.heap.size]? = some (.cells #[.int .i64 d, .map none] 53) :=
    (Below.heap_alloc _ _ _ (by rw [World.size_alloc]; omega)).trans (heap_alloc_new w _)
  have hd3 : (((w.alloc (.cells #[.int .i64 d, .map none] 53)).alloc (.cells mv 28)).alloc (.cells #[.int .i64 n, .int .i64 i, .int .i64 vc, .int .i64 va, .int .i64 ef, .int .i64 pa] 23)).heap[w.heap.size]? = some (.cells #[.int .i64 d, .map none] 53) := (Below.heap_alloc _ _ _ (by rw [World.size_alloc, World.size_alloc]; omega)).trans hd0
  have hm : (((w.alloc (.cells #[.int .i64 d, .map none] 53)).alloc (.cells mv 28)).alloc (.cells #[.int .i64 n, .int .i64 i, .int .i64 vc, .int .i64 va, .int .i64 ef, .int .i64 pa] 23)).heap[w.heap.size + 1]? = some (.cells mv 28) := by
    have h1 := heap_alloc_new (w.alloc (.cells #[.int .i64 d, .map none] 53)) (.cells mv 28)
    rw [World.size_alloc] at h1
    exact (Below.heap_alloc _ _ _ (by rw [World.size_alloc, World.size_alloc]; omega)).trans h1
  have hc3 : (((w.alloc (.cells #[.int .i64 d, .map none] 53)).alloc (.cells mv 28)).alloc (.cells #[.int .i64 n, .int .i64 i, .int .i64 vc, .int .i64 va, .int .i64 ef, .int .i64 pa] 23)).heap[w.heap.size + 1 + 1]? = some (.cells #[.int .i64 n, .int .i64 i, .int .i64 vc, .int .i64 va, .int .i64 ef, .int .i64 pa] 23) := by
    have h1 := heap_alloc_new ((w.alloc (.cells #[.int .i64 d, .map none] 53)).alloc (.cells mv 28)) (.cells #[.int .i64 n, .int .i64 i, .int .i64 vc, .int .i64 va, .int .i64 ef, .int .i64 pa] 23)
    rw [World.size_alloc, World.size_alloc] at h1
    exact h1
  have hs3 : (((w.alloc (.cells #[.int .i64 d, .map none] 53)).alloc (.cells mv 28)).alloc (.cells #[.int .i64 n, .int .i64 i, .int .i64 vc, .int .i64 va, .int .i64 ef, .int .i64 pa] 23)).heap.size = w.heap.size + 1 + 1 + 1 := by rw [World.size_alloc, World.size_alloc, World.size_alloc]
  have hr := range_of hm
  have hu : (Tryz.prog.info? 28).map (·.size) = some mv.toList.length := by rw [Array.length_toList, hM.size]; exact info28
  obtain ⟨ca, hca, hb⟩ : ∃ ca, ca = mv ++ #[.int .i64 d, .int .i64 0, .int .i64 0, .int .i64 0, .slice none 0 0, .bool false] ∧ ∀ w, (Instr.build 69 #[(0, .agg mv), (1, .int .i64 d)]).run Tryz.prog w = .ok (.agg ca) w := ⟨_, rfl, build69 mv hM.size d⟩
  have Hb := Lib.hid hb
  clear hb
  have hd4 : ((((w.alloc (.cells #[.int .i64 d, .map none] 53)).alloc (.cells mv 28)).alloc (.cells #[.int .i64 n, .int .i64 i, .int .i64 vc, .int .i64 va, .int .i64 ef, .int .i64 pa] 23)).alloc (.cells ca 69)).heap[w.heap.size]? = some (.cells #[.int .i64 d, .map none] 53) := (Below.heap_alloc _ _ _ (by rw [hs3]; omega)).trans hd3
  have hc4 : ((((w.alloc (.cells #[.int .i64 d, .map none] 53)).alloc (.cells mv 28)).alloc (.cells #[.int .i64 n, .int .i64 i, .int .i64 vc, .int .i64 va, .int .i64 ef, .int .i64 pa] 23)).alloc (.cells ca 69)).heap[w.heap.size + 1 + 1]? = some (.cells #[.int .i64 n, .int .i64 i, .int .i64 vc, .int .i64 va, .int .i64 ef, .int .i64 pa] 23) := (Below.heap_alloc _ _ _ (by rw [hs3]; omega)).trans hc3
  have hn4 : ((((w.alloc (.cells #[.int .i64 d, .map none] 53)).alloc (.cells mv 28)).alloc (.cells #[.int .i64 n, .int .i64 i, .int .i64 vc, .int .i64 va, .int .i64 ef, .int .i64 pa] 23)).alloc (.cells ca 69)).heap[w.heap.size + 1 + 1 + 1]? = some (.cells ca 69) := by have h1 := heap_alloc_new (((w.alloc (.cells #[.int .i64 d, .map none] 53)).alloc (.cells mv 28)).alloc (.cells #[.int .i64 n, .int .i64 i, .int .i64 vc, .int .i64 va, .int .i64 ef, .int .i64 pa] 23)) (.cells ca 69); rw [hs3] at h1; exact h1
  rw [hca] at hn4
  obtain ⟨hA4, hT4⟩ := At.start hM d (base := w.heap.size) (by omega) hn4
  rw [← hca] at hA4 hT4
  have hB4 : Below w.heap.size w ((((w.alloc (.cells #[.int .i64 d, .map none] 53)).alloc (.cells mv 28)).alloc (.cells #[.int .i64 n, .int .i64 i, .int .i64 vc, .int .i64 va, .int .i64 ef, .int .i64 pa] 23)).alloc (.cells ca 69)) := ((((Below.refl _ _).alloc (Nat.le_refl _) _).alloc (by rw [World.size_alloc]; omega) _).alloc (by rw [World.size_alloc, World.size_alloc]; omega) _).alloc (by rw [hs3]; omega) _
  have L28 := Lib.hid hu
  have R28 := Lib.hid hr
  clear hu hr hm hd3 hd0 hc3 hn4 hca
  have HA4 := Lib.hid hA4
  have HT4 := Lib.hid hT4
  have HD4 := Lib.hid hd4
  have HC4 := Lib.hid hc4
  have HB4 := Lib.hid hB4
  clear hA4 hT4 hd4 hc4 hB4
  go_enter Tryz.func38, Tryz.ntmps38
  go_wp2_with (first | (refine wpList_load_mid rfl 28 _ rfl (w.heap.size + 1) 0 rfl mv.toList _ R28.out Tryz.underlying28 rfl L28.out ?_) | (refine wpList_build2 rfl 69 0 1 _ _ rfl (.agg mv) (.int .i64 d) (.agg ca) rfl rfl (Hb.out _) ?_) | (go_at_call 50; refine (pcolumn w.heap.size _ _ (St.mem ms e p) d vc va (by omega) v1 a0 a1 HT4.out (by simp [St.mem]) HA4.out).mono ?_; rintro _ w5 ⟨rfl, hA5, hK5⟩))
  have hd5 := apart_new hK5 HD4.out (by omega) (by decide)
  have hc5 := apart_new hK5 HC4.out (by omega) (by decide)
  have hB5 := HB4.out.trans (hK5.below (by omega) (Nat.le_refl _) HB4.out.size)
  clear hK5
  clear HA4 HT4 HD4 HC4 HB4 R28 L28 Hb hs3
  have hA6 : PAt w.heap.size w5 _ (St.colS d vc va (St.mem ms e p)) := hA5.eq (by unfold St.colS; rw [if_pos (by omega)])
  have so := colS_ops d vc va (St.mem ms e p)
  have se := colS_eff d vc va (St.mem ms e p)
  have so' : (St.colS d vc va (St.mem ms e p)).ops.length ≤ 1 := so
  have se' : (St.colS d vc va (St.mem ms e p)).eff = e := se
  clear hA5 so se
  have x4 : w5.cell? ⟨w.heap.size + 1 + 1, 4, none⟩ = some (.int .i64 ef) := (cell_of hc5 4).trans rfl
  have x5 : w5.cell? ⟨w.heap.size + 1 + 1, 5, none⟩ = some (.int .i64 pa) := (cell_of hc5 5).trans rfl
  go_region
  replace hA6 := hA6.drew
  replace hB5 : Below w.heap.size w w5.drew := ⟨hB5.os, hB5.tape, hB5.output, hB5.size, hB5.block⟩
  change w5.drew.heap[_]? = _ at hd5
  change w5.drew.heap[_]? = _ at hc5
  clear x4 x5
  have hAS : St.askedS d n vc va ef pa (St.mem ms e p) = St.doS d ef pa (St.colS d vc va (St.mem ms e p)) := by simp [St.askedS, show ¬ d = 5 from by simpa using h5]
  have HAS := Lib.hid hAS
  clear hAS
  generalize w5.drew = w6 at hA6 hB5 hd5 hc5 ⊢
  generalize St.colS d vc va (St.mem ms e p) = S1 at *
  have y0 : w6.cell? ⟨w.heap.size, 0, none⟩ = some (.int .i64 d) := (cell_of hd5 0).trans rfl
  have R23 := Lib.hid (range_of hc5)
  have lb : 0 ≤ ef ∧ ef ≤ 36 := ⟨ef0, ef1⟩
  have hA7 := hA6
  have R53 := Lib.hid (range_of hd5)
  have HB7 := Lib.hid hB5
  have so2 := so'
  have HD := Lib.hid hd5
  have HB := Lib.hid hB5
  clear hd5 hB5
  by_cases hE : 0 < ef
  · have hqn := neq_nil
    have hqf := neq_func
    go_wp2_with (first | (go_at_call 53; refine (pput w.heap.size _ _ S1 pa (hA7.below hB8)).mono ?_; rintro _ w9 ⟨rfl, hA9, hK9⟩) | (refine wpList_load_mid rfl 53 _ rfl w.heap.size 0 rfl [.int .i64 d, .map none] _ R53.out Tryz.underlying53 rfl info53 ?_) | (go_at_call 52; refine (peffect2 (fun _ => False) w.heap.size (w.heap.size + 1 + 1 + 1) _ hA7.lt (fun _ h => h.elim) d ef d0 d1 (by omega) lb.2).mono ?_; rintro _ w8 ⟨v, rfl, hB8, (⟨h1, rfl⟩ | ⟨F, fid, cap, h1, rfl, hr, hF⟩)⟩))
    · go_ret
      exact ⟨_, rfl, (hA7.below hB8).eq (by rw [HAS.out]; unfold St.doS; rw [if_pos hE, h1.out]), HB7.out.trans (hB8.mono HB7.out.size)⟩
    · obtain ⟨fid', cap', e1, hr', hF'⟩ := hF.out
      cases e1
      refine (hF' _ _ (kp_x hK9 _) hA9 (by rw [St.ops_put]; omega)).mono ?_
      rintro _ w10 ⟨rfl, hA10, hK10⟩
      clear hF' hF hr'
      go_wp2
      go_ret
      have HB8 := HB7.out.trans (hB8.mono HB7.out.size)
      exact ⟨_, rfl, hA10.eq (by rw [HAS.out]; unfold St.doS; rw [if_pos hE, h1.out]), HB8.trans ((hK9.trans hK10).below (by omega) (Nat.le_refl _) HB8.size)⟩
  · go_wp2_with (first | (go_at_call 53; refine (pput w.heap.size _ _ S1 pa (hA7.below hB8)).mono ?_; rintro _ w9 ⟨rfl, hA9, hK9⟩) | (refine wpList_load_mid rfl 53 _ rfl w.heap.size 0 rfl [.int .i64 d, .map none] _ R53.out Tryz.underlying53 rfl info53 ?_) | (go_at_call 52; refine (peffect2 (fun _ => False) w.heap.size (w.heap.size + 1 + 1 + 1) _ hA7.lt (fun _ h => h.elim) d ef d0 d1 (by omega) lb.2).mono ?_; rintro _ w8 ⟨v, rfl, hB8, (⟨h1, rfl⟩ | ⟨F, fid, cap, h1, rfl, hr, hF⟩)⟩))
    go_ret
    exact ⟨_, rfl, hA7.eq (by rw [HAS.out]; unfold St.doS; rw [if_neg (by omega)]), HB7.out⟩
set_option maxRecDepth 100000 in
set_option maxHeartbeats 2000000 in
theorem pasked_b5 (d : Int) (d0 : 1 ≤ d) (d1 : d ≤ 6) (mv : Array Value) (ms : List Int) (e p : Int) (hM : MemV mv ms e p) (n i vc va ef pa : Int) (w : World) (ef0 : 0 ≤ ef) (ef1 : ef ≤ 36) (e0 : 0 ≤ e) (e1 : e ≤ 36)
    (v0 : ¬ 0 < vc) (h5 : (d == 5) = true) :
    Calls Tryz.prog 38 #[.agg #[.int .i64 d, .map none], .agg mv, .agg #[.int .i64 n, .int .i64 i, .int .i64 vc, .int .i64 va, .int .i64 ef, .int .i64 pa]] w fun e' w' => ∃ b, e' = .returned (.pointer (some ⟨b, 0, none⟩)) ∧ PAt w.heap.size w' b (St.askedS d n vc va ef pa (St.mem ms e p)) ∧ Below w.heap.size w w' := by
  have hd0 : ((w.alloc (.cells #[.int .i64 d, .map none] 53)).alloc (.cells mv 28)).heap[w.heap.size]? = some (.cells #[.int .i64 d, .map none] 53) :=
    (Below.heap_alloc _ _ _ (by rw [World.size_alloc]; omega)).trans (heap_alloc_new w _)
  have hd3 : (((w.alloc (.cells #[.int .i64 d, .map none] 53)).alloc (.cells mv 28)).alloc (.cells #[.int .i64 n, .int .i64 i, .int .i64 vc, .int .i64 va, .int .i64 ef, .int .i64 pa] 23)).heap[w.heap.size]? = some (.cells #[.int .i64 d, .map none] 53) := (Below.heap_alloc _ _ _ (by rw [World.size_alloc, World.size_alloc]; omega)).trans hd0
  have hm : (((w.alloc (.cells #[.int .i64 d, .map none] 53)).alloc (.cells mv 28)).alloc (.cells #[.int .i64 n, .int .i64 i, .int .i64 vc, .int .i64 va, .int .i64 ef, .int .i64 pa] 23)).heap[w.heap.size + 1]? = some (.cells mv 28) := by
    have h1 := heap_alloc_new (w.alloc (.cells #[.int .i64 d, .map none] 53)) (.cells mv 28)
    rw [World.size_alloc] at h1
    exact (Below.heap_alloc _ _ _ (by rw [World.size_alloc, World.size_alloc]; omega)).trans h1
  have hc3 : (((w.alloc (.cells #[.int .i64 d, .map none] 53)).alloc (.cells mv 28)).alloc (.cells #[.int .i64 n, .int .i64 i, .int .i64 vc, .int .i64 va, .int .i64 ef, .int .i64 pa] 23)).heap[w.heap.size + 1 + 1]? = some (.cells #[.int .i64 n, .int .i64 i, .int .i64 vc, .int .i64 va, .int .i64 ef, .int .i64 pa] 23) := by
    have h1 := heap_alloc_new ((w.alloc (.cells #[.int .i64 d, .map none] 53)).alloc (.cells mv 28)) (.cells #[.int .i64 n, .int .i64 i, .int .i64 vc, .int .i64 va, .int .i64 ef, .int .i64 pa] 23)
    rw [World.size_alloc, World.size_alloc] at h1
    exact h1
  have hs3 : (((w.alloc (.cells #[.int .i64 d, .map none] 53)).alloc (.cells mv 28)).alloc (.cells #[.int .i64 n, .int .i64 i, .int .i64 vc, .int .i64 va, .int .i64 ef, .int .i64 pa] 23)).heap.size = w.heap.size + 1 + 1 + 1 := by rw [World.size_alloc, World.size_alloc, World.size_alloc]
  have hr := range_of hm
  have hu : (Tryz.prog.info? 28).map (·.size) = some mv.toList.length := by rw [Array.length_toList, hM.size]; exact info28
  obtain ⟨ca, hca, hb⟩ : ∃ ca, ca = mv ++ #[.int .i64 d, .int .i64 0, .int .i64 0, .int .i64 0, .slice none 0 0, .bool false] ∧ ∀ w, (Instr.build 69 #[(0, .agg mv), (1, .int .i64 d)]).run Tryz.prog w = .ok (.agg ca) w := ⟨_, rfl, build69 mv hM.size d⟩
  have Hb := Lib.hid hb
  clear hb
  have hd4 : ((((w.alloc (.cells #[.int .i64 d, .map none] 53)).alloc (.cells mv 28)).alloc (.cells #[.int .i64 n, .int .i64 i, .int .i64 vc, .int .i64 va, .int .i64 ef, .int .i64 pa] 23)).alloc (.cells ca 69)).heap[w.heap.size]? = some (.cells #[.int .i64 d, .map none] 53) := (Below.heap_alloc _ _ _ (by rw [hs3]; omega)).trans hd3
  have hc4 : ((((w.alloc (.cells #[.int .i64 d, .map none] 53)).alloc (.cells mv 28)).alloc (.cells #[.int .i64 n, .int .i64 i, .int .i64 vc, .int .i64 va, .int .i64 ef, .int .i64 pa] 23)).alloc (.cells ca 69)).heap[w.heap.size + 1 + 1]? = some (.cells #[.int .i64 n, .int .i64 i, .int .i64 vc, .int .i64 va, .int .i64 ef, .int .i64 pa] 23) := (Below.heap_alloc _ _ _ (by rw [hs3]; omega)).trans hc3
  have hn4 : ((((w.alloc (.cells #[.int .i64 d, .map none] 53)).alloc (.cells mv 28)).alloc (.cells #[.int .i64 n, .int .i64 i, .int .i64 vc, .int .i64 va, .int .i64 ef, .int .i64 pa] 23)).alloc (.cells ca 69)).heap[w.heap.size + 1 + 1 + 1]? = some (.cells ca 69) := by have h1 := heap_alloc_new (((w.alloc (.cells #[.int .i64 d, .map none] 53)).alloc (.cells mv 28)).alloc (.cells #[.int .i64 n, .int .i64 i, .int .i64 vc, .int .i64 va, .int .i64 ef, .int .i64 pa] 23)) (.cells ca 69); rw [hs3] at h1; exact h1
  rw [hca] at hn4
  obtain ⟨hA4, hT4⟩ := At.start hM d (base := w.heap.size) (by omega) hn4
  rw [← hca] at hA4 hT4
  have hB4 : Below w.heap.size w ((((w.alloc (.cells #[.int .i64 d, .map none] 53)).alloc (.cells mv 28)).alloc (.cells #[.int .i64 n, .int .i64 i, .int .i64 vc, .int .i64 va, .int .i64 ef, .int .i64 pa] 23)).alloc (.cells ca 69)) := ((((Below.refl _ _).alloc (Nat.le_refl _) _).alloc (by rw [World.size_alloc]; omega) _).alloc (by rw [World.size_alloc, World.size_alloc]; omega) _).alloc (by rw [hs3]; omega) _
  have L28 := Lib.hid hu
  have R28 := Lib.hid hr
  clear hu hr hm hd3 hd0 hc3 hn4 hca
  have HA4 := Lib.hid hA4
  have HT4 := Lib.hid hT4
  have HD4 := Lib.hid hd4
  have HC4 := Lib.hid hc4
  have HB4 := Lib.hid hB4
  clear hA4 hT4 hd4 hc4 hB4
  go_enter Tryz.func38, Tryz.ntmps38
  go_wp2_with (first | (refine wpList_load_mid rfl 28 _ rfl (w.heap.size + 1) 0 rfl mv.toList _ R28.out Tryz.underlying28 rfl L28.out ?_) | (refine wpList_build2 rfl 69 0 1 _ _ rfl (.agg mv) (.int .i64 d) (.agg ca) rfl rfl (Hb.out _) ?_))
  have hd5 := HD4.out
  have hc5 := HC4.out
  have hA5 := HA4.out
  have hB5 := HB4.out
  generalize (((w.alloc (.cells #[.int .i64 d, .map none] 53)).alloc (.cells mv 28)).alloc (.cells #[.int .i64 n, .int .i64 i, .int .i64 vc, .int .i64 va, .int .i64 ef, .int .i64 pa] 23)).alloc (.cells ca 69) = w5 at hd5 hc5 hA5 hB5 ⊢
  clear HA4 HT4 HD4 HC4 HB4 R28 L28 Hb hs3
  have hA6 : PAt w.heap.size w5 _ (St.colS d vc va (St.mem ms e p)) := hA5.eq (by unfold St.colS; rw [if_neg (by omega)])
  have so := colS_ops d vc va (St.mem ms e p)
  have se := colS_eff d vc va (St.mem ms e p)
  have so' : (St.colS d vc va (St.mem ms e p)).ops.length ≤ 1 := so
  have se' : (St.colS d vc va (St.mem ms e p)).eff = e := se
  clear hA5 so se
  have x4 : w5.cell? ⟨w.heap.size + 1 + 1, 4, none⟩ = some (.int .i64 ef) := (cell_of hc5 4).trans rfl
  have x5 : w5.cell? ⟨w.heap.size + 1 + 1, 5, none⟩ = some (.int .i64 pa) := (cell_of hc5 5).trans rfl
  go_region
  replace hA6 := hA6.drew
  replace hB5 : Below w.heap.size w w5.drew := ⟨hB5.os, hB5.tape, hB5.output, hB5.size, hB5.block⟩
  change w5.drew.heap[_]? = _ at hd5
  change w5.drew.heap[_]? = _ at hc5
  clear x4 x5
  have hAS : St.askedS d n vc va ef pa (St.mem ms e p) = St.doS d (lastingE n ef pa (St.colS d vc va (St.mem ms e p))).1 (lastingE n ef pa (St.colS d vc va (St.mem ms e p))).2 (St.lastingS n ef pa (St.colS d vc va (St.mem ms e p))) := by simp [St.askedS, show d = 5 from by simpa using h5]
  have HAS := Lib.hid hAS
  clear hAS
  generalize w5.drew = w6 at hA6 hB5 hd5 hc5 ⊢
  generalize St.colS d vc va (St.mem ms e p) = S1 at *
  have y0 : w6.cell? ⟨w.heap.size, 0, none⟩ = some (.int .i64 d) := (cell_of hd5 0).trans rfl
  have R23 := Lib.hid (range_of hc5)
  have hL := plasting w.heap.size (w.heap.size + 1 + 1 + 1) w6 S1 n i vc va ef pa ef0 ef1 (by rw [se']; exact e0) (by rw [se']; exact e1) hA6
  have lb := lastingE_b n ef pa S1 ef0 ef1 (by rw [se']; exact e0) (by rw [se']; exact e1)
  have lo := lastingS_ops n ef pa S1
  generalize (lastingE n ef pa S1).1 = E at hL lb HAS
  generalize (lastingE n ef pa S1).2 = P at hL HAS
  generalize St.lastingS n ef pa S1 = S2 at hL lo HAS
  have so2 : S2.ops.length ≤ 1 := by rw [lo]; exact so'
  have HL := Lib.hid hL
  clear hL lo
  have HD := Lib.hid hd5
  have HB := Lib.hid hB5
  clear hd5 hB5
  by_cases hE : 0 < E
  · have hqn := neq_nil
    have hqf := neq_func
    go_wp2_with (first | (refine wpList_load_mid rfl 23 _ rfl (w.heap.size + 1 + 1) 0 rfl [.int .i64 n, .int .i64 i, .int .i64 vc, .int .i64 va, .int .i64 ef, .int .i64 pa] _ R23.out Tryz.underlying23 rfl info23 ?_) | (go_at_call 51; refine HL.out.mono ?_; rintro _ w7 ⟨rfl, hA7, hK7⟩; have hd7 := apart_new hK7 HD.out (by omega) (by decide); have R53 := Lib.hid (range_of hd7); have HB7 := Lib.hid (HB.out.trans (hK7.below (by omega) (Nat.le_refl _) HB.out.size)); clear hK7 hd7) | (go_at_call 53; refine (pput w.heap.size _ _ S2 P (hA7.below hB8)).mono ?_; rintro _ w9 ⟨rfl, hA9, hK9⟩) | (refine wpList_load_mid rfl 53 _ rfl w.heap.size 0 rfl [.int .i64 d, .map none] _ R53.out Tryz.underlying53 rfl info53 ?_) | (go_at_call 52; refine (peffect2 (fun _ => False) w.heap.size (w.heap.size + 1 + 1 + 1) _ hA7.lt (fun _ h => h.elim) d E d0 d1 (by omega) lb.2).mono ?_; rintro _ w8 ⟨v, rfl, hB8, (⟨h1, rfl⟩ | ⟨F, fid, cap, h1, rfl, hr, hF⟩)⟩))
    · go_ret
      exact ⟨_, rfl, (hA7.below hB8).eq (by rw [HAS.out]; unfold St.doS; rw [if_pos hE, h1.out]), HB7.out.trans (hB8.mono HB7.out.size)⟩
    · obtain ⟨fid', cap', e1, hr', hF'⟩ := hF.out
      cases e1
      refine (hF' _ _ (kp_x hK9 _) hA9 (by rw [St.ops_put]; omega)).mono ?_
      rintro _ w10 ⟨rfl, hA10, hK10⟩
      clear hF' hF hr'
      go_wp2
      go_ret
      have HB8 := HB7.out.trans (hB8.mono HB7.out.size)
      exact ⟨_, rfl, hA10.eq (by rw [HAS.out]; unfold St.doS; rw [if_pos hE, h1.out]), HB8.trans ((hK9.trans hK10).below (by omega) (Nat.le_refl _) HB8.size)⟩
  · go_wp2_with (first | (refine wpList_load_mid rfl 23 _ rfl (w.heap.size + 1 + 1) 0 rfl [.int .i64 n, .int .i64 i, .int .i64 vc, .int .i64 va, .int .i64 ef, .int .i64 pa] _ R23.out Tryz.underlying23 rfl info23 ?_) | (go_at_call 51; refine HL.out.mono ?_; rintro _ w7 ⟨rfl, hA7, hK7⟩; have hd7 := apart_new hK7 HD.out (by omega) (by decide); have R53 := Lib.hid (range_of hd7); have HB7 := Lib.hid (HB.out.trans (hK7.below (by omega) (Nat.le_refl _) HB.out.size)); clear hK7 hd7) | (go_at_call 53; refine (pput w.heap.size _ _ S2 P (hA7.below hB8)).mono ?_; rintro _ w9 ⟨rfl, hA9, hK9⟩) | (refine wpList_load_mid rfl 53 _ rfl w.heap.size 0 rfl [.int .i64 d, .map none] _ R53.out Tryz.underlying53 rfl info53 ?_) | (go_at_call 52; refine (peffect2 (fun _ => False) w.heap.size (w.heap.size + 1 + 1 + 1) _ hA7.lt (fun _ h => h.elim) d E d0 d1 (by omega) lb.2).mono ?_; rintro _ w8 ⟨v, rfl, hB8, (⟨h1, rfl⟩ | ⟨F, fid, cap, h1, rfl, hr, hF⟩)⟩))
    go_ret
    exact ⟨_, rfl, hA7.eq (by rw [HAS.out]; unfold St.doS; rw [if_neg (by omega)]), HB7.out⟩
set_option maxRecDepth 100000 in
set_option maxHeartbeats 2000000 in
theorem pasked_b (d : Int) (d0 : 1 ≤ d) (d1 : d ≤ 6) (mv : Array Value) (ms : List Int) (e p : Int) (hM : MemV mv ms e p) (n i vc va ef pa : Int) (w : World) (ef0 : 0 ≤ ef) (ef1 : ef ≤ 36) (e0 : 0 ≤ e) (e1 : e ≤ 36)
    (v0 : ¬ 0 < vc) (h5 : (d == 5) = false) :
    Calls Tryz.prog 38 #[.agg #[.int .i64 d, .map none], .agg mv, .agg #[.int .i64 n, .int .i64 i, .int .i64 vc, .int .i64 va, .int .i64 ef, .int .i64 pa]] w fun e' w' => ∃ b, e' = .returned (.pointer (some ⟨b, 0, none⟩)) ∧ PAt w.heap.size w' b (St.askedS d n vc va ef pa (St.mem ms e p)) ∧ Below w.heap.size w w' := by
  have hd0 : ((w.alloc (.cells #[.int .i64 d, .map none] 53)).alloc (.cells mv 28)).heap[w.heap.size]? = some (.cells #[.int .i64 d, .map none] 53) :=
    (Below.heap_alloc _ _ _ (by rw [World.size_alloc]; omega)).trans (heap_alloc_new w _)
  have hd3 : (((w.alloc (.cells #[.int .i64 d, .map none] 53)).alloc (.cells mv 28)).alloc (.cells #[.int .i64 n, .int .i64 i, .int .i64 vc, .int .i64 va, .int .i64 ef, .int .i64 pa] 23)).heap[w.heap.size]? = some (.cells #[.int .i64 d, .map none] 53) := (Below.heap_alloc _ _ _ (by rw [World.size_alloc, World.size_alloc]; omega)).trans hd0
  have hm : (((w.alloc (.cells #[.int .i64 d, .map none] 53)).alloc (.cells mv 28)).alloc (.cells #[.int .i64 n, .int .i64 i, .int .i64 vc, .int .i64 va, .int .i64 ef, .int .i64 pa] 23)).heap[w.heap.size + 1]? = some (.cells mv 28) := by
    have h1 := heap_alloc_new (w.alloc (.cells #[.int .i64 d, .map none] 53)) (.cells mv 28)
    rw [World.size_alloc] at h1
    exact (Below.heap_alloc _ _ _ (by rw [World.size_alloc, World.size_alloc]; omega)).trans h1
  have hc3 : (((w.alloc (.cells #[.int .i64 d, .map none] 53)).alloc (.cells mv 28)).alloc (.cells #[.int .i64 n, .int .i64 i, .int .i64 vc, .int .i64 va, .int .i64 ef, .int .i64 pa] 23)).heap[w.heap.size + 1 + 1]? = some (.cells #[.int .i64 n, .int .i64 i, .int .i64 vc, .int .i64 va, .int .i64 ef, .int .i64 pa] 23) := by
    have h1 := heap_alloc_new ((w.alloc (.cells #[.int .i64 d, .map none] 53)).alloc (.cells mv 28)) (.cells #[.int .i64 n, .int .i64 i, .int .i64 vc, .int .i64 va, .int .i64 ef, .int .i64 pa] 23)
    rw [World.size_alloc, World.size_alloc] at h1
    exact h1
  have hs3 : (((w.alloc (.cells #[.int .i64 d, .map none] 53)).alloc (.cells mv 28)).alloc (.cells #[.int .i64 n, .int .i64 i, .int .i64 vc, .int .i64 va, .int .i64 ef, .int .i64 pa] 23)).heap.size = w.heap.size + 1 + 1 + 1 := by rw [World.size_alloc, World.size_alloc, World.size_alloc]
  have hr := range_of hm
  have hu : (Tryz.prog.info? 28).map (·.size) = some mv.toList.length := by rw [Array.length_toList, hM.size]; exact info28
  obtain ⟨ca, hca, hb⟩ : ∃ ca, ca = mv ++ #[.int .i64 d, .int .i64 0, .int .i64 0, .int .i64 0, .slice none 0 0, .bool false] ∧ ∀ w, (Instr.build 69 #[(0, .agg mv), (1, .int .i64 d)]).run Tryz.prog w = .ok (.agg ca) w := ⟨_, rfl, build69 mv hM.size d⟩
  have Hb := Lib.hid hb
  clear hb
  have hd4 : ((((w.alloc (.cells #[.int .i64 d, .map none] 53)).alloc (.cells mv 28)).alloc (.cells #[.int .i64 n, .int .i64 i, .int .i64 vc, .int .i64 va, .int .i64 ef, .int .i64 pa] 23)).alloc (.cells ca 69)).heap[w.heap.size]? = some (.cells #[.int .i64 d, .map none] 53) := (Below.heap_alloc _ _ _ (by rw [hs3]; omega)).trans hd3
  have hc4 : ((((w.alloc (.cells #[.int .i64 d, .map none] 53)).alloc (.cells mv 28)).alloc (.cells #[.int .i64 n, .int .i64 i, .int .i64 vc, .int .i64 va, .int .i64 ef, .int .i64 pa] 23)).alloc (.cells ca 69)).heap[w.heap.size + 1 + 1]? = some (.cells #[.int .i64 n, .int .i64 i, .int .i64 vc, .int .i64 va, .int .i64 ef, .int .i64 pa] 23) := (Below.heap_alloc _ _ _ (by rw [hs3]; omega)).trans hc3
  have hn4 : ((((w.alloc (.cells #[.int .i64 d, .map none] 53)).alloc (.cells mv 28)).alloc (.cells #[.int .i64 n, .int .i64 i, .int .i64 vc, .int .i64 va, .int .i64 ef, .int .i64 pa] 23)).alloc (.cells ca 69)).heap[w.heap.size + 1 + 1 + 1]? = some (.cells ca 69) := by have h1 := heap_alloc_new (((w.alloc (.cells #[.int .i64 d, .map none] 53)).alloc (.cells mv 28)).alloc (.cells #[.int .i64 n, .int .i64 i, .int .i64 vc, .int .i64 va, .int .i64 ef, .int .i64 pa] 23)) (.cells ca 69); rw [hs3] at h1; exact h1
  rw [hca] at hn4
  obtain ⟨hA4, hT4⟩ := At.start hM d (base := w.heap.size) (by omega) hn4
  rw [← hca] at hA4 hT4
  have hB4 : Below w.heap.size w ((((w.alloc (.cells #[.int .i64 d, .map none] 53)).alloc (.cells mv 28)).alloc (.cells #[.int .i64 n, .int .i64 i, .int .i64 vc, .int .i64 va, .int .i64 ef, .int .i64 pa] 23)).alloc (.cells ca 69)) := ((((Below.refl _ _).alloc (Nat.le_refl _) _).alloc (by rw [World.size_alloc]; omega) _).alloc (by rw [World.size_alloc, World.size_alloc]; omega) _).alloc (by rw [hs3]; omega) _
  have L28 := Lib.hid hu
  have R28 := Lib.hid hr
  clear hu hr hm hd3 hd0 hc3 hn4 hca
  have HA4 := Lib.hid hA4
  have HT4 := Lib.hid hT4
  have HD4 := Lib.hid hd4
  have HC4 := Lib.hid hc4
  have HB4 := Lib.hid hB4
  clear hA4 hT4 hd4 hc4 hB4
  go_enter Tryz.func38, Tryz.ntmps38
  go_wp2_with (first | (refine wpList_load_mid rfl 28 _ rfl (w.heap.size + 1) 0 rfl mv.toList _ R28.out Tryz.underlying28 rfl L28.out ?_) | (refine wpList_build2 rfl 69 0 1 _ _ rfl (.agg mv) (.int .i64 d) (.agg ca) rfl rfl (Hb.out _) ?_))
  have hd5 := HD4.out
  have hc5 := HC4.out
  have hA5 := HA4.out
  have hB5 := HB4.out
  generalize (((w.alloc (.cells #[.int .i64 d, .map none] 53)).alloc (.cells mv 28)).alloc (.cells #[.int .i64 n, .int .i64 i, .int .i64 vc, .int .i64 va, .int .i64 ef, .int .i64 pa] 23)).alloc (.cells ca 69) = w5 at hd5 hc5 hA5 hB5 ⊢
  clear HA4 HT4 HD4 HC4 HB4 R28 L28 Hb hs3
  have hA6 : PAt w.heap.size w5 _ (St.colS d vc va (St.mem ms e p)) := hA5.eq (by unfold St.colS; rw [if_neg (by omega)])
  have so := colS_ops d vc va (St.mem ms e p)
  have se := colS_eff d vc va (St.mem ms e p)
  have so' : (St.colS d vc va (St.mem ms e p)).ops.length ≤ 1 := so
  have se' : (St.colS d vc va (St.mem ms e p)).eff = e := se
  clear hA5 so se
  have x4 : w5.cell? ⟨w.heap.size + 1 + 1, 4, none⟩ = some (.int .i64 ef) := (cell_of hc5 4).trans rfl
  have x5 : w5.cell? ⟨w.heap.size + 1 + 1, 5, none⟩ = some (.int .i64 pa) := (cell_of hc5 5).trans rfl
  go_region
  replace hA6 := hA6.drew
  replace hB5 : Below w.heap.size w w5.drew := ⟨hB5.os, hB5.tape, hB5.output, hB5.size, hB5.block⟩
  change w5.drew.heap[_]? = _ at hd5
  change w5.drew.heap[_]? = _ at hc5
  clear x4 x5
  have hAS : St.askedS d n vc va ef pa (St.mem ms e p) = St.doS d ef pa (St.colS d vc va (St.mem ms e p)) := by simp [St.askedS, show ¬ d = 5 from by simpa using h5]
  have HAS := Lib.hid hAS
  clear hAS
  generalize w5.drew = w6 at hA6 hB5 hd5 hc5 ⊢
  generalize St.colS d vc va (St.mem ms e p) = S1 at *
  have y0 : w6.cell? ⟨w.heap.size, 0, none⟩ = some (.int .i64 d) := (cell_of hd5 0).trans rfl
  have R23 := Lib.hid (range_of hc5)
  have lb : 0 ≤ ef ∧ ef ≤ 36 := ⟨ef0, ef1⟩
  have hA7 := hA6
  have R53 := Lib.hid (range_of hd5)
  have HB7 := Lib.hid hB5
  have so2 := so'
  have HD := Lib.hid hd5
  have HB := Lib.hid hB5
  clear hd5 hB5
  by_cases hE : 0 < ef
  · have hqn := neq_nil
    have hqf := neq_func
    go_wp2_with (first | (go_at_call 53; refine (pput w.heap.size _ _ S1 pa (hA7.below hB8)).mono ?_; rintro _ w9 ⟨rfl, hA9, hK9⟩) | (refine wpList_load_mid rfl 53 _ rfl w.heap.size 0 rfl [.int .i64 d, .map none] _ R53.out Tryz.underlying53 rfl info53 ?_) | (go_at_call 52; refine (peffect2 (fun _ => False) w.heap.size (w.heap.size + 1 + 1 + 1) _ hA7.lt (fun _ h => h.elim) d ef d0 d1 (by omega) lb.2).mono ?_; rintro _ w8 ⟨v, rfl, hB8, (⟨h1, rfl⟩ | ⟨F, fid, cap, h1, rfl, hr, hF⟩)⟩))
    · go_ret
      exact ⟨_, rfl, (hA7.below hB8).eq (by rw [HAS.out]; unfold St.doS; rw [if_pos hE, h1.out]), HB7.out.trans (hB8.mono HB7.out.size)⟩
    · obtain ⟨fid', cap', e1, hr', hF'⟩ := hF.out
      cases e1
      refine (hF' _ _ (kp_x hK9 _) hA9 (by rw [St.ops_put]; omega)).mono ?_
      rintro _ w10 ⟨rfl, hA10, hK10⟩
      clear hF' hF hr'
      go_wp2
      go_ret
      have HB8 := HB7.out.trans (hB8.mono HB7.out.size)
      exact ⟨_, rfl, hA10.eq (by rw [HAS.out]; unfold St.doS; rw [if_pos hE, h1.out]), HB8.trans ((hK9.trans hK10).below (by omega) (Nat.le_refl _) HB8.size)⟩
  · go_wp2_with (first | (go_at_call 53; refine (pput w.heap.size _ _ S1 pa (hA7.below hB8)).mono ?_; rintro _ w9 ⟨rfl, hA9, hK9⟩) | (refine wpList_load_mid rfl 53 _ rfl w.heap.size 0 rfl [.int .i64 d, .map none] _ R53.out Tryz.underlying53 rfl info53 ?_) | (go_at_call 52; refine (peffect2 (fun _ => False) w.heap.size (w.heap.size + 1 + 1 + 1) _ hA7.lt (fun _ h => h.elim) d ef d0 d1 (by omega) lb.2).mono ?_; rintro _ w8 ⟨v, rfl, hB8, (⟨h1, rfl⟩ | ⟨F, fid, cap, h1, rfl, hr, hF⟩)⟩))
    go_ret
    exact ⟨_, rfl, hA7.eq (by rw [HAS.out]; unfold St.doS; rw [if_neg (by omega)]), HB7.out⟩
theorem pasked (d : Int) (d0 : 1 ≤ d) (d1 : d ≤ 6) (mv : Array Value) (ms : List Int) (e p : Int) (hM : MemV mv ms e p) (n i vc va ef pa : Int) (w : World) (ef0 : 0 ≤ ef) (ef1 : ef ≤ 36) (e0 : 0 ≤ e) (e1 : e ≤ 36) (v1 : vc ≤ 10) (a0 : 0 ≤ va) (a1 : va ≤ 99) :
    Calls Tryz.prog 38 #[.agg #[.int .i64 d, .map none], .agg mv, .agg #[.int .i64 n, .int .i64 i, .int .i64 vc, .int .i64 va, .int .i64 ef, .int .i64 pa]] w fun e' w' => ∃ b, e' = .returned (.pointer (some ⟨b, 0, none⟩)) ∧ PAt w.heap.size w' b (St.askedS d n vc va ef pa (St.mem ms e p)) ∧ Below w.heap.size w w' := by
  by_cases v : 0 < vc <;> by_cases h : d = 5
  · exact pasked_a5 d d0 d1 mv ms e p hM n i vc va ef pa w ef0 ef1 e0 e1 v v1 a0 a1 (by simp [h])
  · exact pasked_a d d0 d1 mv ms e p hM n i vc va ef pa w ef0 ef1 e0 e1 v v1 a0 a1 (by simp [h])
  · exact pasked_b5 d d0 d1 mv ms e p hM n i vc va ef pa w ef0 ef1 e0 e1 v (by simp [h])
  · exact pasked_b d d0 d1 mv ms e p hM n i vc va ef pa w ef0 ef1 e0 e1 v (by simp [h])
end Go.Proofs.YtappnglfmidjoaaGreat.D
