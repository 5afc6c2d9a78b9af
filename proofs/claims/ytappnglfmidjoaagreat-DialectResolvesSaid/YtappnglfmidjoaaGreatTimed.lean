/- timed: a map of four effects whose parts Go may lay in many orders: in each the map is the same. -/
import Derived.Orders
import Derived.Test.YtappnglfmidjoaaGreatBuild
set_option linter.unusedVariables false
set_option linter.unusedSimpArgs false
namespace Go.Proofs.YtappnglfmidjoaaGreat.D
open Go Go.RowKit Go.Proofs.YtappnglfmidjoaaGreat.DB

/-- How many operations are not yet done. -/
def left (l : Array Bool) : Nat := (l.toList.filter (fun x => !x)).length
theorem left_set {l : List Bool} {i : Nat} (hi : l[i]? = some false) : ((l.set i true).filter (fun x => !x)).length + 1 = (l.filter (fun x => !x)).length := by
  induction l generalizing i with
  | nil => simp at hi
  | cons x t ih =>
    cases i with
    | zero =>
      simp at hi
      subst hi
      simp
    | succ i =>
      simp only [List.getElem?_cons_succ] at hi
      have := ih hi
      cases x <;> simp [List.filter_cons] <;> omega
theorem listed_at {listed : Array Bool} {j : Nat} (h : listed.getD j true = false) : listed[j]? = some false := by
  rcases Nat.lt_or_ge j listed.size with h' | h'
  · rw [Array.getElem?_eq_getElem h']
    simpa [Array.getD, h'] using h
  · simp [Array.getD, Nat.not_lt.2 h'] at h
/-- A region that draws its order, by what holds however many of its operations are done. -/
theorem wpAny_inv {P : Program} {md : Region.Mode} {ops : Array Oper} {Q : Exit → Act → World → Prop} (I : Array Bool → Act → World → Prop)
    (hstep : ∀ listed a w i, I listed a w → listed.size = ops.size → i ∈ Region.ready md ops listed → wpOp P ops Q i (fun a' w' => I (listed.setIfInBounds i true) a' w') a w)
    (hend : ∀ listed a w, I listed a w → listed.size = ops.size → Region.ready md ops listed = [] → Q .normal a w) :
    ∀ fuel listed a w, I listed a w → listed.size = ops.size → left listed ≤ fuel → wpAny P md ops Q fuel listed a w := by
  intro fuel
  induction fuel with
  | zero =>
    intro listed a w hI hs hl
    have hr : Region.ready md ops listed = [] := by
      rw [List.eq_nil_iff_forall_not_mem]
      intro j hj
      obtain ⟨h1, h2⟩ := mem_ready.1 hj
      have h3 : listed.toList.filter (fun x => !x) = [] := List.eq_nil_of_length_eq_zero (by unfold left at hl; omega)
      have h5 : false ∈ listed.toList := List.mem_of_getElem? (i := j) (by rw [Array.getElem?_toList]; exact listed_at h1)
      have h6 : false ∈ listed.toList.filter (fun x => !x) := List.mem_filter.2 ⟨h5, rfl⟩
      rw [h3] at h6
      cases h6
    exact ⟨hr, hend listed a w hI hs hr⟩
  | succ n ih =>
    intro listed a w hI hs hl
    refine ⟨hend listed a w hI hs, fun i hi => ?_⟩
    refine wpOp_mono (fun a' w' hI' => ih _ a' w' hI' (by simpa using hs) ?_) (hstep listed a w i hI hs hi)
    have h1 := listed_at (mem_ready.1 hi).1
    have h2 := left_set (l := listed.toList) (i := i) (by rw [Array.getElem?_toList]; exact h1)
    unfold left at hl ⊢
    rw [Array.toList_setIfInBounds]
    omega
/-- Where each operation waits for earlier ones alone, nothing is ready only when all are done. -/
theorem all_done {md : Region.Mode} {ops : Array Oper} (hb : ∀ (j : Nat) (o : Oper), ops[j]? = some o → ∀ e ∈ o.after, e.on < j) {listed : Array Bool} (hs : listed.size = ops.size) (hr : Region.ready md ops listed = []) :
    ∀ j, j < ops.size → listed.getD j false = true := by
  intro j
  induction j using Nat.strongRecOn with
  | ind j ih =>
    intro hj
    cases h : listed.getD j false with
    | true => rfl
    | false =>
      exfalso
      have hm : j ∈ Region.ready md ops listed := by
        refine mem_ready.2 ⟨?_, ops[j], Array.getElem?_eq_getElem hj, fun e he _ => ?_⟩
        · have hj' : j < listed.size := by omega
          simp [Array.getD, hj'] at h ⊢
          exact h
        · have := hb j _ (Array.getElem?_eq_getElem hj) e he
          exact ih e.on this (by omega)
      rw [hr] at hm
      cases hm
theorem getD_upd {listed : Array Bool} {i : Nat} (hi : i < listed.size) (j : Nat) : (listed.setIfInBounds i true).getD j false = if j = i then true else listed.getD j false := by
  by_cases h : j = i
  · subst h; simp [hi]
  · rw [if_neg h, getD_set_ne false (fun e => h e.symm)]

def backB (ops : Array Oper) : Bool := ops.toList.zipIdx.all fun x => x.1.after.all fun e => decide (e.on < x.2)
theorem backB_spec {ops : Array Oper} (h : backB ops = true) (j : Nat) (o : Oper) (ho : ops[j]? = some o) : ∀ e ∈ o.after, e.on < j := by
  intro e he
  have h1 := List.all_eq_true.1 h (o, j) (by
    rw [List.mem_zipIdx_iff_getElem?]
    simpa using ho)
  have h2 := Array.all_eq_true_iff_forall_mem.1 h1 e he
  simpa using h2
/-! ### what holds while timed's map is laid -/
def upd (L : Nat → Bool) (i : Nat) : Nat → Bool := fun j => if j = i then true else L j
def clos (n : Nat) : Value := .func (.func 142) #[] #[.pointer (some ⟨n, 0, none⟩)]
theorem eff_clos {X : Nat → Prop} {base b n : Nat} {w : World} {kind : Int} (bx : Box 50 w b n (.int .i64 kind)) (hn : ¬ X n) : Eff X base b w (clos n) (St.fLowHalf kind) :=
  ⟨142, _, rfl, run_enter Tryz.func142 (by kernel_rfl) (by kernel_rfl), fun w' S hK hA hl => lowHalf1 base b w' S _ kind (box_kpx bx hn hK) hl hA⟩
def tTimedL (loop : Int) (L : Nat → Bool) : Int → Option (St → St) := fun k =>
  if L 9 = true ∧ k = 14 then some (St.fLowHalf 35) else if L 7 = true ∧ k = 13 then some (St.fLowHalf 22) else if L 5 = true ∧ k = 12 then some (St.fLowHalf 21) else if L 3 = true ∧ k = loop then some (St.fLowHalf 34) else none
def tTimed (loop : Int) : Int → Option (St → St) := fun k =>
  if k = 14 then some (St.fLowHalf 35) else if k = 13 then some (St.fLowHalf 22) else if k = 12 then some (St.fLowHalf 21) else if k = loop then some (St.fLowHalf 34) else none
structure TC (X : Nat → Prop) (base b : Nat) (w0 : World) (loop : Int) (L : Nat → Bool) (w : World) (s2 s3 s4 s5 s6 s7 s8 s9 : Value) : Prop where
  m0 : L 0 = true → ∃ r, s3 = .map (some r) ∧ Bld .i64 X base b w0 w r (tTimedL loop L)
  m1 : L 0 = false → Below w0.heap.size w0 w ∧ L 3 = false ∧ L 5 = false ∧ L 7 = false ∧ L 9 = false ∧ L 10 = false
  k4 : L 1 = true → s4 = .int .i64 loop
  v5 : L 2 = true → ∃ n, s5 = clos n ∧ Box 50 w b n (.int .i64 34) ∧ w0.heap.size ≤ n
  v6 : L 4 = true → ∃ n, s6 = clos n ∧ Box 50 w b n (.int .i64 21) ∧ w0.heap.size ≤ n
  v7 : L 6 = true → ∃ n, s7 = clos n ∧ Box 50 w b n (.int .i64 22) ∧ w0.heap.size ≤ n
  v8 : L 8 = true → ∃ n, s8 = clos n ∧ Box 50 w b n (.int .i64 35) ∧ w0.heap.size ≤ n
  e9 : L 10 = true → s9 = s3
  e2 : L 11 = true → s2 = s9
  e11 : L 11 = true → L 10 = true
section
variable {X : Nat → Prop} {base b : Nat} {w0 w w' : World} {loop : Int} {L : Nat → Bool} {s2 s3 s4 s5 s6 s7 s8 s9 : Value}
theorem TC.mono (h : TC X base b w0 loop L w s2 s3 s4 s5 s6 s7 s8 s9) (hB : Below w.heap.size w w') : TC X base b w0 loop L w' s2 s3 s4 s5 s6 s7 s8 s9 := by
  refine ⟨fun e => ?_, fun e => ?_, h.k4, fun e => ?_, fun e => ?_, fun e => ?_, fun e => ?_, h.e9, h.e2, h.e11⟩
  · obtain ⟨r, a, c⟩ := h.m0 e; exact ⟨r, a, c.call hB⟩
  · obtain ⟨a, c⟩ := h.m1 e; exact ⟨a.trans (hB.mono a.size), c⟩
  · obtain ⟨n, a, c, d⟩ := h.v5 e; exact ⟨n, a, c.below hB, d⟩
  · obtain ⟨n, a, c, d⟩ := h.v6 e; exact ⟨n, a, c.below hB, d⟩
  · obtain ⟨n, a, c, d⟩ := h.v7 e; exact ⟨n, a, c.below hB, d⟩
  · obtain ⟨n, a, c, d⟩ := h.v8 e; exact ⟨n, a, c.below hB, d⟩
theorem box_size (h : Below w0.heap.size w0 w) (hb : b < w0.heap.size) : b < w.heap.size := Nat.lt_of_lt_of_le hb h.size
theorem TC.size (h : TC X base b w0 loop L w s2 s3 s4 s5 s6 s7 s8 s9) : w0.heap.size ≤ w.heap.size := by
  cases e : L 0 with
  | true => obtain ⟨r, _, c⟩ := h.m0 e; exact c.below.size
  | false => exact (h.m1 e).1.size
theorem box_grown {q n r : Nat} {v : Value} {M : Int → Option (St → St)} (bx : Box q w b n v) (B : Bld .i64 X base b w0 w r M) (hg : w.grownBy w' (some r)) : Box q w' b n v ∧ n ≠ r := by
  obtain ⟨h1, cs, t, fr, hc, ht, hv⟩ := bx
  have hne : n ≠ r := by
    rintro rfl
    obtain ⟨es, c, h2, _⟩ := B.map
    rw [hc] at h2
    cases h2
  exact ⟨⟨h1, cs, t, fr, (hg.block n (Array.getElem?_eq_some_iff.1 hc).1 (fun e => hne (by cases e; rfl))).trans hc, ht, hv⟩, hne⟩
/-- The map is laid. -/
theorem TC.set0 (h : TC X base b w0 loop L w s2 s3 s4 s5 s6 s7 s8 s9) (h0 : L 0 = false) (hb : b < w0.heap.size) (hX : ∀ i, X i → i < w0.heap.size) : TC X base b w0 loop (upd L 0) (w.alloc (.map #[] 0)) s2 (.map (some w.heap.size)) s4 s5 s6 s7 s8 s9 := by
  have hB : Below w.heap.size w (w.alloc (.map #[] 0)) := (Below.refl _ _).alloc (Nat.le_refl _) _
  have h' := h.mono hB
  obtain ⟨hb0, e3, e5, e7, e9, e10⟩ := h.m1 h0
  refine ⟨fun _ => ⟨_, rfl, hb0.trans (hB.mono hb0.size), ?_, hb0.size, hb, hX⟩, fun e => by simp [upd] at e, h'.k4, h'.v5, h'.v6, h'.v7, h'.v8, fun e => by simp [upd, e10] at e, h'.e2, h'.e11⟩
  refine (MapG.made .i64 _ w).eq ?_
  funext k
  simp [tTimedL, upd, e3, e5, e7, e9]
theorem TC.set1 (h : TC X base b w0 loop L w s2 s3 s4 s5 s6 s7 s8 s9) : TC X base b w0 loop (upd L 1) w s2 s3 (.int .i64 loop) s5 s6 s7 s8 s9 :=
  ⟨h.m0, h.m1, fun _ => rfl, h.v5, h.v6, h.v7, h.v8, h.e9, h.e2, h.e11⟩
theorem TC.set2 (h : TC X base b w0 loop L w s2 s3 s4 s5 s6 s7 s8 s9) (hb : b < w0.heap.size) : TC X base b w0 loop (upd L 2) (w.alloc (.cells #[.int .i64 34] 3)) s2 s3 s4 (clos w.heap.size) s6 s7 s8 s9 := by
  have h' := h.mono ((Below.refl _ _).alloc (Nat.le_refl _) (.cells #[.int .i64 34] 3))
  exact ⟨h'.m0, h'.m1, h'.k4, fun _ => ⟨_, rfl, Box.new w b (by have := h.size; omega) _ 3 (by decide), h.size⟩, h'.v6, h'.v7, h'.v8, h'.e9, h'.e2, h'.e11⟩
theorem TC.set4 (h : TC X base b w0 loop L w s2 s3 s4 s5 s6 s7 s8 s9) (hb : b < w0.heap.size) : TC X base b w0 loop (upd L 4) (w.alloc (.cells #[.int .i64 21] 3)) s2 s3 s4 s5 (clos w.heap.size) s7 s8 s9 := by
  have h' := h.mono ((Below.refl _ _).alloc (Nat.le_refl _) (.cells #[.int .i64 21] 3))
  exact ⟨h'.m0, h'.m1, h'.k4, h'.v5, fun _ => ⟨_, rfl, Box.new w b (by have := h.size; omega) _ 3 (by decide), h.size⟩, h'.v7, h'.v8, h'.e9, h'.e2, h'.e11⟩
theorem TC.set6 (h : TC X base b w0 loop L w s2 s3 s4 s5 s6 s7 s8 s9) (hb : b < w0.heap.size) : TC X base b w0 loop (upd L 6) (w.alloc (.cells #[.int .i64 22] 3)) s2 s3 s4 s5 s6 (clos w.heap.size) s8 s9 := by
  have h' := h.mono ((Below.refl _ _).alloc (Nat.le_refl _) (.cells #[.int .i64 22] 3))
  exact ⟨h'.m0, h'.m1, h'.k4, h'.v5, h'.v6, fun _ => ⟨_, rfl, Box.new w b (by have := h.size; omega) _ 3 (by decide), h.size⟩, h'.v8, h'.e9, h'.e2, h'.e11⟩
theorem TC.set8 (h : TC X base b w0 loop L w s2 s3 s4 s5 s6 s7 s8 s9) (hb : b < w0.heap.size) : TC X base b w0 loop (upd L 8) (w.alloc (.cells #[.int .i64 35] 3)) s2 s3 s4 s5 s6 s7 (clos w.heap.size) s9 := by
  have h' := h.mono ((Below.refl _ _).alloc (Nat.le_refl _) (.cells #[.int .i64 35] 3))
  exact ⟨h'.m0, h'.m1, h'.k4, h'.v5, h'.v6, h'.v7, fun _ => ⟨_, rfl, Box.new w b (by have := h.size; omega) _ 3 (by decide), h.size⟩, h'.e9, h'.e2, h'.e11⟩
theorem TC.set10 (h : TC X base b w0 loop L w s2 s3 s4 s5 s6 s7 s8 s9) (h0 : L 0 = true) (h10 : L 10 = false) : TC X base b w0 loop (upd L 10) w s2 s3 s4 s5 s6 s7 s8 s3 := by
  have h11 : L 11 = false := by
    cases e : L 11 with
    | false => rfl
    | true => rw [h.e11 e] at h10; cases h10
  refine ⟨h.m0, ?_, h.k4, h.v5, h.v6, h.v7, h.v8, fun _ => rfl, ?_, fun _ => rfl⟩
  · intro e
    rw [show upd L 10 0 = L 0 from rfl, h0] at e
    cases e
  · intro e
    rw [show upd L 10 11 = L 11 from rfl, h11] at e
    cases e
theorem TC.set11 (h : TC X base b w0 loop L w s2 s3 s4 s5 s6 s7 s8 s9) (h10 : L 10 = true) : TC X base b w0 loop (upd L 11) w s9 s3 s4 s5 s6 s7 s8 s9 :=
  ⟨h.m0, h.m1, h.k4, h.v5, h.v6, h.v7, h.v8, h.e9, fun _ => rfl, fun _ => h10⟩
/-- A store of one of the four. -/
theorem TC.store (h : TC X base b w0 loop L w s2 s3 s4 s5 s6 s7 s8 s9) (h0 : L 0 = true) {i : Nat} (hi : i = 3 ∨ i = 5 ∨ i = 7 ∨ i = 9) {r : Nat} {k : Int} {E : St → St} (B : Bld .i64 X base b w0 w r (tTimedL loop L)) (hg : w.grownBy w' (some r)) (B' : Bld .i64 X base b w0 w' r (mset (tTimedL loop L) k E)) (h3 : s3 = .map (some r))
    (hM : mset (tTimedL loop L) k E = tTimedL loop (upd L i)) : TC X base b w0 loop (upd L i) w' s2 s3 s4 s5 s6 s7 s8 s9 := by
  have hL : ∀ j, j ≠ i → upd L i j = L j := fun j hj => by simp [upd, hj]
  have n0 : (0 : Nat) ≠ i := by omega
  refine ⟨fun _ => ⟨r, h3, B'.eq hM⟩, fun e => ?_, fun e => h.k4 ?_, fun e => ?_, fun e => ?_, fun e => ?_, fun e => ?_, fun e => h.e9 ?_, fun e => h.e2 ?_, fun e => ?_⟩
  · rw [hL 0 n0, h0] at e; cases e
  · rwa [hL 1 (by omega)] at e
  · rw [hL 2 (by omega)] at e; obtain ⟨n, a, c, d⟩ := h.v5 e; exact ⟨n, a, (box_grown c B hg).1, d⟩
  · rw [hL 4 (by omega)] at e; obtain ⟨n, a, c, d⟩ := h.v6 e; exact ⟨n, a, (box_grown c B hg).1, d⟩
  · rw [hL 6 (by omega)] at e; obtain ⟨n, a, c, d⟩ := h.v7 e; exact ⟨n, a, (box_grown c B hg).1, d⟩
  · rw [hL 8 (by omega)] at e; obtain ⟨n, a, c, d⟩ := h.v8 e; exact ⟨n, a, (box_grown c B hg).1, d⟩
  · rwa [hL 10 (by omega)] at e
  · rwa [hL 11 (by omega)] at e
  · rw [hL 11 (by omega)] at e; rw [hL 10 (by omega)]; exact h.e11 e
end
/-! ### one operation at a time -/
section
variable {P : Program} {ops : Array Oper} {Q : Exit → Act → World → Prop} {K : Act → World → Prop} {o : Oper} {a : Act} {w : World} {i : Nat}
theorem wpOp_of (ho : ops[i]? = some o) (hg : o.guard = none) (h : o.wp P a w K Q) : wpOp P ops Q i K a w := by
  unfold wpOp
  rw [ho]
  simp only [Region.wanted, hg, if_true]
  exact .inl h
theorem wp_move {x : Operand} (hop : o.op = .move x ∨ o.op = .assign x) (h : K (a.put o.dst (a.eval x)) w) : o.wp P a w K Q := by
  unfold Oper.wp
  rcases hop with hop | hop <;> simpa [execOp, hop, Result.andThen, Oper.upon] using h
theorem wp_makeMap {t : TypeId} (hop : o.op = .makeMap t none) (h : K (a.put o.dst (.map (some w.heap.size))) (w.alloc (.map #[] 0))) : o.wp P a w K Q := by
  unfold Oper.wp
  simpa [execOp, hop, Result.andThen, Oper.upon, @run_makeMap P] using h
theorem wp_ins {T KT ET : TypeId} {m x v : Operand} (hop : o.op = .insert T m x v) {r : Nat} (hm : a.eval m = .map (some r)) {k : Int} (hx : a.eval x = .int .i64 k) {val : Value} (hv : a.eval v = val) {w' : World}
    (hrun : (Instr.mapUpdate T (.map (some r)) (.int .i64 k) val).run P w = .ok () w') (h : K (a.put o.dst undef) w') : o.wp P a w K Q := by
  unfold Oper.wp
  simpa [execOp, hop, hm, hx, hv, hrun, Result.andThen, Oper.upon] using h
end
theorem lowHalf_exact (kind : Int) (w : World) : Calls Tryz.prog 126 #[.int .i64 kind] w fun e w' => e = .returned (clos w.heap.size) ∧ w' = w.alloc (.cells #[.int .i64 kind] 3) := by
  go_enter Tryz.func126, Tryz.ntmps126
  go_wp2
  go_ret
  exact ⟨rfl, rfl⟩
theorem wp_lowHalf {o : Oper} {a : Act} {w : World} {K : Act → World → Prop} {Q : Exit → Act → World → Prop} {kind : Int} {ts : Array TypeId} (hop : o.op = .call { callee := .value (.func 126), args := #[.const (.int .i64 kind)], argTypes := ts })
    (h : K (a.put o.dst (clos w.heap.size)) (w.alloc (.cells #[.int .i64 kind] 3))) : o.wp Tryz.prog a w K Q := by
  unfold Oper.wp
  have hr := fun args w' => run_enter Tryz.func126 (by kernel_rfl) (by kernel_rfl) args w'
  have : (execOp a.eval o).run Tryz.prog w = .ok (.enter 126 #[.int .i64 kind]) w := by
    simp [execOp, hop, resolve, invoke, Deferred.ofValue, Result.andThen, hr, Act.eval]
  rw [this]
  refine (lowHalf_exact kind w).mono ?_
  rintro e w' ⟨rfl, rfl⟩
  exact h
set_option maxRecDepth 100000 in
set_option maxHeartbeats 1000000 in
theorem mk_timed (X : Nat → Prop) (base b : Nat) (w : World) (hb : b < w.heap.size) (hX : ∀ i, X i → i < w.heap.size) (loop : Int) (hl : loop ≠ 12 ∧ loop ≠ 13 ∧ loop ≠ 14) :
    Calls Tryz.prog 100 #[.int .i64 loop] w (MkMap .i64 X base b (tTimed loop) w) := by
  have HL := Lib.hid hl; clear hl
  go_enter Tryz.func100, Tryz.ntmps100
  go_wp2
  refine wp_region_any (by kernel_rfl) ?_
  refine wpAny_inv (fun listed a w' => ∃ s2 s3 s4 s5 s6 s7 s8 s9, a = { tmps := #[.int .i64 loop, undef, s2, s3, s4, s5, s6, s7, s8, s9], defers := [] } ∧ TC X base b w loop (fun i => listed.getD i false) w' s2 s3 s4 s5 s6 s7 s8 s9) ?step ?fin _ _ _ _ ?start (by simp) (by simp [left])
  case start =>
    refine ⟨.map none, undef, undef, undef, undef, undef, undef, undef, rfl, ?_⟩
    refine ⟨fun e => by simp at e, fun _ => ⟨?_, by simp, by simp, by simp, by simp, by simp⟩, fun e => by simp at e, fun e => by simp at e, fun e => by simp at e, fun e => by simp at e, fun e => by simp at e, fun e => by simp at e, fun e => by simp at e, fun e => by simp at e⟩
    exact (Below.refl _ _).drew
  case fin =>
    rintro listed a w' ⟨s2, s3, s4, s5, s6, s7, s8, s9, rfl, hT⟩ hs hr
    have hall := all_done (backB_spec (by kernel_rfl)) hs hr
    obtain ⟨r, rfl, B⟩ := hT.m0 (hall 0 (by decide))
    have q9 := hT.e9 (hall 10 (by decide))
    have q2 := hT.e2 (hall 11 (by decide))
    subst q9
    subst q2
    have hM : tTimedL loop (fun i => listed.getD i false) = tTimed loop := by
      funext k
      simp only [tTimedL, tTimed, hall 3 (by decide), hall 5 (by decide), hall 7 (by decide), hall 9 (by decide), true_and]
    have B' := B.eq hM
    clear hall hs hr hT hM B
    go_wp2
    go_ret
    exact ⟨r, rfl, B'⟩
  case step =>
    rintro listed a w' i ⟨s2, s3, s4, s5, s6, s7, s8, s9, rfl, hT⟩ hs hi
    obtain ⟨h1, o, ho, hpre⟩ := mem_ready.1 hi
    have hlt : i < 12 := (Array.getElem?_eq_some_iff.1 ho).1
    have hup : (fun j => (listed.setIfInBounds i true).getD j false) = upd (fun j => listed.getD j false) i := by
      funext j
      rw [getD_upd (by rw [hs]; exact hlt)]
      rfl
    rw [hup]
    clear hup
    have hi0 : listed.getD i false = false := by rw [Array.getD_eq_getD_getElem?, listed_at h1]; rfl
    rcases (by omega : i = 0 ∨ i = 1 ∨ i = 2 ∨ i = 3 ∨ i = 4 ∨ i = 5 ∨ i = 6 ∨ i = 7 ∨ i = 8 ∨ i = 9 ∨ i = 10 ∨ i = 11) with rfl | rfl | rfl | rfl | rfl | rfl | rfl | rfl | rfl | rfl | rfl | rfl
    · refine wpOp_of ho (by cases ho; rfl) (wp_makeMap (t := 87) (by cases ho; rfl) ?_)
      exact ⟨s2, .map (some w'.heap.size), s4, s5, s6, s7, s8, s9, by cases ho; rfl, hT.set0 hi0 hb hX⟩
    · refine wpOp_of ho (by cases ho; rfl) (wp_move (x := .tmp 0) (.inl (by cases ho; rfl)) ?_)
      exact ⟨s2, s3, .int .i64 loop, s5, s6, s7, s8, s9, by cases ho; rfl, hT.set1⟩
    · refine wpOp_of ho (by cases ho; rfl) (wp_lowHalf (kind := 34) (by cases ho; rfl) ?_)
      exact ⟨s2, s3, s4, clos w'.heap.size, s6, s7, s8, s9, by cases ho; rfl, hT.set2 hb⟩
    · have p0 : listed.getD 0 false = true := hpre ⟨0, .data⟩ (by cases ho; simp) rfl
      have pc : listed.getD 2 false = true := hpre ⟨2, .data⟩ (by cases ho; simp) rfl
      have pl : listed.getD 1 false = true := hpre ⟨1, .data⟩ (by cases ho; simp) rfl
      obtain rfl := hT.k4 pl
      obtain ⟨r, rfl, B⟩ := hT.m0 p0
      obtain ⟨n, rfl, bx, hn⟩ := hT.v5 pc
      have hne : n ≠ r := by
        rintro rfl
        obtain ⟨es, c, h2, _⟩ := B.map
        obtain ⟨_, cs, t, fr, hc, _⟩ := bx
        rw [hc] at h2
        cases h2
      have hE : Eff (Xr X r) base b w' (clos n) (St.fLowHalf 34) := eff_clos bx (fun h => h.elim (fun hx => absurd (hX _ hx) (by omega)) (fun e => hne e))
      obtain ⟨w2, hrun, hM, hg⟩ := B.map.update (P := Tryz.prog) Tryz.underlying87 Tryz.underlying3 loop hE
      refine wpOp_of ho (by cases ho; rfl) (wp_ins (T := 87) (KT := 3) (ET := 77) (m := .tmp 3) (x := .tmp 4) (v := .tmp 5) (by cases ho; rfl) rfl (k := loop) rfl rfl hrun ?_)
      refine ⟨s2, .map (some r), .int .i64 loop, clos n, s6, s7, s8, s9, by cases ho; rfl, hT.store p0 (i := 3) (by omega) B hg (B.grown hg hM) rfl ?_⟩
      obtain ⟨l1, l2, l3⟩ := HL.out
      funext q
      by_cases e : q = loop
      · subst e; simp [mset, tTimedL, upd, l1, l2, l3]
      · simp [mset, tTimedL, upd, e]
    · refine wpOp_of ho (by cases ho; rfl) (wp_lowHalf (kind := 21) (by cases ho; rfl) ?_)
      exact ⟨s2, s3, s4, s5, clos w'.heap.size, s7, s8, s9, by cases ho; rfl, hT.set4 hb⟩
    · have p0 : listed.getD 0 false = true := hpre ⟨0, .data⟩ (by cases ho; simp) rfl
      have pc : listed.getD 4 false = true := hpre ⟨4, .data⟩ (by cases ho; simp) rfl
      obtain ⟨r, rfl, B⟩ := hT.m0 p0
      obtain ⟨n, rfl, bx, hn⟩ := hT.v6 pc
      have hne : n ≠ r := by
        rintro rfl
        obtain ⟨es, c, h2, _⟩ := B.map
        obtain ⟨_, cs, t, fr, hc, _⟩ := bx
        rw [hc] at h2
        cases h2
      have hE : Eff (Xr X r) base b w' (clos n) (St.fLowHalf 21) := eff_clos bx (fun h => h.elim (fun hx => absurd (hX _ hx) (by omega)) (fun e => hne e))
      obtain ⟨w2, hrun, hM, hg⟩ := B.map.update (P := Tryz.prog) Tryz.underlying87 Tryz.underlying3 12 hE
      refine wpOp_of ho (by cases ho; rfl) (wp_ins (T := 87) (KT := 3) (ET := 77) (m := .tmp 3) (x := .const (.int .i64 12)) (v := .tmp 6) (by cases ho; rfl) rfl (k := 12) rfl rfl hrun ?_)
      refine ⟨s2, .map (some r), s4, s5, clos n, s7, s8, s9, by cases ho; rfl, hT.store p0 (i := 5) (by omega) B hg (B.grown hg hM) rfl ?_⟩
      obtain ⟨l1, l2, l3⟩ := HL.out
      funext q
      by_cases e : q = 12
      · subst e; simp [mset, tTimedL, upd]
      · simp [mset, tTimedL, upd, e]
    · refine wpOp_of ho (by cases ho; rfl) (wp_lowHalf (kind := 22) (by cases ho; rfl) ?_)
      exact ⟨s2, s3, s4, s5, s6, clos w'.heap.size, s8, s9, by cases ho; rfl, hT.set6 hb⟩
    · have p0 : listed.getD 0 false = true := hpre ⟨0, .data⟩ (by cases ho; simp) rfl
      have pc : listed.getD 6 false = true := hpre ⟨6, .data⟩ (by cases ho; simp) rfl
      obtain ⟨r, rfl, B⟩ := hT.m0 p0
      obtain ⟨n, rfl, bx, hn⟩ := hT.v7 pc
      have hne : n ≠ r := by
        rintro rfl
        obtain ⟨es, c, h2, _⟩ := B.map
        obtain ⟨_, cs, t, fr, hc, _⟩ := bx
        rw [hc] at h2
        cases h2
      have hE : Eff (Xr X r) base b w' (clos n) (St.fLowHalf 22) := eff_clos bx (fun h => h.elim (fun hx => absurd (hX _ hx) (by omega)) (fun e => hne e))
      obtain ⟨w2, hrun, hM, hg⟩ := B.map.update (P := Tryz.prog) Tryz.underlying87 Tryz.underlying3 13 hE
      refine wpOp_of ho (by cases ho; rfl) (wp_ins (T := 87) (KT := 3) (ET := 77) (m := .tmp 3) (x := .const (.int .i64 13)) (v := .tmp 7) (by cases ho; rfl) rfl (k := 13) rfl rfl hrun ?_)
      refine ⟨s2, .map (some r), s4, s5, s6, clos n, s8, s9, by cases ho; rfl, hT.store p0 (i := 7) (by omega) B hg (B.grown hg hM) rfl ?_⟩
      obtain ⟨l1, l2, l3⟩ := HL.out
      funext q
      by_cases e : q = 13
      · subst e; simp [mset, tTimedL, upd]
      · simp [mset, tTimedL, upd, e]
    · refine wpOp_of ho (by cases ho; rfl) (wp_lowHalf (kind := 35) (by cases ho; rfl) ?_)
      exact ⟨s2, s3, s4, s5, s6, s7, clos w'.heap.size, s9, by cases ho; rfl, hT.set8 hb⟩
    · have p0 : listed.getD 0 false = true := hpre ⟨0, .data⟩ (by cases ho; simp) rfl
      have pc : listed.getD 8 false = true := hpre ⟨8, .data⟩ (by cases ho; simp) rfl
      obtain ⟨r, rfl, B⟩ := hT.m0 p0
      obtain ⟨n, rfl, bx, hn⟩ := hT.v8 pc
      have hne : n ≠ r := by
        rintro rfl
        obtain ⟨es, c, h2, _⟩ := B.map
        obtain ⟨_, cs, t, fr, hc, _⟩ := bx
        rw [hc] at h2
        cases h2
      have hE : Eff (Xr X r) base b w' (clos n) (St.fLowHalf 35) := eff_clos bx (fun h => h.elim (fun hx => absurd (hX _ hx) (by omega)) (fun e => hne e))
      obtain ⟨w2, hrun, hM, hg⟩ := B.map.update (P := Tryz.prog) Tryz.underlying87 Tryz.underlying3 14 hE
      refine wpOp_of ho (by cases ho; rfl) (wp_ins (T := 87) (KT := 3) (ET := 77) (m := .tmp 3) (x := .const (.int .i64 14)) (v := .tmp 8) (by cases ho; rfl) rfl (k := 14) rfl rfl hrun ?_)
      refine ⟨s2, .map (some r), s4, s5, s6, s7, clos n, s9, by cases ho; rfl, hT.store p0 (i := 9) (by omega) B hg (B.grown hg hM) rfl ?_⟩
      obtain ⟨l1, l2, l3⟩ := HL.out
      funext q
      by_cases e : q = 14
      · subst e; simp [mset, tTimedL, upd]
      · simp [mset, tTimedL, upd, e]
    · have p0 : listed.getD 0 false = true := hpre ⟨0, .data⟩ (by cases ho; simp) rfl
      refine wpOp_of ho (by cases ho; rfl) (wp_move (x := .tmp 3) (.inl (by cases ho; rfl)) ?_)
      refine ⟨s2, s3, s4, s5, s6, s7, s8, s3, by cases ho; rfl, hT.set10 p0 hi0⟩
    · have p10 : listed.getD 10 false = true := hpre ⟨10, .data⟩ (by cases ho; simp) rfl
      refine wpOp_of ho (by cases ho; rfl) (wp_move (x := .tmp 9) (.inr (by cases ho; rfl)) ?_)
      exact ⟨s9, s3, s4, s5, s6, s7, s8, s9, by cases ho; rfl, hT.set11 p10⟩
end Go.Proofs.YtappnglfmidjoaaGreat.D
