/- Ranging over a map that a call has made, in whatever order: which keys have come, which are left; a table of effects that is overwritten key by key. -/
import Derived.Maps.RangeRun
import Derived.Test.YtappnglfmidjoaaGreatTables
set_option linter.unusedVariables false
set_option linter.unusedSimpArgs false
namespace Go.Proofs.YtappnglfmidjoaaGreat.D
open Go Go.RowKit Go.MapKept Go.Proofs.YtappnglfmidjoaaGreat.DB

/-- Block m is a map that reads as M; block it is a walk over it, on which the keys of S have come. -/
def Rng {β : Type} (κ : IntKind) (Rv : Value → β → Prop) (w : World) (m it : Nat) (M : Int → Option β) (S : Int → Bool) : Prop :=
  ∃ es clock seen, w.heap[m]? = some (.map es clock) ∧ Stamped es clock ∧ (∀ x ∈ es.toList, ∃ k y, x.key = .int κ k ∧ M k = some y ∧ Rv x.val y) ∧ (∀ k y, M k = some y → ∃ x ∈ es.toList, x.key = .int κ k) ∧
    w.heap[it]? = some (.mapIter (some m) clock seen clock) ∧ ∀ x ∈ es.toList, ∀ k, x.key = .int κ k → S k = seen.contains x.born
/-- How many are left. -/
def rleft (w : World) (m it : Nat) : Nat := match w.heap[m]?, w.heap[it]? with
  | some (.map es _), some (.mapIter _ _ seen _) => (leftOf es seen).size
  | _, _ => 0
section
variable {β : Type} {κ : IntKind} {Rv : Value → β → Prop} {w w' : World} {m it : Nat} {M : Int → Option β} {S : Int → Bool} {P : Program}
theorem Rng.kept (h : Rng κ Rv w m it M S) (hm : w'.heap[m]? = w.heap[m]?) (hi : w'.heap[it]? = w.heap[it]?) : Rng κ Rv w' m it M S := by
  obtain ⟨es, c, seen, h1, h2, h3, h4, h5, h6⟩ := h
  exact ⟨es, c, seen, hm.trans h1, h2, h3, h4, hi.trans h5, h6⟩
theorem rleft_kept (hm : w'.heap[m]? = w.heap[m]?) (hi : w'.heap[it]? = w.heap[it]?) : rleft w' m it = rleft w m it := by
  unfold rleft; rw [hm, hi]
theorem Rng.lt (h : Rng κ Rv w m it M S) : m < w.heap.size ∧ it < w.heap.size := by
  obtain ⟨es, c, seen, h1, h2, h3, h4, h5, h6⟩ := h
  exact ⟨(Array.getElem?_eq_some_iff.1 h1).1, (Array.getElem?_eq_some_iff.1 h5).1⟩
theorem Rng.below (h : Rng κ Rv w m it M S) (hB : Below w.heap.size w w') : Rng κ Rv w' m it M S ∧ rleft w' m it = rleft w m it :=
  ⟨h.kept (hB.block m h.lt.1) (hB.block it h.lt.2), rleft_kept (hB.block m h.lt.1) (hB.block it h.lt.2)⟩
theorem Rng.grown {r : Nat} (h : Rng κ Rv w m it M S) (hg : w.grownBy w' (some r)) (h1 : r ≠ m) (h2 : r ≠ it) : Rng κ Rv w' m it M S ∧ rleft w' m it = rleft w m it :=
  ⟨h.kept (hg.block m h.lt.1 (fun e => h1 (by cases e; rfl))) (hg.block it h.lt.2 (fun e => h2 (by cases e; rfl))), rleft_kept (hg.block m h.lt.1 (fun e => h1 (by cases e; rfl))) (hg.block it h.lt.2 (fun e => h2 (by cases e; rfl)))⟩
theorem Rng.start (h : MapG κ Rv w m M) {T K E : TypeId} (hT : P.underlying T = some (.map K E)) :
    ∃ w', (Instr.range T (.map (some m))).run P w = .ok (.pointer (some ⟨w.heap.size, 0, none⟩)) w' ∧ Rng κ Rv w' m w.heap.size M (fun _ => false) ∧ Below w.heap.size w w' ∧ w.heap.size < w'.heap.size := by
  obtain ⟨es, c, h1, h2, h3, h4⟩ := h
  have hlt := (Array.getElem?_eq_some_iff.1 h1).1
  exact ⟨_, run_range_map w T K E m es c hT h1, ⟨es, c, #[], (Below.heap_alloc w _ m hlt).trans h1, h2, h3, h4, heap_alloc_new w _, by simp⟩, (Below.refl _ _).alloc (Nat.le_refl _) _, by simp⟩
theorem Rng.next (h : Rng κ Rv w m it M S) (hmi : m ≠ it) (ty : TypeId) :
    ((∀ k y, M k = some y → S k = true) ∧ (Instr.next (.pointer (some ⟨it, 0, none⟩)) false ty).run P w = .ok (.tuple #[.bool false]) w) ∨
    ∃ k y v w', M k = some y ∧ S k = false ∧ Rv v y ∧ (Instr.next (.pointer (some ⟨it, 0, none⟩)) false ty).run P w = .ok (.tuple #[.bool true, .int κ k, v]) w' ∧
      Rng κ Rv w' m it M (fun q => S q || q == k) ∧ w.grownBy w' (some it) ∧ rleft w' m it < rleft w m it ∧ (Instr.entry (.pointer (some ⟨it, 0, none⟩))).run P w' = .ok (.tuple #[.int κ k, v]) w' := by
  have hl := h.lt
  obtain ⟨es, c, seen, h1, h2, h3, h4, h5, h6⟩ := h
  rcases run_next_at (P := P) w ty it m c c seen es c h5 h1 (fun x hx => h2.1 x hx) (Nat.le_refl _) with ⟨f1, f2⟩ | ⟨e, he, w1, hw1, f2⟩
  · left
    refine ⟨fun k y hk => ?_, f2⟩
    obtain ⟨x, hx, e⟩ := h4 k y hk
    rw [h6 x hx k e]
    exact all_seen es seen f1 x hx
  · right
    obtain ⟨he1, he2⟩ := mem_left he
    obtain ⟨k, y, a, b, c'⟩ := h3 e he1
    have hw : w1.heap = w.heap := by rcases hw1 with rfl | rfl <;> rfl
    have hit : (ChangeMaps.setBlock w1 it (.mapIter (some m) c (seen.push e.born) c)).heap[it]? = some (.mapIter (some m) c (seen.push e.born) c) := (heap_set (w := w1) (by rw [hw]; exact h5)).1
    have hm : (ChangeMaps.setBlock w1 it (.mapIter (some m) c (seen.push e.born) c)).heap[m]? = some (.map es c) := ((heap_set (w := w1) (by rw [hw]; exact h5)).2 m hmi).trans (by rw [hw]; exact h1)
    refine ⟨k, y, e.val, _, b, ?_, c', by rw [← a]; exact f2, ⟨es, c, seen.push e.born, hm, h2, h3, h4, hit, ?_⟩, ?_, ?_, ?_⟩
    · rw [h6 e he1 k a]; exact he2
    · intro x hx q hq
      show (S q || q == k) = _
      rw [contains_push, h6 x hx q hq]
      congr 1
      rw [Bool.eq_iff_iff, beq_iff_eq, beq_iff_eq]
      constructor
      · rintro rfl
        have hk : x.key = e.key := by rw [hq, a]
        obtain ⟨i, hi⟩ := List.getElem?_of_mem hx
        obtain ⟨j, hj⟩ := List.getElem?_of_mem he1
        have := keys_inj h2 hi hj hk
        subst this
        rw [hi] at hj
        cases hj
        rfl
      · intro hb
        have := born_inj h2.2.1 hx he1 hb
        subst this
        rw [hq] at a
        injection a
    · refine ⟨?_, ?_, ?_, ?_, fun i hi hne => ?_⟩
      · rcases hw1 with rfl | rfl <;> rfl
      · rcases hw1 with rfl | rfl <;> rfl
      · rcases hw1 with rfl | rfl <;> rfl
      · simp [ChangeMaps.setBlock, hw]
      · exact ((heap_set (w := w1) (by rw [hw]; exact h5)).2 i (fun e => hne (by rw [e]))).trans (by rw [hw])
    · unfold rleft
      rw [hm, hit, h1, h5]
      exact left_shrinks es seen e he
    · rw [← a]
      exact run_entry_at _ it m c seen es c e hit hm he1 h2.2.1
end
/-! ### at the operations -/
section
variable {β : Type} {κ : IntKind} {Rv : Value → β → Prop} {w : World} {m it : Nat} {M : Int → Option β} {S : Int → Bool} {P : Program} {ops : Array Oper} {rest : List Oper} {o : Oper} {a : Act} {Q : Exit → Act → World → Prop}
theorem wpList_rangeG (hg : o.guard = none) (x : Operand) (t : TypeId) (hop : o.op = Op.range t x) (K E : TypeId) (ht : P.underlying t = some (.map K E)) (hx : a.eval x = .map (some m)) (h : MapG κ Rv w m M)
    (hnext : ∀ w', Rng κ Rv w' m w.heap.size M (fun _ => false) → Below w.heap.size w w' → w.heap.size < w'.heap.size → wpList P ops Q rest (a.put o.dst (.pointer (some ⟨w.heap.size, 0, none⟩))) w') : wpList P ops Q (o :: rest) a w := by
  refine wpList_plain hg fun K' hK' => ?_
  obtain ⟨w', hrun, r1, r2, r3⟩ := Rng.start (P := P) h ht
  unfold Oper.wp
  simp [execOp, hop, hx, hrun, Result.andThen]
  exact hK' _ _ (hnext w' r1 r2 r3)
theorem wpList_nextG (hg : o.guard = none) (x : Operand) (hop : o.op = Op.next x false) (hx : a.eval x = .pointer (some ⟨it, 0, none⟩)) (h : Rng κ Rv w m it M S) (hmi : m ≠ it)
    (h0 : (∀ k y, M k = some y → S k = true) → wpList P ops Q rest (a.put o.dst (.tuple #[.bool false])) w)
    (h1 : ∀ k y v w', M k = some y → S k = false → Rv v y → Rng κ Rv w' m it M (fun q => S q || q == k) → w.grownBy w' (some it) → rleft w' m it < rleft w m it → (Instr.entry (.pointer (some ⟨it, 0, none⟩))).run P w' = .ok (.tuple #[.int κ k, v]) w' →
      wpList P ops Q rest (a.put o.dst (.tuple #[.bool true, .int κ k, v])) w') : wpList P ops Q (o :: rest) a w := by
  refine wpList_plain hg fun K' hK' => ?_
  unfold Oper.wp
  rcases h.next (P := P) hmi o.type with ⟨e1, e2⟩ | ⟨k, y, v, w', e1, e2, e3, e4, e5, e6, e7, e8⟩
  · simp [execOp, hop, hx, e2, Result.andThen]
    exact hK' _ _ (h0 e1)
  · simp [execOp, hop, hx, e4, Result.andThen]
    exact hK' _ _ (h1 k y v w' e1 e2 e3 e5 e6 e7 e8)
end

section
variable {β : Type} {κ : IntKind} {Rv : Value → β → Prop} {w : World} {m it : Nat} {M : Int → Option β} {S : Int → Bool} {P : Program} {ops : Array Oper} {rest : List Oper} {o : Oper} {a : Act} {Q : Exit → Act → World → Prop}
/-- The same, its two ways in one. -/
theorem wpList_nextD (hg : o.guard = none) (x : Operand) (hop : o.op = Op.next x false) (hx : a.eval x = .pointer (some ⟨it, 0, none⟩)) (h : Rng κ Rv w m it M S) (hmi : m ≠ it)
    (hn : ∀ u w', (u = .tuple #[.bool false] ∧ w' = w ∧ (∀ k y, M k = some y → S k = true)) ∨ (∃ k y v, u = .tuple #[.bool true, .int κ k, v] ∧ M k = some y ∧ S k = false ∧ Rv v y ∧ Rng κ Rv w' m it M (fun q => S q || q == k) ∧ w.grownBy w' (some it) ∧ rleft w' m it < rleft w m it ∧
      (Instr.entry (.pointer (some ⟨it, 0, none⟩))).run P w' = .ok (.tuple #[.int κ k, v]) w') → wpList P ops Q rest (a.put o.dst u) w') : wpList P ops Q (o :: rest) a w :=
  wpList_nextG hg x hop hx h hmi (fun h0 => hn _ _ (.inl ⟨rfl, rfl, h0⟩)) (fun k y v w' h1 h2 h3 h4 h5 h6 h7 => hn _ _ (.inr ⟨k, y, v, rfl, h1, h2, h3, h4, h5, h6, h7⟩))
end
/-! ### a table that is overwritten -/
def tOver (K : Int → Option Int) (G M0 : Int → Option (St → St)) (S : Int → Bool) : Int → Option (St → St) := fun q => if S q = true ∧ (K q).isSome = true then G q else M0 q
def tOverAll (K : Int → Option Int) (G M0 : Int → Option (St → St)) : Int → Option (St → St) := fun q => if (K q).isSome = true then G q else M0 q
theorem tOver_none (K : Int → Option Int) (G M0 : Int → Option (St → St)) : tOver K G M0 (fun _ => false) = M0 := by funext q; simp [tOver]
theorem tOver_set {K : Int → Option Int} {G M0 : Int → Option (St → St)} {S : Int → Bool} {c k : Int} {E : St → St} (hK : K c = some k) (hG : G c = some E) : mset (tOver K G M0 S) c E = tOver K G M0 (fun q => S q || q == c) := by
  funext q
  unfold mset tOver
  by_cases e : q = c
  · subst e; simp [hK, hG]
  · simp [e]
theorem tOver_all {K : Int → Option Int} {G M0 : Int → Option (St → St)} {S : Int → Bool} (h : ∀ k y, K k = some y → S k = true) : tOver K G M0 S = tOverAll K G M0 := by
  funext q
  unfold tOver tOverAll
  cases e : K q with
  | none => simp
  | some y => simp [h q y e]
theorem tOver_at {K : Int → Option Int} {G M0 : Int → Option (St → St)} {S : Int → Bool} {c : Int} (h : S c = false) : tOver K G M0 S c = M0 c := by simp [tOver, h]
/-- A walk's step turns its own block alone. -/
theorem grown_iter {X : Nat → Prop} {base b r it : Nat} {κ : IntKind} {w w' : World} {M : Int → Option (St → St)} (h : MapE κ (Xr X it) base b w r M) (hg : w.grownBy w' (some it)) (hr : r ≠ it) : MapE κ (Xr X it) base b w' r M :=
  h.imp (hg.block r h.lt (fun e => hr (by cases e; rfl))) (fun v y hv => hv.kpx (grown_kpx hg (.inr rfl)))
end Go.Proofs.YtappnglfmidjoaaGreat.D
