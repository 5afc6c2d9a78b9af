/- Maps that a call makes, keyed by whole numbers: what a store, a look-up, a deletion and an entry do to what the map holds. -/
import Derived.MapKept
import Derived.ChangeMaps4
import Derived.Test.YtappnglfmidjoaaGreatEff
set_option linter.unusedVariables false
set_option linter.unusedSimpArgs false
namespace Go.Proofs.YtappnglfmidjoaaGreat.D
open Go Go.RowKit Go.MapKept Go.Proofs.YtappnglfmidjoaaGreat.DB

/-- Block r is a map that holds, at each number k, what M says; Rv ties a value to what it stands for. -/
def MapG {β : Type} (κ : IntKind) (Rv : Value → β → Prop) (w : World) (r : Nat) (M : Int → Option β) : Prop :=
  ∃ es clock, w.heap[r]? = some (.map es clock) ∧ Stamped es clock ∧ (∀ x ∈ es.toList, ∃ k y, x.key = .int κ k ∧ M k = some y ∧ Rv x.val y) ∧ (∀ k y, M k = some y → ∃ x ∈ es.toList, x.key = .int κ k)
def setB (w : World) (r : Nat) (o : Obj) : World := { w with heap := w.heap.setIfInBounds r o }
theorem setB_grown {w : World} {r : Nat} (o : Obj) (h : r < w.heap.size) : w.grownBy (setB w r o) (some r) :=
  ⟨rfl, rfl, rfl, by simp [setB], fun i _ hi => (heap_set (Array.getElem?_eq_getElem h)).2 i (fun e => hi (by rw [e]))⟩
def mset {β : Type} (M : Int → Option β) (k : Int) (y : β) : Int → Option β := fun k' => if k' = k then some y else M k'
def mdel {β : Type} (M : Int → Option β) (k : Int) : Int → Option β := fun k' => if k' = k then none else M k'

section
variable {β : Type} {κ : IntKind} {Rv Rv' : Value → β → Prop} {w w' : World} {r : Nat} {M M' : Int → Option β} {P : Program} {T K E : TypeId} {k : Int}
theorem MapG.imp (h : MapG κ Rv w r M) (hb : w'.heap[r]? = w.heap[r]?) (hr : ∀ v y, Rv v y → Rv' v y) : MapG κ Rv' w' r M := by
  obtain ⟨es, c, h1, h2, h3, h4⟩ := h
  exact ⟨es, c, hb.trans h1, h2, fun x hx => by obtain ⟨k, y, a, b', c'⟩ := h3 x hx; exact ⟨k, y, a, b', hr _ _ c'⟩, h4⟩
theorem MapG.lt (h : MapG κ Rv w r M) : r < w.heap.size := by
  obtain ⟨es, c, h1, _⟩ := h
  exact (Array.getElem?_eq_some_iff.1 h1).1
theorem MapG.eq (h : MapG κ Rv w r M) (e : M = M') : MapG κ Rv w r M' := e ▸ h
theorem MapG.made (κ : IntKind) (Rv : Value → β → Prop) (w : World) : MapG κ Rv (w.alloc (.map #[] 0)) w.heap.size (fun _ => none) :=
  ⟨#[], 0, heap_alloc_new w _, stamped_empty 0, by simp, by simp⟩
theorem MapG.keys (h : MapG κ Rv w r M) : ∃ es clock, w.heap[r]? = some (.map es clock) ∧ Stamped es clock ∧ (∀ x ∈ es.toList, IsKey (.int κ) x.key) ∧ (∀ x ∈ es.toList, ∃ k y, x.key = .int κ k ∧ M k = some y ∧ Rv x.val y) ∧ (∀ k y, M k = some y → ∃ x ∈ es.toList, x.key = .int κ k) := by
  obtain ⟨es, c, h1, h2, h3, h4⟩ := h
  refine ⟨es, c, h1, h2, fun x hx => ?_, h3, h4⟩
  obtain ⟨k, y, a, _⟩ := h3 x hx
  rw [a]
  exact rfl

theorem MapG.lookup (h : MapG κ Rv w r M) (hT : P.underlying T = some (.map K E)) (hK : P.underlying K = some (.int κ)) (z : Value) (hz : ∀ w : World, (zeroValue E).run P w = .ok z w) (k : Int) :
    ∃ v, (Instr.lookup T (.map (some r)) (.int κ k) false).run P w = .ok v w ∧ ((M k = none ∧ v = z) ∨ ∃ y, M k = some y ∧ Rv v y) := by
  obtain ⟨es, c, h1, h2, h5, h3, h4⟩ := h.keys
  have hk : IsKey (.int κ) (.int κ k) := rfl
  rcases findNow_spec hk es.toList 0 h5 with ⟨f1, f2⟩ | ⟨j, e0, f1, f2, f3⟩
  · refine ⟨z, ?_, .inl ⟨?_, rfl⟩⟩
    · simp [Instr.lookup, run_underlying hT, MapKept.run_getObj_map h1, run_checkKey hK hk, run_findKey hK f1, hz, Result.andThen]
    · cases hm : M k with
      | none => rfl
      | some y =>
        obtain ⟨x, hx, e⟩ := h4 k y hm
        exact absurd e (f2 x hx)
  · have hj : e0 ∈ es.toList := List.mem_of_getElem? f2
    obtain ⟨k', y, a, b, c'⟩ := h3 e0 hj
    have : k' = k := by rw [a] at f3; injection f3
    subst this
    refine ⟨e0.val, ?_, .inr ⟨y, b, c'⟩⟩
    simp [Instr.lookup, run_underlying hT, MapKept.run_getObj_map h1, run_checkKey hK hk, run_findKey hK f1, Result.andThen]

theorem keys_inj {es : Array MapEntry} {clock : Nat} (hs : Stamped es clock) {i j : Nat} {x y : MapEntry} (hi : es.toList[i]? = some x) (hj : es.toList[j]? = some y) (he : x.key = y.key) : i = j := by
  have h1 : (es.toList.map (·.key))[i]? = some x.key := by simp [List.getElem?_map, hi]
  have h2 : (es.toList.map (·.key))[j]? = some x.key := by simp [List.getElem?_map, hj, he]
  obtain ⟨l1, e1⟩ := List.getElem?_eq_some_iff.1 h1
  obtain ⟨l2, e2⟩ := List.getElem?_eq_some_iff.1 h2
  have hp := List.pairwise_iff_getElem.1 hs.2.2
  rcases Nat.lt_trichotomy i j with h | h | h
  · exact absurd (e1.trans e2.symm) (hp i j l1 l2 h)
  · exact h
  · exact absurd (e2.trans e1.symm) (hp j i l2 l1 h)
theorem mem_modify_at {es : Array MapEntry} {j : Nat} {f : MapEntry → MapEntry} {x : MapEntry} (hx : x ∈ (es.modify j f).toList) : (∃ i : Nat, es.toList[i]? = some x ∧ i ≠ j) ∨ ∃ e, es.toList[j]? = some e ∧ x = f e := by
  obtain ⟨i, hi⟩ := List.getElem?_of_mem hx
  rw [Array.getElem?_toList, Array.getElem?_modify] at hi
  by_cases e : j = i
  · subst e
    rw [if_pos rfl] at hi
    obtain ⟨e, he, rfl⟩ := Option.map_eq_some_iff.1 hi
    exact .inr ⟨e, by rw [Array.getElem?_toList]; exact he, rfl⟩
  · rw [if_neg e] at hi
    exact .inl ⟨i, by rw [Array.getElem?_toList]; exact hi, fun q => e q.symm⟩

theorem MapG.update (h : MapG κ Rv w r M) (hT : P.underlying T = some (.map K E)) (hK : P.underlying K = some (.int κ)) (k : Int) {v : Value} {y : β} (hv : Rv v y) :
    ∃ w', (Instr.mapUpdate T (.map (some r)) (.int κ k) v).run P w = .ok () w' ∧ MapG κ Rv w' r (mset M k y) ∧ w.grownBy w' (some r) := by
  obtain ⟨es, c, h1, h2, h5, h3, h4⟩ := h.keys
  have hk : IsKey (.int κ) (.int κ k) := rfl
  rcases findNow_spec hk es.toList 0 h5 with ⟨f1, f2⟩ | ⟨j, e0, f1, f2, f3⟩
  · refine ⟨setB w r (.map (es.push { key := .int κ k, val := v, born := c }) (c + 1)), by simp [Instr.mapUpdate, run_underlying hT, MapKept.run_getObj_map h1, run_checkKey hK hk, run_findKey hK f1, MapKept.run_setObj_map _ h1, Result.andThen, setB], ⟨_, _, (heap_set h1).1, stamped_push h2 f2, ?_, ?_⟩, setB_grown _ h.lt⟩
    · intro x hx
      simp only [Array.toList_push, List.mem_append, List.mem_singleton] at hx
      rcases hx with hx | rfl
      · obtain ⟨k', y', a, b, c'⟩ := h3 x hx
        refine ⟨k', y', a, ?_, c'⟩
        unfold mset
        rw [if_neg]
        · exact b
        · rintro rfl
          exact f2 x hx a
      · exact ⟨k, y, rfl, by simp [mset], hv⟩
    · intro k' y' hm
      unfold mset at hm
      by_cases e : k' = k
      · subst e
        exact ⟨{ key := .int κ k', val := v, born := c }, by simp, rfl⟩
      · rw [if_neg e] at hm
        obtain ⟨x, hx, e'⟩ := h4 k' y' hm
        exact ⟨x, by simp only [Array.toList_push, List.mem_append]; exact .inl hx, e'⟩
  · have hj : es[j]? = some e0 := by simpa using f2
    have hkey : ∀ e', es[j]? = some e' → ({ e' with key := .int κ k, val := v } : MapEntry).key = e'.key := fun e' he' => by rw [hj] at he'; cases he'; exact f3.symm
    refine ⟨setB w r (.map (es.modify j (fun e' => { e' with key := .int κ k, val := v })) c), by simp [Instr.mapUpdate, run_underlying hT, MapKept.run_getObj_map h1, run_checkKey hK hk, run_findKey hK f1, hj, f3, run_keyThatStays hk, MapKept.run_setObj_map _ h1, Result.andThen, setB], ⟨_, _, (heap_set h1).1, stamped_modify h2 _ _ (fun _ _ => rfl) (fun e' _ he' => hkey e' he'), ?_, ?_⟩, setB_grown _ h.lt⟩
    · intro x hx
      rcases mem_modify_at hx with ⟨i, hi, hne⟩ | ⟨e, he, rfl⟩
      · obtain ⟨k', y', a, b, c'⟩ := h3 x (List.mem_of_getElem? hi)
        refine ⟨k', y', a, ?_, c'⟩
        unfold mset
        rw [if_neg]
        · exact b
        · rintro rfl
          exact hne (keys_inj h2 hi f2 (by rw [a, f3]))
      · exact ⟨k, y, rfl, by simp [mset], hv⟩
    · intro k' y' hm
      unfold mset at hm
      by_cases e : k' = k
      · subst e
        refine ⟨{ e0 with key := .int κ k', val := v }, ?_, rfl⟩
        rw [Array.mem_toList_iff, Array.mem_iff_getElem?]
        exact ⟨j, by rw [Array.getElem?_modify, if_pos rfl, hj]; rfl⟩
      · rw [if_neg e] at hm
        obtain ⟨x, hx, e'⟩ := h4 k' y' hm
        refine ⟨x, ?_, e'⟩
        obtain ⟨i, hi⟩ := List.getElem?_of_mem hx
        rw [Array.mem_toList_iff, Array.mem_iff_getElem?]
        refine ⟨i, ?_⟩
        rw [Array.getElem?_modify, if_neg]
        · rw [← Array.getElem?_toList]; exact hi
        · rintro rfl
          rw [f2] at hi
          cases hi
          rw [e'] at f3
          injection f3 with _ f3
          exact e f3

theorem MapG.delete (h : MapG κ Rv w r M) (hT : P.underlying T = some (.map K E)) (hK : P.underlying K = some (.int κ)) (k : Int) (ty : TypeId) :
    ∃ w', (Builtin.delete_ #[T, K] ty #[.map (some r), .int κ k]).run P w = .ok (.tuple #[]) w' ∧ MapG κ Rv w' r (mdel M k) ∧ w.grownBy w' (some r) := by
  obtain ⟨es, c, h1, h2, h5, h3, h4⟩ := h.keys
  have hk : IsKey (.int κ) (.int κ k) := rfl
  rcases findNow_spec hk es.toList 0 h5 with ⟨f1, f2⟩ | ⟨j, e0, f1, f2, f3⟩
  · refine ⟨setB w r (.map es c), by simp [Builtin.delete_, run_underlying hT, MapKept.run_getObj_map h1, run_checkKey hK hk, run_findKey hK f1, MapKept.run_setObj_map _ h1, Result.andThen, setB], ⟨es, c, (heap_set h1).1, h2, ?_, ?_⟩, setB_grown _ h.lt⟩
    · intro x hx
      obtain ⟨k', y', a, b, c'⟩ := h3 x hx
      refine ⟨k', y', a, ?_, c'⟩
      unfold mdel
      rw [if_neg]
      · exact b
      · rintro rfl
        exact f2 x hx a
    · intro k' y' hm
      unfold mdel at hm
      by_cases e : k' = k
      · rw [if_pos e] at hm; cases hm
      · rw [if_neg e] at hm; exact h4 k' y' hm
  · have hj : es[j]? = some e0 := by simpa using f2
    have hjl : j < es.toList.length := (List.getElem?_eq_some_iff.1 f2).1
    have hel : (es.eraseIdxIfInBounds j).toList = es.toList.eraseIdx j := by
      unfold Array.eraseIdxIfInBounds
      rw [dif_pos (by simpa using hjl), Array.toList_eraseIdx]
    refine ⟨setB w r (.map (es.eraseIdxIfInBounds j) c), by simp [Builtin.delete_, run_underlying hT, MapKept.run_getObj_map h1, run_checkKey hK hk, run_findKey hK f1, MapKept.run_setObj_map _ h1, Result.andThen, setB], ⟨_, _, (heap_set h1).1, stamped_erase h2 j, ?_, ?_⟩, setB_grown _ h.lt⟩
    · intro x hx
      rw [hel] at hx
      have hx' := List.mem_eraseIdx_iff_getElem?.1 hx
      obtain ⟨i, hne, hi⟩ := hx'
      obtain ⟨k', y', a, b, c'⟩ := h3 x (List.mem_of_getElem? hi)
      refine ⟨k', y', a, ?_, c'⟩
      unfold mdel
      rw [if_neg]
      · exact b
      · rintro rfl
        exact hne (keys_inj h2 hi f2 (by rw [a, f3]))
    · intro k' y' hm
      unfold mdel at hm
      by_cases e : k' = k
      · rw [if_pos e] at hm; cases hm
      · rw [if_neg e] at hm
        obtain ⟨x, hx, e'⟩ := h4 k' y' hm
        refine ⟨x, ?_, e'⟩
        rw [hel]
        obtain ⟨i, hi⟩ := List.getElem?_of_mem hx
        refine List.mem_eraseIdx_iff_getElem?.2 ⟨i, ?_, hi⟩
        rintro rfl
        rw [f2] at hi
        cases hi
        rw [e'] at f3
        injection f3 with _ f3
        exact e f3

/-- 'm[k] = v' in two steps, k new: the entry is laid, then filled. -/
theorem MapG.entry (h : MapG κ Rv w r M) (hT : P.underlying T = some (.map K E)) (hK : P.underlying K = some (.int κ)) (z : Value) (hz : ∀ w : World, (zeroValue E).run P w = .ok z w) (k : Int) (hn : M k = none) :
    ∃ s w1, (Instr.mapEntry T (.map (some r)) (.int κ k)).run P w = .ok (.tuple #[z, .int .i64 s]) w1 ∧ w.grownBy w1 (some r) ∧ ∀ v y, Rv v y →
      ∃ w2, (Instr.entryStore T (.map (some r)) (.int .i64 s) v).run P w1 = .ok () w2 ∧ MapG κ Rv w2 r (mset M k y) ∧ w.grownBy w2 (some r) := by
  obtain ⟨es, c, h1, h2, h5, h3, h4⟩ := h.keys
  have hk : IsKey (.int κ) (.int κ k) := rfl
  rcases findNow_spec hk es.toList 0 h5 with ⟨f1, f2⟩ | ⟨j, e0, f1, f2, f3⟩
  · refine ⟨c, setB w r (.map (es.push { key := .int κ k, val := z, born := c }) (c + 1)), by simp [Instr.mapEntry, run_underlying hT, MapKept.run_getObj_map h1, run_checkKey hK hk, run_findKey hK f1, MapKept.run_setObj_map _ h1, hz, Result.andThen, goInt, setB], setB_grown _ h.lt, ?_⟩
    intro v y hv
    have hb : (setB w r (.map (es.push { key := .int κ k, val := z, born := c }) (c + 1))).heap[r]? = some (.map (es.push { key := .int κ k, val := z, born := c }) (c + 1)) := (heap_set h1).1
    have hfind : (es.push { key := .int κ k, val := z, born := c }).findIdx? (fun e => (e.born : Int) == (c : Int)) = some es.size := by
      rw [Array.findIdx?_push]
      have : es.findIdx? (fun e => (e.born : Int) == (c : Int)) = none := by
        rw [Array.findIdx?_eq_none_iff]
        intro x hx
        have := h2.1 x (by simpa using hx)
        simp; omega
      simp [this]
    have hkey : ∀ e', (es.push { key := .int κ k, val := z, born := c })[es.size]? = some e' → ({ e' with val := v } : MapEntry).key = e'.key := fun _ _ => rfl
    refine ⟨setB (setB w r (.map (es.push { key := .int κ k, val := z, born := c }) (c + 1))) r (.map ((es.push { key := .int κ k, val := z, born := c }).modify es.size (fun e => { e with val := v })) (c + 1)), ?_, ⟨_, _, (heap_set hb).1, stamped_modify (stamped_push h2 f2) _ _ (fun _ _ => rfl) (fun e' _ he' => hkey e' he'), ?_, ?_⟩, ?_⟩
    · generalize hW : setB w r (.map (es.push { key := .int κ k, val := z, born := c }) (c + 1)) = W at hb ⊢
      simp [Instr.entryStore, MapKept.run_getObj_map hb, asInt, asIntOf, hfind, MapKept.run_setObj_map _ hb, Result.andThen, setB]
    · intro x hx
      rcases mem_modify_at hx with ⟨i, hi, hne⟩ | ⟨e, he, rfl⟩
      · simp only [Array.toList_push] at hi
        have hlt : i < es.toList.length := by
          have := (List.getElem?_eq_some_iff.1 hi).1
          simp at this hne ⊢
          omega
        rw [List.getElem?_append_left hlt] at hi
        obtain ⟨k', y', a, b, c'⟩ := h3 x (List.mem_of_getElem? hi)
        refine ⟨k', y', a, ?_, c'⟩
        unfold mset
        rw [if_neg]
        · exact b
        · rintro rfl
          exact f2 x (List.mem_of_getElem? hi) a
      · simp at he
        subst he
        exact ⟨k, y, rfl, by simp [mset], hv⟩
    · intro k' y' hm
      unfold mset at hm
      by_cases e : k' = k
      · subst e
        refine ⟨{ key := .int κ k', val := v, born := c }, ?_, rfl⟩
        rw [Array.mem_toList_iff, Array.mem_iff_getElem?]
        exact ⟨es.size, by rw [Array.getElem?_modify, if_pos rfl]; simp⟩
      · rw [if_neg e] at hm
        obtain ⟨x, hx, e'⟩ := h4 k' y' hm
        refine ⟨x, ?_, e'⟩
        obtain ⟨i, hi⟩ := List.getElem?_of_mem hx
        have hlt : i < es.size := by have := (List.getElem?_eq_some_iff.1 hi).1; simpa using this
        rw [Array.mem_toList_iff, Array.mem_iff_getElem?]
        refine ⟨i, ?_⟩
        rw [Array.getElem?_modify, if_neg (by omega), Array.getElem?_push, if_neg (by omega), ← Array.getElem?_toList]
        exact hi
    · exact World.grownBy.trans (setB_grown _ h.lt) (setB_grown _ (by simpa [setB] using h.lt))
  · exfalso
    obtain ⟨k', y, a, b, c'⟩ := h3 e0 (List.mem_of_getElem? f2)
    have : k' = k := by rw [a] at f3; injection f3
    subst this
    rw [hn] at b
    cases b
end

/-! ### at the operations, for the walk -/
section
variable {β : Type} {κ : IntKind} {Rv : Value → β → Prop} {w : World} {r : Nat} {M : Int → Option β} {P : Program} {ops : Array Oper} {rest : List Oper} {o : Oper} {a : Act} {Q : Exit → Act → World → Prop}
theorem wpList_insert (hg : o.guard = none) (m x v : Operand) (t : TypeId) (hop : o.op = Op.insert t m x v ∨ o.op = Op.mapUpdate t m x v) (K E : TypeId) (ht : P.underlying t = some (.map K E)) (hK : P.underlying K = some (.int κ))
    (hm : a.eval m = .map (some r)) (h : MapG κ Rv w r M) (k : Int) (hx : a.eval x = .int κ k) (val : Value) (hv : a.eval v = val) (y : β) (hy : Rv val y)
    (hnext : ∀ w', MapG κ Rv w' r (mset M k y) → w.grownBy w' (some r) → wpList P ops Q rest (a.put o.dst undef) w') : wpList P ops Q (o :: rest) a w := by
  refine wpList_plain hg fun K' hK' => ?_
  obtain ⟨w', hrun, r1, r2⟩ := h.update ht hK k hy
  unfold Oper.wp
  rcases hop with hop | hop
  · simp [execOp, hop, hm, hx, hv, hrun, Result.andThen]
    exact hK' _ _ (hnext w' r1 r2)
  · simp [execOp, hop, hm, hx, hv, hrun, Result.andThen]
    exact hK' _ _ (hnext w' r1 r2)
theorem wpList_lookupG (hg : o.guard = none) (m x : Operand) (t : TypeId) (hop : o.op = Op.lookup t m x false) (K E : TypeId) (ht : P.underlying t = some (.map K E)) (hK : P.underlying K = some (.int κ)) (z : Value) (hz : ∀ w : World, (zeroValue E).run P w = .ok z w)
    (hm : a.eval m = .map (some r)) (h : MapG κ Rv w r M) (k : Int) (hx : a.eval x = .int κ k)
    (hnext : ∀ v, ((M k = none ∧ v = z) ∨ ∃ y, M k = some y ∧ Rv v y) → wpList P ops Q rest (a.put o.dst v) w) : wpList P ops Q (o :: rest) a w := by
  refine wpList_plain hg fun K' hK' => ?_
  obtain ⟨v, hrun, r1⟩ := h.lookup ht hK z hz k
  unfold Oper.wp
  simp [execOp, hop, hm, hx, hrun, Result.andThen]
  exact hK' _ _ (hnext v r1)
end
end Go.Proofs.YtappnglfmidjoaaGreat.D
