/- The words of the Dialect proofs: what a cell's working out has come to, what is done to it, and the memory in which it lies: a block of cells with a row of operations of its own. -/
import Derived.WalkKit
import Derived.Maps.AppendAt
import Derived.Deep.QuietTactic
namespace Go.Proofs.YtappnglfmidjoaaGreat.DB
open Go Go.RowKit

/-- What a cell's working out has come to: the memory, the parameter with its halves, the operations. -/
structure St where
  slots : List Int
  eff : Int
  par : Int
  p : Int
  h : Int
  l : Int
  ops : List (Int × Int × Int)

/-! ### What is done to it, in plain words; sums as Go's int has them -/
namespace St
def ask (S : St) (k x y : Int) : St := { S with ops := S.ops ++ [(k, x, y)] }
def put (S : St) (x : Int) : St := { S with p := x, h := wrap64 (x.tdiv 16), l := x.tmod 16 }
def slot (S : St) (k : Int) : Int := S.slots[k.toNat]?.getD 0
def keep (S : St) (k x : Int) : St := { S with slots := S.slots.set k.toNat x }
def whole (S : St) (k : Int) : St := if S.p = 0 then (S.put (S.slot k)).keep k (S.slot k) else S.keep k S.p
def low (S : St) (k : Int) : St := if S.l = 0 then { S with l := S.slot k, slots := S.slots.set k.toNat (S.slot k) } else S.keep k S.l
def halves (S : St) (k : Int) : St :=
  (S.put (wrap64 (wrap64 (16 * (if S.h = 0 then wrap64 ((S.slot k).tdiv 16) else S.h)) + (if S.l = 0 then (S.slot k).tmod 16 else S.l)))).keep k
    (wrap64 (wrap64 (16 * (if S.h = 0 then wrap64 ((S.slot k).tdiv 16) else S.h)) + (if S.l = 0 then (S.slot k).tmod 16 else S.l)))
def slide (S : St) : St := if S.l = 15 ∧ S.h ≠ 0 then S.ask 13 S.h 0 else if S.h = 15 ∧ S.l ≠ 0 then S.ask 14 S.l 0 else S.ask 12 S.h S.l
def bend (S : St) (fine extra plain : Int) : St := if S.p ≥ 240 then S.ask fine S.l 0 else if S.p ≥ 224 then S.ask extra S.l 0 else S.ask plain S.p 0
theorem ops_ask (S : St) (k x y : Int) : (S.ask k x y).ops = S.ops ++ [(k, x, y)] := rfl
theorem ops_put (S : St) (x : Int) : (S.put x).ops = S.ops := rfl
theorem ops_keep (S : St) (k x : Int) : (S.keep k x).ops = S.ops := rfl
theorem ops_whole (S : St) (k : Int) : (S.whole k).ops = S.ops := by unfold whole; split <;> rfl
theorem ops_low (S : St) (k : Int) : (S.low k).ops = S.ops := by unfold low; split <;> rfl
theorem ops_halves (S : St) (k : Int) : (S.halves k).ops = S.ops := rfl
end St

def opv (o : Int × Int × Int) : List Value := [.int .i64 o.1, .int .i64 o.2.1, .int .i64 o.2.2]
def opvs (l : List (Int × Int × Int)) : List Value := l.flatMap opv
theorem opvs_snoc (l : List (Int × Int × Int)) (o : Int × Int × Int) : opvs (l ++ [o]) = opvs l ++ opv o := by simp [opvs]
theorem opvs_length (l : List (Int × Int × Int)) : (opvs l).length = l.length * 3 := by
  induction l with
  | nil => rfl
  | cons a t ih => simp only [opvs, List.flatMap_cons, List.length_append, List.length_cons] at *; rw [ih]; simp [opv]; omega

/-- Block i holds a row of elements of type q. -/
def RowOf (q : Nat) (w : World) (i : Nat) : Prop := ∃ cs fr, w.heap[i]? = some (.cells cs q fr)

/-- Of what there was, block b alone, and rows of type q from base on, may have turned. -/
structure Kp (q base b : Nat) (w w' : World) : Prop where
  os : w'.os = w.os
  tape : w'.tape = w.tape
  output : w'.output = w.output
  size : w.heap.size ≤ w'.heap.size
  block : ∀ i, i < w.heap.size → i ≠ b → (i < base ∨ ¬ RowOf q w i) → w'.heap[i]? = w.heap[i]?

variable {q base b : Nat} {w w' w'' : World}

theorem Kp.refl (q base b : Nat) (w : World) : Kp q base b w w := ⟨rfl, rfl, rfl, Nat.le_refl _, fun _ _ _ _ => rfl⟩
theorem Kp.trans (h : Kp q base b w w') (k : Kp q base b w' w'') : Kp q base b w w'' := by
  refine ⟨k.os.trans h.os, k.tape.trans h.tape, k.output.trans h.output, Nat.le_trans h.size k.size, fun i hi hb hr => ?_⟩
  have h1 := h.block i hi hb hr
  rw [k.block i (Nat.lt_of_lt_of_le hi h.size) hb ?_, h1]
  rcases hr with hr | hr
  · exact .inl hr
  · refine .inr ?_
    rintro ⟨cs, fr, hc⟩
    exact hr ⟨cs, fr, by rw [← h1]; exact hc⟩
theorem Kp.below (h : Kp q base b w w') (hb : base ≤ b) {B : Nat} (hB : B ≤ base) (hs : B ≤ w.heap.size) : Below B w w' :=
  ⟨h.os, h.tape, h.output, h.size, fun k hk => h.block k (by omega) (by omega) (.inl (by omega))⟩
theorem Kp.of_below (h : Below w.heap.size w w') : Kp q base b w w' := ⟨h.os, h.tape, h.output, h.size, fun i hi _ _ => h.block i hi⟩
theorem Kp.alloc (h : Kp q base b w w') (o : Obj) : Kp q base b w (w'.alloc o) :=
  h.trans (Kp.of_below ((Below.refl _ _).alloc (Nat.le_refl _) _))
theorem Kp.drew (h : Kp q base b w w') : Kp q base b w w'.drew :=
  h.trans ⟨rfl, rfl, rfl, Nat.le_refl _, fun _ _ _ _ => rfl⟩
theorem Kp.drewN (h : Kp q base b w w') (n : Nat) : Kp q base b w (w'.drewN n) :=
  h.trans ⟨rfl, rfl, rfl, Nat.le_refl _, fun _ _ _ _ => rfl⟩
theorem Kp.setCell (h : Kp q base b w w') (o : Nat) (s : Option Nat) (u : Value) : Kp q base b w (w'.setCell ⟨b, o, s⟩ u) :=
  h.trans ⟨rfl, rfl, rfl, by simp [World.setCell], fun i _ hb _ => Below.heap_setCell _ _ _ _ hb⟩
/-- A cell of another block, of another type. -/
theorem Kp.cell (h : Kp q base b w w') {a : Addr} (hb : a.block ≠ b) {cs : Array Value} {t : Nat} {fr : Nat × Nat} (hc : w.heap[a.block]? = some (.cells cs t fr)) (ht : t ≠ q) : w'.heap[a.block]? = w.heap[a.block]? := by
  refine h.block _ (Array.getElem?_eq_some_iff.1 hc).1 hb (.inr ?_)
  rintro ⟨cs', fr', h'⟩
  rw [hc] at h'
  injection h' with h'
  injection h' with _ h' _
  exact ht h'

/-- A struct that is asked lies at block b: 24 slots, effect, parameter; from oP on p, h, l, the operations. -/
structure At (q T oP N base : Nat) (w : World) (b : Nat) (S : St) : Prop where
  base_le : base ≤ b
  len : S.slots.length = 24
  cs : ∃ cs : Array Value, w.heap[b]? = some (.cells cs T (0, 0)) ∧ cs.size = N ∧
    (∀ i, i < 24 → cs[i]? = some (.int .i64 (S.slots.getD i 0))) ∧ cs[24]? = some (.int .i64 S.eff) ∧ cs[25]? = some (.int .i64 S.par) ∧
    cs[oP]? = some (.int .i64 S.p) ∧ cs[oP + 1]? = some (.int .i64 S.h) ∧ cs[oP + 2]? = some (.int .i64 S.l) ∧
    ∃ v, cs[oP + 3]? = some v ∧ w.ownsRow base q 3 v S.ops.length (opvs S.ops)


theorem heap_setCell_same (w : World) (b o : Nat) (u : Value) {cs : Array Value} {t : Nat} {fr : Nat × Nat} (h : w.heap[b]? = some (.cells cs t fr)) :
    (w.setCell ⟨b, o, none⟩ u).heap[b]? = some (.cells (cs.setIfInBounds o u) t fr) := by
  simp [World.setCell, Array.getElem?_modify, h]
theorem cell_of {w : World} {b : Nat} {cs : Array Value} {t : Nat} {fr : Nat × Nat} (h : w.heap[b]? = some (.cells cs t fr)) (o : Nat) : w.cell? ⟨b, o, none⟩ = cs[o]? := by
  simp [World.cell?, h]
theorem frozen_of {w : World} {b : Nat} {cs : Array Value} {t : Nat} (h : w.heap[b]? = some (.cells cs t (0, 0))) (o : Nat) : w.frozen? ⟨b, o, none⟩ = false := by
  simp [World.frozen?, h]

section
variable {T oP N : Nat} {S : St}
theorem At.lt (h : At q T oP N base w b S) : b < w.heap.size := by
  obtain ⟨_, _, cs, hc, _⟩ := h
  exact (Array.getElem?_eq_some_iff.1 hc).1
theorem At.slot (h : At q T oP N base w b S) (i : Nat) (hi : i < 24) : w.cell? ⟨b, i, none⟩ = some (.int .i64 (S.slots.getD i 0)) := by
  obtain ⟨_, _, cs, hc, _, hs, _⟩ := h
  rw [cell_of hc]; exact hs i hi
theorem At.ceff (h : At q T oP N base w b S) : w.cell? ⟨b, 24, none⟩ = some (.int .i64 S.eff) := by
  obtain ⟨_, _, cs, hc, _, _, he, _⟩ := h
  rw [cell_of hc]; exact he
theorem At.cpar (h : At q T oP N base w b S) : w.cell? ⟨b, 25, none⟩ = some (.int .i64 S.par) := by
  obtain ⟨_, _, cs, hc, _, _, _, he, _⟩ := h
  rw [cell_of hc]; exact he
theorem At.cp (h : At q T oP N base w b S) : w.cell? ⟨b, oP, none⟩ = some (.int .i64 S.p) := by
  obtain ⟨_, _, cs, hc, _, _, _, _, he, _⟩ := h
  rw [cell_of hc]; exact he
theorem At.ch (h : At q T oP N base w b S) : w.cell? ⟨b, oP + 1, none⟩ = some (.int .i64 S.h) := by
  obtain ⟨_, _, cs, hc, _, _, _, _, _, he, _⟩ := h
  rw [cell_of hc]; exact he
theorem At.cl (h : At q T oP N base w b S) : w.cell? ⟨b, oP + 2, none⟩ = some (.int .i64 S.l) := by
  obtain ⟨_, _, cs, hc, _, _, _, _, _, _, he, _⟩ := h
  rw [cell_of hc]; exact he
theorem At.cops (h : At q T oP N base w b S) : ∃ v, w.cell? ⟨b, oP + 3, none⟩ = some v ∧ w.ownsRow base q 3 v S.ops.length (opvs S.ops) := by
  obtain ⟨_, _, cs, hc, _, _, _, _, _, _, _, v, hv, ho⟩ := h
  exact ⟨v, by rw [cell_of hc]; exact hv, ho⟩
theorem At.any (h : At q T oP N base w b S) (i : Nat) (hi : i < N) : ∃ v, w.cell? ⟨b, i, none⟩ = some v := by
  obtain ⟨_, _, cs, hc, hn, _⟩ := h
  rw [cell_of hc]
  exact ⟨_, Array.getElem?_eq_getElem (by omega)⟩
theorem At.fz (h : At q T oP N base w b S) (o : Nat) : w.frozen? ⟨b, o, none⟩ = false := by
  obtain ⟨_, _, cs, hc, _⟩ := h
  exact frozen_of hc o

/-- A world in which the struct's block is as it was, and so is its row. -/
theorem At.move (h : At q T oP N base w b S) (hb : w'.heap[b]? = w.heap[b]?) (hr : ∀ i, base ≤ i → RowOf q w i → w'.heap[i]? = w.heap[i]?) : At q T oP N base w' b S := by
  obtain ⟨h1, h2, cs, hc, hn, r1, r2, r3, r4, r5, r6, v, hv, ho⟩ := h
  refine ⟨h1, h2, cs, hb.trans hc, hn, r1, r2, r3, r4, r5, r6, v, hv, ?_⟩
  obtain ⟨o1, o2⟩ := ho
  refine ⟨o1, ?_⟩
  rcases o2 with o2 | ⟨g, cap, cur, rfl, hg, hh, r⟩
  · exact .inl o2
  · exact .inr ⟨g, cap, cur, rfl, hg, (hr g hg ⟨_, _, hh⟩).trans hh, r⟩
theorem RowOf.lt {i : Nat} (h : RowOf q w i) : i < w.heap.size := by
  obtain ⟨_, _, h⟩ := h
  exact (Array.getElem?_eq_some_iff.1 h).1
theorem At.below (h : At q T oP N base w b S) (hb : Below w.heap.size w w') : At q T oP N base w' b S :=
  h.move (hb.block _ h.lt) (fun i _ hr => hb.block i hr.lt)
theorem At.alloc (h : At q T oP N base w b S) (o : Obj) : At q T oP N base (w.alloc o) b S := h.below ((Below.refl _ _).alloc (Nat.le_refl _) _)
theorem At.drew (h : At q T oP N base w b S) : At q T oP N base w.drew b S := h.move rfl (fun _ _ _ => rfl)
theorem At.drewN (h : At q T oP N base w b S) (n : Nat) : At q T oP N base (w.drewN n) b S := h.move rfl (fun _ _ _ => rfl)
/-- A store into another block, of another type. -/
theorem At.far (h : At q T oP N base w b S) (a : Addr) (hab : a.block ≠ b) {cs : Array Value} {t : Nat} {fr : Nat × Nat} (hc : w.heap[a.block]? = some (.cells cs t fr)) (ht : t ≠ q) (u : Value) : At q T oP N base (w.setCell a u) b S := by
  refine h.move (Below.heap_setCell _ _ _ _ (fun e => hab e.symm)) (fun i _ hr => Below.heap_setCell _ _ _ _ ?_)
  rintro rfl
  obtain ⟨cs', fr', h'⟩ := hr
  rw [hc] at h'
  injection h' with h'
  injection h' with _ h' _
  exact ht h'

theorem own_setCell (hT : T ≠ q) {cs : Array Value} (hc : w.heap[b]? = some (.cells cs T (0, 0))) {v : Value} {n : Nat} {xs : List Value} (ho : w.ownsRow base q 3 v n xs) (o : Nat) (u : Value) : (w.setCell ⟨b, o, none⟩ u).ownsRow base q 3 v n xs := by
  obtain ⟨o1, o2⟩ := ho
  refine ⟨o1, ?_⟩
  rcases o2 with o2 | ⟨g, cap, cur, rfl, hg, hh, r⟩
  · exact .inl o2
  · refine .inr ⟨g, cap, cur, rfl, hg, (Below.heap_setCell _ _ _ _ ?_).trans hh, r⟩
    rintro rfl
    rw [hc] at hh
    injection hh with hh
    injection hh with _ hh _
    exact hT hh

theorem At.set_slot (hT : T ≠ q) (hN : oP + 3 < N) (h26 : 26 ≤ oP) (h : At q T oP N base w b S) (k : Nat) (hk : k < 24) (x : Int) :
    At q T oP N base (w.setCell ⟨b, k, none⟩ (.int .i64 x)) b { S with slots := S.slots.set k x } := by
  obtain ⟨h1, h2, cs, hc, hn, r1, r2, r3, r4, r5, r6, v, hv, ho⟩ := h
  refine ⟨h1, by simpa using h2, _, heap_setCell_same w b k _ hc, by simpa using hn, ?_, ?_, ?_, ?_, ?_, ?_, v, ?_, own_setCell hT hc ho _ _⟩
  · intro i hi
    rw [Array.getElem?_setIfInBounds]
    by_cases e : k = i
    · subst e
      rw [if_pos rfl, if_pos (by omega)]
      simp [List.getD_eq_getElem?_getD, h2, hk]
    · rw [if_neg e, r1 i hi]
      simp [List.getD_eq_getElem?_getD, e]
  all_goals (rw [Array.getElem?_setIfInBounds, if_neg (by omega)]; assumption)
theorem At.set_eff (hT : T ≠ q) (hN : oP + 3 < N) (h26 : 26 ≤ oP) (h : At q T oP N base w b S) (x : Int) : At q T oP N base (w.setCell ⟨b, 24, none⟩ (.int .i64 x)) b { S with eff := x } := by
  obtain ⟨h1, h2, cs, hc, hn, r1, r2, r3, r4, r5, r6, v, hv, ho⟩ := h
  refine ⟨h1, h2, _, heap_setCell_same w b _ _ hc, by simpa using hn, ?_, ?_, ?_, ?_, ?_, ?_, v, ?_, own_setCell hT hc ho _ _⟩
  · intro i hi; rw [Array.getElem?_setIfInBounds, if_neg (by omega)]; exact r1 i hi
  · rw [Array.getElem?_setIfInBounds, if_pos rfl, if_pos (by omega)]
  all_goals (rw [Array.getElem?_setIfInBounds, if_neg (by omega)]; assumption)
theorem At.set_par (hT : T ≠ q) (hN : oP + 3 < N) (h26 : 26 ≤ oP) (h : At q T oP N base w b S) (x : Int) : At q T oP N base (w.setCell ⟨b, 25, none⟩ (.int .i64 x)) b { S with par := x } := by
  obtain ⟨h1, h2, cs, hc, hn, r1, r2, r3, r4, r5, r6, v, hv, ho⟩ := h
  refine ⟨h1, h2, _, heap_setCell_same w b _ _ hc, by simpa using hn, ?_, ?_, ?_, ?_, ?_, ?_, v, ?_, own_setCell hT hc ho _ _⟩
  · intro i hi; rw [Array.getElem?_setIfInBounds, if_neg (by omega)]; exact r1 i hi
  · rw [Array.getElem?_setIfInBounds, if_neg (by omega)]; assumption
  · rw [Array.getElem?_setIfInBounds, if_pos rfl, if_pos (by omega)]
  all_goals (rw [Array.getElem?_setIfInBounds, if_neg (by omega)]; assumption)
theorem At.set_p (hT : T ≠ q) (hN : oP + 3 < N) (h26 : 26 ≤ oP) (h : At q T oP N base w b S) (x : Int) : At q T oP N base (w.setCell ⟨b, oP, none⟩ (.int .i64 x)) b { S with p := x } := by
  obtain ⟨h1, h2, cs, hc, hn, r1, r2, r3, r4, r5, r6, v, hv, ho⟩ := h
  refine ⟨h1, h2, _, heap_setCell_same w b _ _ hc, by simpa using hn, ?_, ?_, ?_, ?_, ?_, ?_, v, ?_, own_setCell hT hc ho _ _⟩
  · intro i hi; rw [Array.getElem?_setIfInBounds, if_neg (by omega)]; exact r1 i hi
  · rw [Array.getElem?_setIfInBounds, if_neg (by omega)]; assumption
  · rw [Array.getElem?_setIfInBounds, if_neg (by omega)]; assumption
  · rw [Array.getElem?_setIfInBounds, if_pos rfl, if_pos (by omega)]
  all_goals (rw [Array.getElem?_setIfInBounds, if_neg (by omega)]; assumption)
theorem At.set_h (hT : T ≠ q) (hN : oP + 3 < N) (h26 : 26 ≤ oP) (h : At q T oP N base w b S) (x : Int) : At q T oP N base (w.setCell ⟨b, oP + 1, none⟩ (.int .i64 x)) b { S with h := x } := by
  obtain ⟨h1, h2, cs, hc, hn, r1, r2, r3, r4, r5, r6, v, hv, ho⟩ := h
  refine ⟨h1, h2, _, heap_setCell_same w b _ _ hc, by simpa using hn, ?_, ?_, ?_, ?_, ?_, ?_, v, ?_, own_setCell hT hc ho _ _⟩
  · intro i hi; rw [Array.getElem?_setIfInBounds, if_neg (by omega)]; exact r1 i hi
  · rw [Array.getElem?_setIfInBounds, if_neg (by omega)]; assumption
  · rw [Array.getElem?_setIfInBounds, if_neg (by omega)]; assumption
  · rw [Array.getElem?_setIfInBounds, if_neg (by omega)]; assumption
  · rw [Array.getElem?_setIfInBounds, if_pos rfl, if_pos (by omega)]
  all_goals (rw [Array.getElem?_setIfInBounds, if_neg (by omega)]; assumption)
theorem At.set_l (hT : T ≠ q) (hN : oP + 3 < N) (h26 : 26 ≤ oP) (h : At q T oP N base w b S) (x : Int) : At q T oP N base (w.setCell ⟨b, oP + 2, none⟩ (.int .i64 x)) b { S with l := x } := by
  obtain ⟨h1, h2, cs, hc, hn, r1, r2, r3, r4, r5, r6, v, hv, ho⟩ := h
  refine ⟨h1, h2, _, heap_setCell_same w b _ _ hc, by simpa using hn, ?_, ?_, ?_, ?_, ?_, ?_, v, ?_, own_setCell hT hc ho _ _⟩
  · intro i hi; rw [Array.getElem?_setIfInBounds, if_neg (by omega)]; exact r1 i hi
  · rw [Array.getElem?_setIfInBounds, if_neg (by omega)]; assumption
  · rw [Array.getElem?_setIfInBounds, if_neg (by omega)]; assumption
  · rw [Array.getElem?_setIfInBounds, if_neg (by omega)]; assumption
  · rw [Array.getElem?_setIfInBounds, if_neg (by omega)]; assumption
  · rw [Array.getElem?_setIfInBounds, if_pos rfl, if_pos (by omega)]
  all_goals (rw [Array.getElem?_setIfInBounds, if_neg (by omega)]; assumption)
/-- The other cells. -/
theorem At.set_other (hT : T ≠ q) (h : At q T oP N base w b S) (o : Nat) (u : Value) (h26 : 26 ≤ o) (hne : o < oP ∨ oP + 3 < o) : At q T oP N base (w.setCell ⟨b, o, none⟩ u) b S := by
  obtain ⟨h1, h2, cs, hc, hn, r1, r2, r3, r4, r5, r6, v, hv, ho⟩ := h
  refine ⟨h1, h2, _, heap_setCell_same w b _ _ hc, by simpa using hn, ?_, ?_, ?_, ?_, ?_, ?_, v, ?_, own_setCell hT hc ho _ _⟩
  · intro i hi; rw [Array.getElem?_setIfInBounds, if_neg (by omega)]; exact r1 i hi
  all_goals (rw [Array.getElem?_setIfInBounds, if_neg (by omega)]; assumption)
/-- The operations' row has been turned, and its value is stored. -/
theorem At.set_ops (hT : T ≠ q) (hN : oP + 3 < N) (h26 : 26 ≤ oP) (h : At q T oP N base w b S) (l : List (Int × Int × Int)) (v' : Value) (hb : w'.heap[b]? = w.heap[b]?) (ho' : w'.ownsRow base q 3 v' l.length (opvs l)) :
    At q T oP N base (w'.setCell ⟨b, oP + 3, none⟩ v') b { S with ops := l } := by
  obtain ⟨h1, h2, cs, hc, hn, r1, r2, r3, r4, r5, r6, v, hv, ho⟩ := h
  have hc' := hb.trans hc
  refine ⟨h1, h2, _, heap_setCell_same w' b _ _ hc', by simpa using hn, ?_, ?_, ?_, ?_, ?_, ?_, v', ?_, own_setCell hT hc' ho' _ _⟩
  · intro i hi; rw [Array.getElem?_setIfInBounds, if_neg (by omega)]; exact r1 i hi
  all_goals first
    | (rw [Array.getElem?_setIfInBounds, if_neg (by omega)]; assumption)
    | (rw [Array.getElem?_setIfInBounds, if_pos rfl, if_pos (by omega)])
end

/-- What an append onto the operations leaves. -/
theorem append_step {T : Nat} (hT : T ≠ q) {cs0 : Array Value} (hc : w.heap[b]? = some (.cells cs0 T (0, 0))) {v : Value} {n : Nat} {xs : List Value} (ho : w.ownsRow base q 3 v n xs)
    {cs : Array Value} {t : Nat} {w1 : World} (hg : (w.alloc (.cells cs t)).grownBy w1 v.ownBlock) : w1.heap[b]? = w.heap[b]? ∧ Kp q base b w w1 := by
  have key : ∀ i, i < w.heap.size → (i < base ∨ ¬ RowOf q w i) → w1.heap[i]? = w.heap[i]? := by
    intro i hi hr
    rw [hg.block i (by simp; omega) ?_, Below.heap_alloc _ _ _ hi]
    intro e
    rcases ho.2 with ⟨rfl, _⟩ | ⟨g, cap, cur, rfl, hbg, hh, _⟩
    · simp [Value.ownBlock] at e
    · have : g = i := by simpa [Value.ownBlock] using e.symm
      subst this
      rcases hr with hr | hr
      · omega
      · exact hr ⟨_, _, hh⟩
  refine ⟨key b (Array.getElem?_eq_some_iff.1 hc).1 (.inr ?_), hg.os, hg.tape, hg.output, Nat.le_trans (by simp) hg.size, fun i hi _ hr => key i hi hr⟩
  rintro ⟨cs', fr', h'⟩
  rw [hc] at h'
  injection h' with h'
  injection h' with _ h' _
  exact hT h'
theorem At.eq {T oP N : Nat} {S S' : St} (h : At q T oP N base w b S) (e : S = S') : At q T oP N base w b S' := e ▸ h
theorem At.blk {T oP N : Nat} {S : St} (h : At q T oP N base w b S) : ∃ cs, w.heap[b]? = some (.cells cs T (0, 0)) := by
  obtain ⟨_, _, cs, hc, _⟩ := h
  exact ⟨cs, hc⟩

/-- Block n, which isn't b, is a box of a type other than q; its first cell holds v. -/
structure Box (q : Nat) (w : World) (b n : Nat) (v : Value) : Prop where
  ne : n ≠ b
  cs : ∃ cs t fr, w.heap[n]? = some (.cells cs t fr) ∧ t ≠ q ∧ cs[0]? = some v
theorem Box.cell {n : Nat} {v : Value} (h : Box q w b n v) : w.cell? ⟨n, 0, none⟩ = some v := by
  obtain ⟨_, cs, t, fr, hc, _, hv⟩ := h
  rw [cell_of hc]; exact hv
theorem Box.kp {n : Nat} {v : Value} (h : Box q w b n v) (hK : Kp q base b w w') : Box q w' b n v := by
  obtain ⟨h1, cs, t, fr, hc, ht, hv⟩ := h
  exact ⟨h1, cs, t, fr, (hK.cell (a := ⟨n, 0, none⟩) h1 hc ht).trans hc, ht, hv⟩
theorem Box.below {n : Nat} {v : Value} (h : Box q w b n v) (hb : Below w.heap.size w w') : Box q w' b n v := h.kp (base := 0) (Kp.of_below hb)
theorem Box.new (w : World) (b : Nat) (hb : b < w.heap.size) (v : Value) (t : Nat) (ht : t ≠ q) : Box q (w.alloc (.cells #[v] t)) b w.heap.size v :=
  ⟨by omega, _, t, _, heap_alloc_new w _, ht, rfl⟩
end Go.Proofs.YtappnglfmidjoaaGreat.DB
