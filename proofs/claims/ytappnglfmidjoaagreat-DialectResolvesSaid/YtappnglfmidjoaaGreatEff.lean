/- Effects as function values: what each closure does to the struct. -/
import Derived.Test.YtappnglfmidjoaaGreatAsk
set_option linter.unusedVariables false
set_option linter.unusedSimpArgs false
namespace Go.Proofs.YtappnglfmidjoaaGreat.D
open Go Go.RowKit
open Go.Proofs.YtappnglfmidjoaaGreat.DB
/-- Of what there was, block b, blocks of X, and rows of operations from base on, may have turned. -/
structure KpX (X : Nat → Prop) (base b : Nat) (w w' : World) : Prop where
  size : w.heap.size ≤ w'.heap.size
  block : ∀ i, i < w.heap.size → i ≠ b → ¬ X i → (i < base ∨ ¬ RowOf 50 w i) → w'.heap[i]? = w.heap[i]?
section
variable {X X' : Nat → Prop} {base b : Nat} {w w' w'' : World}
theorem KpX.refl (X : Nat → Prop) (base b : Nat) (w : World) : KpX X base b w w := ⟨Nat.le_refl _, fun _ _ _ _ _ => rfl⟩
theorem KpX.trans (h : KpX X base b w w') (k : KpX X base b w' w'') : KpX X base b w w'' := by
  refine ⟨Nat.le_trans h.size k.size, fun i hi hb hx hr => ?_⟩
  have h1 := h.block i hi hb hx hr
  rw [k.block i (Nat.lt_of_lt_of_le hi h.size) hb hx ?_, h1]
  rcases hr with hr | hr
  · exact .inl hr
  · refine .inr ?_
    rintro ⟨cs, fr, hc⟩
    exact hr ⟨cs, fr, by rw [← h1]; exact hc⟩
theorem kp_x (h : Kp 50 base b w w') (X : Nat → Prop) : KpX X base b w w' := ⟨h.size, fun i hi hb _ hr => h.block i hi hb hr⟩
theorem KpX.of_below (h : Below w.heap.size w w') : KpX X base b w w' := ⟨h.size, fun i hi _ _ _ => h.block i hi⟩
theorem KpX.mono (h : KpX X' base b w w') (hX : ∀ i, X' i → X i) : KpX X base b w w' := ⟨h.size, fun i hi hb hx hr => h.block i hi hb (fun hx' => hx (hX i hx')) hr⟩
theorem box_kpx {n : Nat} {v : Value} (h : Box 50 w b n v) (hn : ¬ X n) (hK : KpX X base b w w') : Box 50 w' b n v := by
  obtain ⟨h1, cs, t, fr, hc, ht, hv⟩ := h
  refine ⟨h1, cs, t, fr, (hK.block n (Array.getElem?_eq_some_iff.1 hc).1 h1 hn (.inr ?_)).trans hc, ht, hv⟩
  rintro ⟨cs', fr', h'⟩
  rw [hc] at h'
  injection h' with h'
  injection h' with _ h' _
  exact ht h'
end
/-- The value is a function that does E to the struct at b, in whatever later world: what lies in X may have turned. -/
def Eff (X : Nat → Prop) (base b : Nat) (w : World) (v : Value) (E : St → St) : Prop :=
  ∃ fid cap, v = .func (.func fid) #[] cap ∧ (∀ args w', (callFunc fid args).run Tryz.prog w' = .ok (.enter fid args) w') ∧ ∀ w' S, KpX X base b w w' → PAt base w' b S → S.ops.length ≤ 800 →
    Calls Tryz.prog fid (#[.pointer (some ⟨b, 0, none⟩)] ++ cap) w' fun e w'' => e = .returned (.tuple #[]) ∧ PAt base w'' b (E S) ∧ Kp 50 base b w' w''
theorem Eff.kpx {X : Nat → Prop} {base b : Nat} {w w1 : World} {v : Value} {E : St → St} (h : Eff X base b w v E) (hK : KpX X base b w w1) : Eff X base b w1 v E := by
  obtain ⟨fid, cap, rfl, hr, h⟩ := h
  exact ⟨fid, cap, rfl, hr, fun w' S hK' hA hl => h w' S (hK.trans hK') hA hl⟩
theorem Eff.mono {X X' : Nat → Prop} {base b : Nat} {w : World} {v : Value} {E : St → St} (h : Eff X base b w v E) (hX : ∀ i, X' i → X i) : Eff X' base b w v E := by
  obtain ⟨fid, cap, rfl, hr, h⟩ := h
  exact ⟨fid, cap, rfl, hr, fun w' S hK' hA hl => h w' S (hK'.mono hX) hA hl⟩
theorem run_enter {P : Program} {f : FuncId} {fn : Func} (hf : P.funcs[f]? = some fn) (hname : (fn.name == "runtime.NumGoroutine") = false) (hb : fn.body.isNone = false) (args : Array Value) (w : World) : (callFunc f args).run P w = .ok (.enter f args) w := by
  have h1 : ¬ fn.name = "runtime.NumGoroutine" := by simpa using hname
  have h2 : ¬ fn.body = none := by intro e; simp [e] at hb
  simp [callFunc, Sem.run_bind, hf, h1, h2, program, Sem.run]
theorem Eff.below {X : Nat → Prop} {base b : Nat} {w w1 : World} {v : Value} {E : St → St} (h : Eff X base b w v E) (hb : Below w.heap.size w w1) : Eff X base b w1 v E := h.kpx (KpX.of_below hb)
theorem Eff.eq {X : Nat → Prop} {base b : Nat} {w : World} {v : Value} {E E' : St → St} (h : Eff X base b w v E) (e : E = E') : Eff X base b w v E' := e ▸ h
/-- What a maker of effects gives. -/
def MkEff (X : Nat → Prop) (base b : Nat) (E : St → St) (w : World) (e : Ending) (w' : World) : Prop := ∃ v, e = .returned v ∧ Eff X base b w' v E ∧ Below w.heap.size w w'

set_option maxHeartbeats 400000 in
theorem ppan (x : Int) (w : World) : Calls Tryz.prog 93 #[.int .i64 x] w fun e w' => e = .returned (.int .i64 (wrap64 (x + wrap64 (x.tdiv 128)))) ∧ w = w' := by
  go_enter Tryz.func93, Tryz.ntmps93
  go_wp2
  go_ret
  exact ⟨rfl, rfl⟩
set_option maxHeartbeats 400000 in
theorem rpan (x : Int) (w : World) : Calls Tryz.prog 54 #[.int .i64 x] w fun e w' => e = .returned (.int .i64 (wrap64 (x + wrap64 (x.tdiv 128)))) ∧ w = w' := by
  go_enter Tryz.func54, Tryz.ntmps54
  go_wp2
  go_ret
  exact ⟨rfl, rfl⟩
set_option maxRecDepth 100000 in
set_option maxHeartbeats 400000 in
theorem param1 (base b : Nat) (w : World) (S : St) (n : Nat) (kind : Int) (bx_n : Box 50 w b n (.int .i64 kind))  (hl : S.ops.length ≤ 800) (hA : PAt base w b S) :
    Calls Tryz.prog 131 #[.pointer (some ⟨b, 0, none⟩), .pointer (some ⟨n, 0, none⟩)] w fun e w' => e = .returned (.tuple #[]) ∧ PAt base w' b ((S).ask (kind) (S.p) (0)) ∧ Kp 50 base b w w' := by
  have cp := hA.cp
  have cb_n := bx_n.cell
  have hK0 := Kp.refl 50 base b w
  go_enter Tryz.func131, Tryz.ntmps131
  go_still_tail 6, (by kernel_rfl)
  change wpList _ _ _ _ _ w.drew
  have hA1 := hA.drew
  have hK1 := hK0.drew
  clear hA hK0
  generalize w.drew = w1 at hA1 hK1 ⊢
  have cp1 := hA1.cp
  have cb_n1 := (bx_n.kp hK1).cell
  go_wp2_with (go_at_call 63; refine (pask base b _ (S) _ _ _ hA1 (by first | omega | (simp only [St.ops_ask, St.ops_put, St.ops_whole, St.ops_halves, St.ops_low, St.ops_keep, List.length_append, List.length_cons, List.length_nil]; omega))).mono ?_; clear hA1; rintro e2 w2 ⟨rfl, hA2, hN2⟩; have hK2 := hK1.trans hN2; clear hN2 hK1; have cp2 := hA2.cp; have cb_n2 := (bx_n.kp hK2).cell)
  go_end0
  exact ⟨rfl, hA2, hK2⟩
set_option maxRecDepth 100000 in
set_option maxHeartbeats 400000 in
theorem both1 (base b : Nat) (w : World) (S : St) (n : Nat) (kind : Int) (bx_n : Box 50 w b n (.int .i64 kind))  (hl : S.ops.length ≤ 800) (hA : PAt base w b S) :
    Calls Tryz.prog 130 #[.pointer (some ⟨b, 0, none⟩), .pointer (some ⟨n, 0, none⟩)] w fun e w' => e = .returned (.tuple #[]) ∧ PAt base w' b ((S).ask (kind) (S.h) (S.l)) ∧ Kp 50 base b w w' := by
  have ch := hA.ch
  simp only [Nat.reduceAdd] at ch
  have cl := hA.cl
  simp only [Nat.reduceAdd] at cl
  have cb_n := bx_n.cell
  have hK0 := Kp.refl 50 base b w
  go_enter Tryz.func130, Tryz.ntmps130
  go_still_tail 10, (by kernel_rfl)
  change wpList _ _ _ _ _ w.drew
  have hA1 := hA.drew
  have hK1 := hK0.drew
  clear hA hK0
  generalize w.drew = w1 at hA1 hK1 ⊢
  have ch1 := hA1.ch
  simp only [Nat.reduceAdd] at ch1
  have cl1 := hA1.cl
  simp only [Nat.reduceAdd] at cl1
  have cb_n1 := (bx_n.kp hK1).cell
  go_wp2_with (go_at_call 63; refine (pask base b _ (S) _ _ _ hA1 (by first | omega | (simp only [St.ops_ask, St.ops_put, St.ops_whole, St.ops_halves, St.ops_low, St.ops_keep, List.length_append, List.length_cons, List.length_nil]; omega))).mono ?_; clear hA1; rintro e2 w2 ⟨rfl, hA2, hN2⟩; have hK2 := hK1.trans hN2; clear hN2 hK1; have ch2 := hA2.ch; simp only [Nat.reduceAdd] at ch2; have cl2 := hA2.cl; simp only [Nat.reduceAdd] at cl2; have cb_n2 := (bx_n.kp hK2).cell)
  go_end0
  exact ⟨rfl, hA2, hK2⟩
set_option maxRecDepth 100000 in
set_option maxHeartbeats 400000 in
theorem wave1 (base b : Nat) (w : World) (S : St) (n : Nat) (kind : Int) (bx_n : Box 50 w b n (.int .i64 kind))  (hl : S.ops.length ≤ 800) (hA : PAt base w b S) :
    Calls Tryz.prog 136 #[.pointer (some ⟨b, 0, none⟩), .pointer (some ⟨n, 0, none⟩)] w fun e w' => e = .returned (.tuple #[]) ∧ PAt base w' b ((S).ask (kind) (S.l.tmod 4) (0)) ∧ Kp 50 base b w w' := by
  have cl := hA.cl
  simp only [Nat.reduceAdd] at cl
  have cb_n := bx_n.cell
  have hK0 := Kp.refl 50 base b w
  go_enter Tryz.func136, Tryz.ntmps136
  go_still_tail 7, (by kernel_rfl)
  change wpList _ _ _ _ _ w.drew
  have hA1 := hA.drew
  have hK1 := hK0.drew
  clear hA hK0
  generalize w.drew = w1 at hA1 hK1 ⊢
  have cl1 := hA1.cl
  simp only [Nat.reduceAdd] at cl1
  have cb_n1 := (bx_n.kp hK1).cell
  go_wp2_with (go_at_call 63; refine (pask base b _ (S) _ _ _ hA1 (by first | omega | (simp only [St.ops_ask, St.ops_put, St.ops_whole, St.ops_halves, St.ops_low, St.ops_keep, List.length_append, List.length_cons, List.length_nil]; omega))).mono ?_; clear hA1; rintro e2 w2 ⟨rfl, hA2, hN2⟩; have hK2 := hK1.trans hN2; clear hN2 hK1; have cl2 := hA2.cl; simp only [Nat.reduceAdd] at cl2; have cb_n2 := (bx_n.kp hK2).cell)
  go_end0
  exact ⟨rfl, hA2, hK2⟩
set_option maxRecDepth 100000 in
set_option maxHeartbeats 400000 in
theorem lowHalf1 (base b : Nat) (w : World) (S : St) (n : Nat) (kind : Int) (bx_n : Box 50 w b n (.int .i64 kind))  (hl : S.ops.length ≤ 800) (hA : PAt base w b S) :
    Calls Tryz.prog 142 #[.pointer (some ⟨b, 0, none⟩), .pointer (some ⟨n, 0, none⟩)] w fun e w' => e = .returned (.tuple #[]) ∧ PAt base w' b ((S).ask (kind) (S.l) (0)) ∧ Kp 50 base b w w' := by
  have cl := hA.cl
  simp only [Nat.reduceAdd] at cl
  have cb_n := bx_n.cell
  have hK0 := Kp.refl 50 base b w
  go_enter Tryz.func142, Tryz.ntmps142
  go_still_tail 6, (by kernel_rfl)
  change wpList _ _ _ _ _ w.drew
  have hA1 := hA.drew
  have hK1 := hK0.drew
  clear hA hK0
  generalize w.drew = w1 at hA1 hK1 ⊢
  have cl1 := hA1.cl
  simp only [Nat.reduceAdd] at cl1
  have cb_n1 := (bx_n.kp hK1).cell
  go_wp2_with (go_at_call 63; refine (pask base b _ (S) _ _ _ hA1 (by first | omega | (simp only [St.ops_ask, St.ops_put, St.ops_whole, St.ops_halves, St.ops_low, St.ops_keep, List.length_append, List.length_cons, List.length_nil]; omega))).mono ?_; clear hA1; rintro e2 w2 ⟨rfl, hA2, hN2⟩; have hK2 := hK1.trans hN2; clear hN2 hK1; have cl2 := hA2.cl; simp only [Nat.reduceAdd] at cl2; have cb_n2 := (bx_n.kp hK2).cell)
  go_end0
  exact ⟨rfl, hA2, hK2⟩
set_option maxRecDepth 100000 in
set_option maxHeartbeats 400000 in
theorem doubled1_a (base b : Nat) (w : World) (S : St) (n1 n2 : Nat) (kind most : Int) (bx_n1 : Box 50 w b n1 (.int .i64 kind)) (bx_n2 : Box 50 w b n2 (.int .i64 most)) (t0 : S.p ≤ most) (hl : S.ops.length ≤ 800) (hA : PAt base w b S) :
    Calls Tryz.prog 138 #[.pointer (some ⟨b, 0, none⟩), .pointer (some ⟨n1, 0, none⟩), .pointer (some ⟨n2, 0, none⟩)] w fun e w' => e = .returned (.tuple #[]) ∧ PAt base w' b ((S).ask (kind) (wrap64 (2 * S.p)) (0)) ∧ Kp 50 base b w w' := by
  have cp := hA.cp
  have cb_n1 := bx_n1.cell
  have cb_n2 := bx_n2.cell
  have hK0 := Kp.refl 50 base b w
  go_enter Tryz.func138, Tryz.ntmps138
  go_still_tail 9, (by kernel_rfl)
  change wpList _ _ _ _ _ w.drew
  have hA1 := hA.drew
  have hK1 := hK0.drew
  clear hA hK0
  generalize w.drew = w1 at hA1 hK1 ⊢
  have cp1 := hA1.cp
  have cb_n11 := (bx_n1.kp hK1).cell
  have cb_n21 := (bx_n2.kp hK1).cell
  go_wp2_with (go_at_call 63; refine (pask base b _ (S) _ _ _ hA1 (by first | omega | (simp only [St.ops_ask, St.ops_put, St.ops_whole, St.ops_halves, St.ops_low, St.ops_keep, List.length_append, List.length_cons, List.length_nil]; omega))).mono ?_; clear hA1; rintro e2 w2 ⟨rfl, hA2, hN2⟩; have hK2 := hK1.trans hN2; clear hN2 hK1; have cp2 := hA2.cp; have cb_n12 := (bx_n1.kp hK2).cell; have cb_n22 := (bx_n2.kp hK2).cell)
  go_end0
  exact ⟨rfl, hA2, hK2⟩
set_option maxRecDepth 100000 in
set_option maxHeartbeats 400000 in
theorem doubled1_b (base b : Nat) (w : World) (S : St) (n1 n2 : Nat) (kind most : Int) (bx_n1 : Box 50 w b n1 (.int .i64 kind)) (bx_n2 : Box 50 w b n2 (.int .i64 most)) (t0 : most < S.p) (hl : S.ops.length ≤ 800) (hA : PAt base w b S) :
    Calls Tryz.prog 138 #[.pointer (some ⟨b, 0, none⟩), .pointer (some ⟨n1, 0, none⟩), .pointer (some ⟨n2, 0, none⟩)] w fun e w' => e = .returned (.tuple #[]) ∧ PAt base w' b ((S).ask (kind) (wrap64 (2 * most)) (0)) ∧ Kp 50 base b w w' := by
  have cp := hA.cp
  have cb_n1 := bx_n1.cell
  have cb_n2 := bx_n2.cell
  have hK0 := Kp.refl 50 base b w
  go_enter Tryz.func138, Tryz.ntmps138
  go_still_tail 9, (by kernel_rfl)
  change wpList _ _ _ _ _ w.drew
  have hA1 := hA.drew
  have hK1 := hK0.drew
  clear hA hK0
  generalize w.drew = w1 at hA1 hK1 ⊢
  have cp1 := hA1.cp
  have cb_n11 := (bx_n1.kp hK1).cell
  have cb_n21 := (bx_n2.kp hK1).cell
  go_wp2_with (go_at_call 63; refine (pask base b _ (S) _ _ _ hA1 (by first | omega | (simp only [St.ops_ask, St.ops_put, St.ops_whole, St.ops_halves, St.ops_low, St.ops_keep, List.length_append, List.length_cons, List.length_nil]; omega))).mono ?_; clear hA1; rintro e2 w2 ⟨rfl, hA2, hN2⟩; have hK2 := hK1.trans hN2; clear hN2 hK1; have cp2 := hA2.cp; have cb_n12 := (bx_n1.kp hK2).cell; have cb_n22 := (bx_n2.kp hK2).cell)
  go_end0
  exact ⟨rfl, hA2, hK2⟩
set_option maxRecDepth 100000 in
set_option maxHeartbeats 400000 in
theorem unless01_a (base b : Nat) (w : World) (S : St) (n : Nat) (X : Nat → Prop) (v : Value) (E : St → St) (hE : Eff X base b w v E) (bx_n : Box 50 w b n (v)) (t0 : (S.p != 0) = true) (hl : S.ops.length ≤ 800) (hA : PAt base w b S) :
    Calls Tryz.prog 129 #[.pointer (some ⟨b, 0, none⟩), .pointer (some ⟨n, 0, none⟩)] w fun e w' => e = .returned (.tuple #[]) ∧ PAt base w' b (E (S)) ∧ Kp 50 base b w w' := by
  have cp := hA.cp
  have cb_n := bx_n.cell
  obtain ⟨fid, cap, rfl, hr, hE⟩ := hE
  have HE := Lib.hid hE; clear hE
  have hK0 := Kp.refl 50 base b w
  go_enter Tryz.func129, Tryz.ntmps129
  go_wp2_with fail
  refine (HE.out _ _ (kp_x hK0 X) hA (by first | omega | (simp only [St.ops_ask, St.ops_put, St.ops_whole, St.ops_halves, St.ops_low, St.ops_keep, List.length_append, List.length_cons, List.length_nil]; omega))).mono ?_
  clear hA
  rintro e1 w1 ⟨rfl, hA1, hN1⟩
  have hK1 := hK0.trans hN1
  go_wp2
  go_end0
  exact ⟨rfl, hA1, hK1⟩
set_option maxRecDepth 100000 in
set_option maxHeartbeats 400000 in
theorem unless01_b (base b : Nat) (w : World) (S : St) (n : Nat) (t0 : (S.p != 0) = false) (hA : PAt base w b S) :
    Calls Tryz.prog 129 #[.pointer (some ⟨b, 0, none⟩), .pointer (some ⟨n, 0, none⟩)] w fun e w' => e = .returned (.tuple #[]) ∧ PAt base w' b (S) ∧ Kp 50 base b w w' := by
  have cp := hA.cp
  go_enter Tryz.func129, Tryz.ntmps129
  go_wp2
  go_end0
  exact ⟨rfl, hA, Kp.refl _ _ _ _⟩
set_option maxRecDepth 100000 in
set_option maxHeartbeats 400000 in
theorem halved1 (base b : Nat) (w : World) (S : St) (n1 n2 : Nat) (k : Int) (h0 : 0 ≤ k) (hk : k < 24) (X : Nat → Prop) (v : Value) (E : St → St) (hE : Eff X base b w v E) (bx_n1 : Box 50 w b n1 (.int .i64 k)) (bx_n2 : Box 50 w b n2 (v))  (hl : S.ops.length ≤ 800) (hA : PAt base w b S) :
    Calls Tryz.prog 133 #[.pointer (some ⟨b, 0, none⟩), .pointer (some ⟨n1, 0, none⟩), .pointer (some ⟨n2, 0, none⟩)] w fun e w' => e = .returned (.tuple #[]) ∧ PAt base w' b (E ((S).halves (k))) ∧ Kp 50 base b w w' := by
  have cb_n1 := bx_n1.cell
  have cb_n2 := bx_n2.cell
  obtain ⟨fid, cap, rfl, hr, hE⟩ := hE
  have HE := Lib.hid hE; clear hE
  have hK0 := Kp.refl 50 base b w
  go_enter Tryz.func133, Tryz.ntmps133
  go_wp2_with (go_at_call 72; refine (phalves base b _ (S) _ (by assumption) (by assumption) hA).mono ?_; clear hA; rintro e1 w1 ⟨rfl, hA1, hN1⟩; have hK1 := hK0.trans hN1; clear hN1 hK0; have cb_n11 := (bx_n1.kp hK1).cell; have cb_n21 := (bx_n2.kp hK1).cell)
  refine (HE.out _ _ (kp_x hK1 X) hA1 (by first | omega | (simp only [St.ops_ask, St.ops_put, St.ops_whole, St.ops_halves, St.ops_low, St.ops_keep, List.length_append, List.length_cons, List.length_nil]; omega))).mono ?_
  clear hA1
  rintro e2 w2 ⟨rfl, hA2, hN2⟩
  have hK2 := hK1.trans hN2
  go_wp2
  go_end0
  exact ⟨rfl, hA2, hK2⟩
set_option maxRecDepth 100000 in
set_option maxHeartbeats 400000 in
theorem wholly1 (base b : Nat) (w : World) (S : St) (n1 n2 : Nat) (k : Int) (h0 : 0 ≤ k) (hk : k < 24) (X : Nat → Prop) (v : Value) (E : St → St) (hE : Eff X base b w v E) (bx_n1 : Box 50 w b n1 (.int .i64 k)) (bx_n2 : Box 50 w b n2 (v))  (hl : S.ops.length ≤ 800) (hA : PAt base w b S) :
    Calls Tryz.prog 132 #[.pointer (some ⟨b, 0, none⟩), .pointer (some ⟨n1, 0, none⟩), .pointer (some ⟨n2, 0, none⟩)] w fun e w' => e = .returned (.tuple #[]) ∧ PAt base w' b (E ((S).whole (k))) ∧ Kp 50 base b w w' := by
  have cb_n1 := bx_n1.cell
  have cb_n2 := bx_n2.cell
  obtain ⟨fid, cap, rfl, hr, hE⟩ := hE
  have HE := Lib.hid hE; clear hE
  have hK0 := Kp.refl 50 base b w
  go_enter Tryz.func132, Tryz.ntmps132
  go_wp2_with (go_at_call 70; refine (pwhole base b _ (S) _ (by assumption) (by assumption) hA).mono ?_; clear hA; rintro e1 w1 ⟨rfl, hA1, hN1⟩; have hK1 := hK0.trans hN1; clear hN1 hK0; have cb_n11 := (bx_n1.kp hK1).cell; have cb_n21 := (bx_n2.kp hK1).cell)
  refine (HE.out _ _ (kp_x hK1 X) hA1 (by first | omega | (simp only [St.ops_ask, St.ops_put, St.ops_whole, St.ops_halves, St.ops_low, St.ops_keep, List.length_append, List.length_cons, List.length_nil]; omega))).mono ?_
  clear hA1
  rintro e2 w2 ⟨rfl, hA2, hN2⟩
  have hK2 := hK1.trans hN2
  go_wp2
  go_end0
  exact ⟨rfl, hA2, hK2⟩
set_option maxRecDepth 100000 in
set_option maxHeartbeats 400000 in
theorem lowly1 (base b : Nat) (w : World) (S : St) (n1 n2 : Nat) (k : Int) (h0 : 0 ≤ k) (hk : k < 24) (X : Nat → Prop) (v : Value) (E : St → St) (hE : Eff X base b w v E) (bx_n1 : Box 50 w b n1 (.int .i64 k)) (bx_n2 : Box 50 w b n2 (v))  (hl : S.ops.length ≤ 800) (hA : PAt base w b S) :
    Calls Tryz.prog 115 #[.pointer (some ⟨b, 0, none⟩), .pointer (some ⟨n1, 0, none⟩), .pointer (some ⟨n2, 0, none⟩)] w fun e w' => e = .returned (.tuple #[]) ∧ PAt base w' b (E ((S).low (k))) ∧ Kp 50 base b w w' := by
  have cb_n1 := bx_n1.cell
  have cb_n2 := bx_n2.cell
  obtain ⟨fid, cap, rfl, hr, hE⟩ := hE
  have HE := Lib.hid hE; clear hE
  have hK0 := Kp.refl 50 base b w
  go_enter Tryz.func115, Tryz.ntmps115
  go_wp2_with (go_at_call 116; refine (plow base b _ (S) _ (by assumption) (by assumption) hA).mono ?_; clear hA; rintro e1 w1 ⟨rfl, hA1, hN1⟩; have hK1 := hK0.trans hN1; clear hN1 hK0; have cb_n11 := (bx_n1.kp hK1).cell; have cb_n21 := (bx_n2.kp hK1).cell)
  refine (HE.out _ _ (kp_x hK1 X) hA1 (by first | omega | (simp only [St.ops_ask, St.ops_put, St.ops_whole, St.ops_halves, St.ops_low, St.ops_keep, List.length_append, List.length_cons, List.length_nil]; omega))).mono ?_
  clear hA1
  rintro e2 w2 ⟨rfl, hA2, hN2⟩
  have hK2 := hK1.trans hN2
  go_wp2
  go_end0
  exact ⟨rfl, hA2, hK2⟩
set_option maxRecDepth 100000 in
set_option maxHeartbeats 400000 in
theorem upTo1_a (base b : Nat) (w : World) (S : St) (n1 n2 : Nat) (most : Int) (X : Nat → Prop) (v : Value) (E : St → St) (hE : Eff X base b w v E) (bx_n1 : Box 50 w b n1 (.int .i64 most)) (bx_n2 : Box 50 w b n2 (v)) (t0 : decide (S.p ≤ most) = true) (hl : S.ops.length ≤ 800) (hA : PAt base w b S) :
    Calls Tryz.prog 139 #[.pointer (some ⟨b, 0, none⟩), .pointer (some ⟨n1, 0, none⟩), .pointer (some ⟨n2, 0, none⟩)] w fun e w' => e = .returned (.tuple #[]) ∧ PAt base w' b (E (S)) ∧ Kp 50 base b w w' := by
  have cp := hA.cp
  have cb_n1 := bx_n1.cell
  have cb_n2 := bx_n2.cell
  obtain ⟨fid, cap, rfl, hr, hE⟩ := hE
  have HE := Lib.hid hE; clear hE
  have hK0 := Kp.refl 50 base b w
  go_enter Tryz.func139, Tryz.ntmps139
  go_wp2
  go_region
  have hA1 := hA.drew
  have hK1 := hK0.drew
  clear hA hK0
  generalize w.drew = w1 at hA1 hK1 ⊢
  have cp1 := hA1.cp
  have cb_n11 := (bx_n1.kp hK1).cell
  have cb_n21 := (bx_n2.kp hK1).cell
  go_wp2_with fail
  refine (HE.out _ _ (kp_x hK1 X) hA1 (by first | omega | (simp only [St.ops_ask, St.ops_put, St.ops_whole, St.ops_halves, St.ops_low, St.ops_keep, List.length_append, List.length_cons, List.length_nil]; omega))).mono ?_
  clear hA1
  rintro e2 w2 ⟨rfl, hA2, hN2⟩
  have hK2 := hK1.trans hN2
  go_wp2
  go_end0
  exact ⟨rfl, hA2, hK2⟩
set_option maxRecDepth 100000 in
set_option maxHeartbeats 400000 in
theorem upTo1_b (base b : Nat) (w : World) (S : St) (n1 n2 : Nat) (most : Int) (t0 : decide (S.p ≤ most) = false) (b1 : Box 50 w b n1 (.int .i64 most)) (hA : PAt base w b S) :
    Calls Tryz.prog 139 #[.pointer (some ⟨b, 0, none⟩), .pointer (some ⟨n1, 0, none⟩), .pointer (some ⟨n2, 0, none⟩)] w fun e w' => e = .returned (.tuple #[]) ∧ PAt base w' b (S) ∧ Kp 50 base b w w' := by
  have cp := hA.cp
  have cb := b1.cell
  have hA1 := hA.drew
  have hK1 := (Kp.refl 50 base b w).drew
  go_enter Tryz.func139, Tryz.ntmps139
  go_wp2
  go_region
  generalize w.drew = w1 at hA1 hK1 ⊢
  go_wp2
  go_end0
  exact ⟨rfl, hA1, hK1⟩
set_option maxRecDepth 100000 in
set_option maxHeartbeats 400000 in
theorem extra1 (base b : Nat) (w : World) (S : St) (n1 n2 : Nat) (k kind : Int) (h0 : 0 ≤ k) (hk : k < 24) (bx_n1 : Box 50 w b n1 (.int .i64 k)) (bx_n2 : Box 50 w b n2 (.int .i64 kind))  (hl : S.ops.length ≤ 800) (hA : PAt base w b S) :
    Calls Tryz.prog 119 #[.pointer (some ⟨b, 0, none⟩), .pointer (some ⟨n1, 0, none⟩), .pointer (some ⟨n2, 0, none⟩)] w fun e w' => e = .returned (.tuple #[]) ∧ PAt base w' b (((S).low (k)).ask (kind) (((S).low (k)).l) (0)) ∧ Kp 50 base b w w' := by
  have cl := hA.cl
  simp only [Nat.reduceAdd] at cl
  have cb_n1 := bx_n1.cell
  have cb_n2 := bx_n2.cell
  have hK0 := Kp.refl 50 base b w
  go_enter Tryz.func119, Tryz.ntmps119
  go_wp2_with (go_at_call 116; refine (plow base b _ (S) _ (by assumption) (by assumption) hA).mono ?_; clear hA; rintro e1 w1 ⟨rfl, hA1, hN1⟩; have hK1 := hK0.trans hN1; clear hN1 hK0; have cl1 := hA1.cl; simp only [Nat.reduceAdd] at cl1; have cb_n11 := (bx_n1.kp hK1).cell; have cb_n21 := (bx_n2.kp hK1).cell)
  go_still_tail 6, (by kernel_rfl)
  change wpList _ _ _ _ _ w1.drew
  have hA2 := hA1.drew
  have hK2 := hK1.drew
  clear hA1 hK1
  generalize w1.drew = w2 at hA2 hK2 ⊢
  have cl2 := hA2.cl
  simp only [Nat.reduceAdd] at cl2
  have cb_n12 := (bx_n1.kp hK2).cell
  have cb_n22 := (bx_n2.kp hK2).cell
  go_wp2_with (go_at_call 63; refine (pask base b _ ((S).low (k)) _ _ _ hA2 (by first | omega | (simp only [St.ops_ask, St.ops_put, St.ops_whole, St.ops_halves, St.ops_low, St.ops_keep, List.length_append, List.length_cons, List.length_nil]; omega))).mono ?_; clear hA2; rintro e3 w3 ⟨rfl, hA3, hN3⟩; have hK3 := hK2.trans hN3; clear hN3 hK2; have cl3 := hA3.cl; simp only [Nat.reduceAdd] at cl3; have cb_n13 := (bx_n1.kp hK3).cell; have cb_n23 := (bx_n2.kp hK3).cell)
  go_end0
  exact ⟨rfl, hA3, hK3⟩
set_option maxRecDepth 100000 in
set_option maxHeartbeats 400000 in
theorem retrig2 (base b : Nat) (w : World) (S : St)    (hl : S.ops.length ≤ 800) (hA : PAt base w b S) :
    Calls Tryz.prog 117 #[.pointer (some ⟨b, 0, none⟩)] w fun e w' => e = .returned (.tuple #[]) ∧ PAt base w' b ((S).ask (19) (S.l) (S.h)) ∧ Kp 50 base b w w' := by
  have ch := hA.ch
  simp only [Nat.reduceAdd] at ch
  have cl := hA.cl
  simp only [Nat.reduceAdd] at cl
  have hK0 := Kp.refl 50 base b w
  go_enter Tryz.func117, Tryz.ntmps117
  go_still_tail 9, (by kernel_rfl)
  change wpList _ _ _ _ _ w.drew
  have hA1 := hA.drew
  have hK1 := hK0.drew
  clear hA hK0
  generalize w.drew = w1 at hA1 hK1 ⊢
  have ch1 := hA1.ch
  simp only [Nat.reduceAdd] at ch1
  have cl1 := hA1.cl
  simp only [Nat.reduceAdd] at cl1
  go_wp2_with (go_at_call 63; refine (pask base b _ (S) _ _ _ hA1 (by first | omega | (simp only [St.ops_ask, St.ops_put, St.ops_whole, St.ops_halves, St.ops_low, St.ops_keep, List.length_append, List.length_cons, List.length_nil]; omega))).mono ?_; clear hA1; rintro e2 w2 ⟨rfl, hA2, hN2⟩; have hK2 := hK1.trans hN2; clear hN2 hK1; have ch2 := hA2.ch; simp only [Nat.reduceAdd] at ch2; have cl2 := hA2.cl; simp only [Nat.reduceAdd] at cl2)
  go_end0
  exact ⟨rfl, hA2, hK2⟩
set_option maxRecDepth 100000 in
set_option maxHeartbeats 400000 in
theorem retrig (base b : Nat) (w : World) (S : St)    (hl : S.ops.length ≤ 800) (hA : PAt base w b S) :
    Calls Tryz.prog 112 #[.pointer (some ⟨b, 0, none⟩)] w fun e w' => e = .returned (.tuple #[]) ∧ PAt base w' b ((S).ask (19) (S.l) (S.h)) ∧ Kp 50 base b w w' := by
  have ch := hA.ch
  simp only [Nat.reduceAdd] at ch
  have cl := hA.cl
  simp only [Nat.reduceAdd] at cl
  have hK0 := Kp.refl 50 base b w
  go_enter Tryz.func112, Tryz.ntmps112
  go_still_tail 9, (by kernel_rfl)
  change wpList _ _ _ _ _ w.drew
  have hA1 := hA.drew
  have hK1 := hK0.drew
  clear hA hK0
  generalize w.drew = w1 at hA1 hK1 ⊢
  have ch1 := hA1.ch
  simp only [Nat.reduceAdd] at ch1
  have cl1 := hA1.cl
  simp only [Nat.reduceAdd] at cl1
  go_wp2_with (go_at_call 63; refine (pask base b _ (S) _ _ _ hA1 (by first | omega | (simp only [St.ops_ask, St.ops_put, St.ops_whole, St.ops_halves, St.ops_low, St.ops_keep, List.length_append, List.length_cons, List.length_nil]; omega))).mono ?_; clear hA1; rintro e2 w2 ⟨rfl, hA2, hN2⟩; have hK2 := hK1.trans hN2; clear hN2 hK1; have ch2 := hA2.ch; simp only [Nat.reduceAdd] at ch2; have cl2 := hA2.cl; simp only [Nat.reduceAdd] at cl2)
  go_end0
  exact ⟨rfl, hA2, hK2⟩
set_option maxRecDepth 100000 in
set_option maxHeartbeats 400000 in
theorem panSlide (base b : Nat) (w : World) (S : St)    (hl : S.ops.length ≤ 800) (hA : PAt base w b S) :
    Calls Tryz.prog 121 #[.pointer (some ⟨b, 0, none⟩)] w fun e w' => e = .returned (.tuple #[]) ∧ PAt base w' b ((S).ask (17) (S.l) (S.h)) ∧ Kp 50 base b w w' := by
  have ch := hA.ch
  simp only [Nat.reduceAdd] at ch
  have cl := hA.cl
  simp only [Nat.reduceAdd] at cl
  have hK0 := Kp.refl 50 base b w
  go_enter Tryz.func121, Tryz.ntmps121
  go_still_tail 9, (by kernel_rfl)
  change wpList _ _ _ _ _ w.drew
  have hA1 := hA.drew
  have hK1 := hK0.drew
  clear hA hK0
  generalize w.drew = w1 at hA1 hK1 ⊢
  have ch1 := hA1.ch
  simp only [Nat.reduceAdd] at ch1
  have cl1 := hA1.cl
  simp only [Nat.reduceAdd] at cl1
  go_wp2_with (go_at_call 63; refine (pask base b _ (S) _ _ _ hA1 (by first | omega | (simp only [St.ops_ask, St.ops_put, St.ops_whole, St.ops_halves, St.ops_low, St.ops_keep, List.length_append, List.length_cons, List.length_nil]; omega))).mono ?_; clear hA1; rintro e2 w2 ⟨rfl, hA2, hN2⟩; have hK2 := hK1.trans hN2; clear hN2 hK1; have ch2 := hA2.ch; simp only [Nat.reduceAdd] at ch2; have cl2 := hA2.cl; simp only [Nat.reduceAdd] at cl2)
  go_end0
  exact ⟨rfl, hA2, hK2⟩
set_option maxRecDepth 100000 in
set_option maxHeartbeats 400000 in
theorem recalled (base b : Nat) (w : World) (S : St) (k : Int) (h0 : 0 ≤ k) (hk : k < 24)   (hl : S.ops.length ≤ 800) (hA : PAt base w b S) :
    Calls Tryz.prog 91 #[.pointer (some ⟨b, 0, none⟩), .int .i64 k] w fun e w' => e = .returned (.tuple #[]) ∧ PAt base w' b ((S).ask (9) (wrap64 ((S.slot k).tdiv 16)) ((S.slot k).tmod 16)) ∧ Kp 50 base b w w' := by
  have hK0 := Kp.refl 50 base b w
  go_enter Tryz.func91, Tryz.ntmps91
  go_wp2_with (first | (go_at_call 77; refine (pslot base b _ (S) _ (by first | assumption | decide) (by first | assumption | decide) hA).mono ?_; clear hA; rintro e1 w1 ⟨rfl, hA1, hN1⟩; have hK1 := hK0.trans hN1; clear hN1 hK0) | (go_at_call 77; refine (pslot base b _ (S) _ (by first | assumption | decide) (by first | assumption | decide) hA1).mono ?_; clear hA1; rintro e2 w2 ⟨rfl, hA2, hN2⟩; have hK2 := hK1.trans hN2; clear hN2 hK1) | (go_at_call 63; refine (pask base b _ (S) _ _ _ hA2 (by first | omega | (simp only [St.ops_ask, St.ops_put, St.ops_whole, St.ops_halves, St.ops_low, St.ops_keep, List.length_append, List.length_cons, List.length_nil]; omega))).mono ?_; clear hA2; rintro e3 w3 ⟨rfl, hA3, hN3⟩; have hK3 := hK2.trans hN3; clear hN3 hK2))
  go_end0
  exact ⟨rfl, hA3, hK3⟩
set_option maxRecDepth 100000 in
set_option maxHeartbeats 400000 in
theorem four1 (base b : Nat) (w : World) (S : St)    (hl : S.ops.length ≤ 800) (hA : PAt base w b S) :
    Calls Tryz.prog 89 #[.pointer (some ⟨b, 0, none⟩)] w fun e w' => e = .returned (.tuple #[]) ∧ PAt base w' b (((S).ask (8) (S.slot 1) (0)).ask (12) (((S).ask (8) (S.slot 1) (0)).h) (((S).ask (8) (S.slot 1) (0)).l)) ∧ Kp 50 base b w w' := by
  have ch := hA.ch
  simp only [Nat.reduceAdd] at ch
  have cl := hA.cl
  simp only [Nat.reduceAdd] at cl
  have hK0 := Kp.refl 50 base b w
  go_enter Tryz.func89, Tryz.ntmps89
  go_wp2_with (first | (go_at_call 77; refine (pslot base b _ (S) _ (by first | assumption | decide) (by first | assumption | decide) hA).mono ?_; clear hA; rintro e1 w1 ⟨rfl, hA1, hN1⟩; have hK1 := hK0.trans hN1; clear hN1 hK0; have ch1 := hA1.ch; simp only [Nat.reduceAdd] at ch1; have cl1 := hA1.cl; simp only [Nat.reduceAdd] at cl1) | (go_at_call 63; refine (pask base b _ (S) _ _ _ hA1 (by first | omega | (simp only [St.ops_ask, St.ops_put, St.ops_whole, St.ops_halves, St.ops_low, St.ops_keep, List.length_append, List.length_cons, List.length_nil]; omega))).mono ?_; clear hA1; rintro e2 w2 ⟨rfl, hA2, hN2⟩; have hK2 := hK1.trans hN2; clear hN2 hK1; have ch2 := hA2.ch; simp only [Nat.reduceAdd] at ch2; have cl2 := hA2.cl; simp only [Nat.reduceAdd] at cl2))
  go_still_tail 9, (by kernel_rfl)
  change wpList _ _ _ _ _ w2.drew
  have hA3 := hA2.drew
  have hK3 := hK2.drew
  clear hA2 hK2
  generalize w2.drew = w3 at hA3 hK3 ⊢
  have ch3 := hA3.ch
  simp only [Nat.reduceAdd] at ch3
  have cl3 := hA3.cl
  simp only [Nat.reduceAdd] at cl3
  go_wp2_with (go_at_call 63; refine (pask base b _ ((S).ask (8) (S.slot 1) (0)) _ _ _ hA3 (by first | omega | (simp only [St.ops_ask, St.ops_put, St.ops_whole, St.ops_halves, St.ops_low, St.ops_keep, List.length_append, List.length_cons, List.length_nil]; omega))).mono ?_; clear hA3; rintro e4 w4 ⟨rfl, hA4, hN4⟩; have hK4 := hK3.trans hN4; clear hN4 hK3; have ch4 := hA4.ch; simp only [Nat.reduceAdd] at ch4; have cl4 := hA4.cl; simp only [Nat.reduceAdd] at cl4)
  go_end0
  exact ⟨rfl, hA4, hK4⟩
set_option maxRecDepth 100000 in
set_option maxHeartbeats 400000 in
theorem four2 (base b : Nat) (w : World) (S : St)    (hl : S.ops.length ≤ 800) (hA : PAt base w b S) :
    Calls Tryz.prog 90 #[.pointer (some ⟨b, 0, none⟩)] w fun e w' => e = .returned (.tuple #[]) ∧ PAt base w' b (((S).ask 9 (wrap64 (((S).slot 2).tdiv 16)) (((S).slot 2).tmod 16)).ask (12) (((S).ask 9 (wrap64 (((S).slot 2).tdiv 16)) (((S).slot 2).tmod 16)).h) (((S).ask 9 (wrap64 (((S).slot 2).tdiv 16)) (((S).slot 2).tmod 16)).l)) ∧ Kp 50 base b w w' := by
  have ch := hA.ch
  simp only [Nat.reduceAdd] at ch
  have cl := hA.cl
  simp only [Nat.reduceAdd] at cl
  have hK0 := Kp.refl 50 base b w
  go_enter Tryz.func90, Tryz.ntmps90
  go_wp2_with (go_at_call 91; refine (recalled base b _ (S) _ (by decide) (by decide) (by first | omega | (simp only [St.ops_ask, St.ops_put, St.ops_whole, St.ops_halves, St.ops_low, St.ops_keep, List.length_append, List.length_cons, List.length_nil]; omega)) hA).mono ?_; clear hA; rintro e1 w1 ⟨rfl, hA1, hN1⟩; have hK1 := hK0.trans hN1; clear hN1 hK0; have ch1 := hA1.ch; simp only [Nat.reduceAdd] at ch1; have cl1 := hA1.cl; simp only [Nat.reduceAdd] at cl1)
  go_still_tail 9, (by kernel_rfl)
  change wpList _ _ _ _ _ w1.drew
  have hA2 := hA1.drew
  have hK2 := hK1.drew
  clear hA1 hK1
  generalize w1.drew = w2 at hA2 hK2 ⊢
  have ch2 := hA2.ch
  simp only [Nat.reduceAdd] at ch2
  have cl2 := hA2.cl
  simp only [Nat.reduceAdd] at cl2
  go_wp2_with (go_at_call 63; refine (pask base b _ ((S).ask 9 (wrap64 (((S).slot 2).tdiv 16)) (((S).slot 2).tmod 16)) _ _ _ hA2 (by first | omega | (simp only [St.ops_ask, St.ops_put, St.ops_whole, St.ops_halves, St.ops_low, St.ops_keep, List.length_append, List.length_cons, List.length_nil]; omega))).mono ?_; clear hA2; rintro e3 w3 ⟨rfl, hA3, hN3⟩; have hK3 := hK2.trans hN3; clear hN3 hK2; have ch3 := hA3.ch; simp only [Nat.reduceAdd] at ch3; have cl3 := hA3.cl; simp only [Nat.reduceAdd] at cl3)
  go_end0
  exact ⟨rfl, hA3, hK3⟩
set_option maxRecDepth 100000 in
set_option maxHeartbeats 400000 in
theorem four3 (base b : Nat) (w : World) (S : St) (hl : S.ops.length ≤ 800) (hA : PAt base w b S) :
    Calls Tryz.prog 92 #[.pointer (some ⟨b, 0, none⟩)] w fun e w' => e = .returned (.tuple #[]) ∧ PAt base w' b (S.ask 16 (wrap64 (S.p + wrap64 ((S.p).tdiv 128))) 0) ∧ Kp 50 base b w w' := by
  have cp := hA.cp
  go_enter Tryz.func92, Tryz.ntmps92
  go_wp2_with (first | (go_at_call 93; refine (ppan _ _).mono ?_; rintro e0 w0 ⟨rfl, rfl⟩) | (go_at_call 63; refine (pask base b _ S _ _ _ hA (by omega)).mono ?_; rintro e w1 ⟨rfl, hA1, hK1⟩))
  go_end0
  exact ⟨rfl, hA1, hK1⟩
set_option maxRecDepth 100000 in
set_option maxHeartbeats 400000 in
theorem panLow (base b : Nat) (w : World) (S : St) (hl : S.ops.length ≤ 800) (hA : PAt base w b S) :
    Calls Tryz.prog 104 #[.pointer (some ⟨b, 0, none⟩)] w fun e w' => e = .returned (.tuple #[]) ∧ PAt base w' b (S.ask 16 (wrap64 (wrap64 (17 * S.l) + wrap64 ((wrap64 (17 * S.l)).tdiv 128))) 0) ∧ Kp 50 base b w w' := by
  have cl := hA.cl
  simp only [Nat.reduceAdd] at cl
  go_enter Tryz.func104, Tryz.ntmps104
  go_wp2_with (first | (go_at_call 93; refine (ppan _ _).mono ?_; rintro e0 w0 ⟨rfl, rfl⟩) | (go_at_call 63; refine (pask base b _ S _ _ _ hA (by omega)).mono ?_; rintro e w1 ⟨rfl, hA1, hK1⟩))
  go_end0
  exact ⟨rfl, hA1, hK1⟩
set_option maxRecDepth 100000 in
set_option maxHeartbeats 400000 in
theorem impulse2 (base b : Nat) (w : World) (S : St) (hl : S.ops.length ≤ 800) (hA : PAt base w b S) :
    Calls Tryz.prog 124 #[.pointer (some ⟨b, 0, none⟩)] w fun e w' => e = .returned (.tuple #[]) ∧ PAt base w' b (S.ask 16 (wrap64 (S.p + wrap64 ((S.p).tdiv 128))) 0) ∧ Kp 50 base b w w' := by
  have cp := hA.cp
  go_enter Tryz.func124, Tryz.ntmps124
  go_wp2_with (first | (go_at_call 93; refine (ppan _ _).mono ?_; rintro e0 w0 ⟨rfl, rfl⟩) | (go_at_call 63; refine (pask base b _ S _ _ _ hA (by omega)).mono ?_; rintro e w1 ⟨rfl, hA1, hK1⟩))
  go_end0
  exact ⟨rfl, hA1, hK1⟩
set_option maxRecDepth 100000 in
set_option maxHeartbeats 400000 in
theorem four4 (base b : Nat) (w : World) (S : St)    (hl : S.ops.length ≤ 800) (hA : PAt base w b S) :
    Calls Tryz.prog 94 #[.pointer (some ⟨b, 0, none⟩)] w fun e w' => e = .returned (.tuple #[]) ∧ PAt base w' b ((S).ask (18) (wrap64 (256 * S.p)) (0)) ∧ Kp 50 base b w w' := by
  have cp := hA.cp
  have hK0 := Kp.refl 50 base b w
  go_enter Tryz.func94, Tryz.ntmps94
  go_wp2_with (go_at_call 63; refine (pask base b _ (S) _ _ _ hA (by first | omega | (simp only [St.ops_ask, St.ops_put, St.ops_whole, St.ops_halves, St.ops_low, St.ops_keep, List.length_append, List.length_cons, List.length_nil]; omega))).mono ?_; clear hA; rintro e1 w1 ⟨rfl, hA1, hN1⟩; have hK1 := hK0.trans hN1; clear hN1 hK0; have cp1 := hA1.cp)
  go_end0
  exact ⟨rfl, hA1, hK1⟩
set_option maxRecDepth 100000 in
set_option maxHeartbeats 400000 in
theorem scream2 (base b : Nat) (w : World) (S : St)    (hl : S.ops.length ≤ 800) (hA : PAt base w b S) :
    Calls Tryz.prog 111 #[.pointer (some ⟨b, 0, none⟩)] w fun e w' => e = .returned (.tuple #[]) ∧ PAt base w' b ((S).ask (18) (wrap64 (256 * S.p)) (0)) ∧ Kp 50 base b w w' := by
  have cp := hA.cp
  have hK0 := Kp.refl 50 base b w
  go_enter Tryz.func111, Tryz.ntmps111
  go_wp2_with (go_at_call 63; refine (pask base b _ (S) _ _ _ hA (by first | omega | (simp only [St.ops_ask, St.ops_put, St.ops_whole, St.ops_halves, St.ops_low, St.ops_keep, List.length_append, List.length_cons, List.length_nil]; omega))).mono ?_; clear hA; rintro e1 w1 ⟨rfl, hA1, hN1⟩; have hK1 := hK0.trans hN1; clear hN1 hK0; have cp1 := hA1.cp)
  go_end0
  exact ⟨rfl, hA1, hK1⟩
set_option maxRecDepth 100000 in
set_option maxHeartbeats 400000 in
theorem four5_a (base b : Nat) (w : World) (S : St)   (t0 : S.p ≤ 64) (hl : S.ops.length ≤ 800) (hA : PAt base w b S) :
    Calls Tryz.prog 95 #[.pointer (some ⟨b, 0, none⟩)] w fun e w' => e = .returned (.tuple #[]) ∧ PAt base w' b ((S).ask (15) (S.p) (0)) ∧ Kp 50 base b w w' := by
  have cp := hA.cp
  have hK0 := Kp.refl 50 base b w
  go_enter Tryz.func95, Tryz.ntmps95
  go_wp2_with (go_at_call 63; refine (pask base b _ (S) _ _ _ hA (by first | omega | (simp only [St.ops_ask, St.ops_put, St.ops_whole, St.ops_halves, St.ops_low, St.ops_keep, List.length_append, List.length_cons, List.length_nil]; omega))).mono ?_; clear hA; rintro e1 w1 ⟨rfl, hA1, hN1⟩; have hK1 := hK0.trans hN1; clear hN1 hK0; have cp1 := hA1.cp)
  go_end0
  exact ⟨rfl, hA1, hK1⟩
set_option maxRecDepth 100000 in
set_option maxHeartbeats 400000 in
theorem four5_b (base b : Nat) (w : World) (S : St)   (t0 : 64 < S.p) (hl : S.ops.length ≤ 800) (hA : PAt base w b S) :
    Calls Tryz.prog 95 #[.pointer (some ⟨b, 0, none⟩)] w fun e w' => e = .returned (.tuple #[]) ∧ PAt base w' b ((S).ask (15) (64) (0)) ∧ Kp 50 base b w w' := by
  have cp := hA.cp
  have hK0 := Kp.refl 50 base b w
  go_enter Tryz.func95, Tryz.ntmps95
  go_wp2_with (go_at_call 63; refine (pask base b _ (S) _ _ _ hA (by first | omega | (simp only [St.ops_ask, St.ops_put, St.ops_whole, St.ops_halves, St.ops_low, St.ops_keep, List.length_append, List.length_cons, List.length_nil]; omega))).mono ?_; clear hA; rintro e1 w1 ⟨rfl, hA1, hN1⟩; have hK1 := hK0.trans hN1; clear hN1 hK0; have cp1 := hA1.cp)
  go_end0
  exact ⟨rfl, hA1, hK1⟩
set_option maxRecDepth 100000 in
set_option maxHeartbeats 400000 in
theorem glissando_a (base b : Nat) (w : World) (S : St)   (t0 : S.l ≤ 1) (hl : S.ops.length ≤ 800) (hA : PAt base w b S) :
    Calls Tryz.prog 101 #[.pointer (some ⟨b, 0, none⟩)] w fun e w' => e = .returned (.tuple #[]) ∧ PAt base w' b ((S).ask (24) (S.l) (0)) ∧ Kp 50 base b w w' := by
  have cl := hA.cl
  simp only [Nat.reduceAdd] at cl
  have hK0 := Kp.refl 50 base b w
  go_enter Tryz.func101, Tryz.ntmps101
  go_wp2_with (go_at_call 63; refine (pask base b _ (S) _ _ _ hA (by first | omega | (simp only [St.ops_ask, St.ops_put, St.ops_whole, St.ops_halves, St.ops_low, St.ops_keep, List.length_append, List.length_cons, List.length_nil]; omega))).mono ?_; clear hA; rintro e1 w1 ⟨rfl, hA1, hN1⟩; have hK1 := hK0.trans hN1; clear hN1 hK0; have cl1 := hA1.cl; simp only [Nat.reduceAdd] at cl1)
  go_end0
  exact ⟨rfl, hA1, hK1⟩
set_option maxRecDepth 100000 in
set_option maxHeartbeats 400000 in
theorem glissando_b (base b : Nat) (w : World) (S : St)   (t0 : 1 < S.l) (hl : S.ops.length ≤ 800) (hA : PAt base w b S) :
    Calls Tryz.prog 101 #[.pointer (some ⟨b, 0, none⟩)] w fun e w' => e = .returned (.tuple #[]) ∧ PAt base w' b ((S).ask (24) (1) (0)) ∧ Kp 50 base b w w' := by
  have cl := hA.cl
  simp only [Nat.reduceAdd] at cl
  have hK0 := Kp.refl 50 base b w
  go_enter Tryz.func101, Tryz.ntmps101
  go_wp2_with (go_at_call 63; refine (pask base b _ (S) _ _ _ hA (by first | omega | (simp only [St.ops_ask, St.ops_put, St.ops_whole, St.ops_halves, St.ops_low, St.ops_keep, List.length_append, List.length_cons, List.length_nil]; omega))).mono ?_; clear hA; rintro e1 w1 ⟨rfl, hA1, hN1⟩; have hK1 := hK0.trans hN1; clear hN1 hK0; have cl1 := hA1.cl; simp only [Nat.reduceAdd] at cl1)
  go_end0
  exact ⟨rfl, hA1, hK1⟩
set_option maxRecDepth 100000 in
set_option maxHeartbeats 400000 in
theorem decimal (base b : Nat) (w : World) (S : St)    (hl : S.ops.length ≤ 800) (hA : PAt base w b S) :
    Calls Tryz.prog 96 #[.pointer (some ⟨b, 0, none⟩)] w fun e w' => e = .returned (.tuple #[]) ∧ PAt base w' b ((S).ask (33) (wrap64 (wrap64 (10 * S.h) + S.l)) (0)) ∧ Kp 50 base b w w' := by
  have ch := hA.ch
  simp only [Nat.reduceAdd] at ch
  have cl := hA.cl
  simp only [Nat.reduceAdd] at cl
  have hK0 := Kp.refl 50 base b w
  go_enter Tryz.func96, Tryz.ntmps96
  go_still_tail 11, (by kernel_rfl)
  change wpList _ _ _ _ _ w.drew
  have hA1 := hA.drew
  have hK1 := hK0.drew
  clear hA hK0
  generalize w.drew = w1 at hA1 hK1 ⊢
  have ch1 := hA1.ch
  simp only [Nat.reduceAdd] at ch1
  have cl1 := hA1.cl
  simp only [Nat.reduceAdd] at cl1
  go_wp2_with (go_at_call 63; refine (pask base b _ (S) _ _ _ hA1 (by first | omega | (simp only [St.ops_ask, St.ops_put, St.ops_whole, St.ops_halves, St.ops_low, St.ops_keep, List.length_append, List.length_cons, List.length_nil]; omega))).mono ?_; clear hA1; rintro e2 w2 ⟨rfl, hA2, hN2⟩; have hK2 := hK1.trans hN2; clear hN2 hK1; have ch2 := hA2.ch; simp only [Nat.reduceAdd] at ch2; have cl2 := hA2.cl; simp only [Nat.reduceAdd] at cl2)
  go_end0
  exact ⟨rfl, hA2, hK2⟩
set_option maxRecDepth 100000 in
set_option maxHeartbeats 400000 in
theorem speedOrTempo_a (base b : Nat) (w : World) (S : St)   (t0 : S.p < 32) (hl : S.ops.length ≤ 800) (hA : PAt base w b S) :
    Calls Tryz.prog 99 #[.pointer (some ⟨b, 0, none⟩)] w fun e w' => e = .returned (.tuple #[]) ∧ PAt base w' b ((S).ask (36) (S.p) (0)) ∧ Kp 50 base b w w' := by
  have cp := hA.cp
  have hK0 := Kp.refl 50 base b w
  go_enter Tryz.func99, Tryz.ntmps99
  go_wp2_with (go_at_call 63; refine (pask base b _ (S) _ _ _ hA (by first | omega | (simp only [St.ops_ask, St.ops_put, St.ops_whole, St.ops_halves, St.ops_low, St.ops_keep, List.length_append, List.length_cons, List.length_nil]; omega))).mono ?_; clear hA; rintro e1 w1 ⟨rfl, hA1, hN1⟩; have hK1 := hK0.trans hN1; clear hN1 hK0; have cp1 := hA1.cp)
  go_end0
  exact ⟨rfl, hA1, hK1⟩
set_option maxRecDepth 100000 in
set_option maxHeartbeats 400000 in
theorem speedOrTempo_b (base b : Nat) (w : World) (S : St)   (t0 : 32 ≤ S.p) (hl : S.ops.length ≤ 800) (hA : PAt base w b S) :
    Calls Tryz.prog 99 #[.pointer (some ⟨b, 0, none⟩)] w fun e w' => e = .returned (.tuple #[]) ∧ PAt base w' b ((S).ask (37) (S.p) (0)) ∧ Kp 50 base b w w' := by
  have cp := hA.cp
  have hK0 := Kp.refl 50 base b w
  go_enter Tryz.func99, Tryz.ntmps99
  go_wp2_with (go_at_call 63; refine (pask base b _ (S) _ _ _ hA (by first | omega | (simp only [St.ops_ask, St.ops_put, St.ops_whole, St.ops_halves, St.ops_low, St.ops_keep, List.length_append, List.length_cons, List.length_nil]; omega))).mono ?_; clear hA; rintro e1 w1 ⟨rfl, hA1, hN1⟩; have hK1 := hK0.trans hN1; clear hN1 hK0; have cp1 := hA1.cp)
  go_end0
  exact ⟨rfl, hA1, hK1⟩
set_option maxRecDepth 100000 in
set_option maxHeartbeats 400000 in
theorem scream1 (base b : Nat) (w : World) (S : St)    (hl : S.ops.length ≤ 800) (hA : PAt base w b S) :
    Calls Tryz.prog 102 #[.pointer (some ⟨b, 0, none⟩)] w fun e w' => e = .returned (.tuple #[]) ∧ PAt base w' b ((S).ask (27) (wrap64 (8 * wrap64 (S.l - 8))) (0)) ∧ Kp 50 base b w w' := by
  have cl := hA.cl
  simp only [Nat.reduceAdd] at cl
  have hK0 := Kp.refl 50 base b w
  go_enter Tryz.func102, Tryz.ntmps102
  go_wp2_with (go_at_call 63; refine (pask base b _ (S) _ _ _ hA (by first | omega | (simp only [St.ops_ask, St.ops_put, St.ops_whole, St.ops_halves, St.ops_low, St.ops_keep, List.length_append, List.length_cons, List.length_nil]; omega))).mono ?_; clear hA; rintro e1 w1 ⟨rfl, hA1, hN1⟩; have hK1 := hK0.trans hN1; clear hN1 hK0; have cl1 := hA1.cl; simp only [Nat.reduceAdd] at cl1)
  go_end0
  exact ⟨rfl, hA1, hK1⟩
set_option maxRecDepth 100000 in
set_option maxHeartbeats 400000 in
theorem down (base b : Nat) (w : World) (S : St)    (hl : S.ops.length ≤ 800) (hA : PAt base w b S) :
    Calls Tryz.prog 106 #[.pointer (some ⟨b, 0, none⟩)] w fun e w' => e = .returned (.tuple #[]) ∧ PAt base w' b ((S).bend (5) (7) (3)) ∧ Kp 50 base b w w' := by
  have hK0 := Kp.refl 50 base b w
  go_enter Tryz.func106, Tryz.ntmps106
  go_wp2_with (go_at_call 137; refine (pbend base b _ (S) _ _ _ (by first | omega | (simp only [St.ops_ask, St.ops_put, St.ops_whole, St.ops_halves, St.ops_low, St.ops_keep, List.length_append, List.length_cons, List.length_nil]; omega)) hA).mono ?_; clear hA; rintro e1 w1 ⟨rfl, hA1, hN1⟩; have hK1 := hK0.trans hN1; clear hN1 hK0)
  go_end0
  exact ⟨rfl, hA1, hK1⟩
set_option maxRecDepth 100000 in
set_option maxHeartbeats 400000 in
theorem up (base b : Nat) (w : World) (S : St)    (hl : S.ops.length ≤ 800) (hA : PAt base w b S) :
    Calls Tryz.prog 107 #[.pointer (some ⟨b, 0, none⟩)] w fun e w' => e = .returned (.tuple #[]) ∧ PAt base w' b ((S).bend (4) (6) (2)) ∧ Kp 50 base b w w' := by
  have hK0 := Kp.refl 50 base b w
  go_enter Tryz.func107, Tryz.ntmps107
  go_wp2_with (go_at_call 137; refine (pbend base b _ (S) _ _ _ (by first | omega | (simp only [St.ops_ask, St.ops_put, St.ops_whole, St.ops_halves, St.ops_low, St.ops_keep, List.length_append, List.length_cons, List.length_nil]; omega)) hA).mono ?_; clear hA; rintro e1 w1 ⟨rfl, hA1, hN1⟩; have hK1 := hK0.trans hN1; clear hN1 hK0)
  go_end0
  exact ⟨rfl, hA1, hK1⟩
set_option maxRecDepth 100000 in
set_option maxHeartbeats 400000 in
theorem tremor (base b : Nat) (w : World) (S : St)    (hl : S.ops.length ≤ 800) (hA : PAt base w b S) :
    Calls Tryz.prog 108 #[.pointer (some ⟨b, 0, none⟩)] w fun e w' => e = .returned (.tuple #[]) ∧ PAt base w' b ((S).ask (20) (wrap64 (S.h + 1)) (wrap64 (S.l + 1))) ∧ Kp 50 base b w w' := by
  have ch := hA.ch
  simp only [Nat.reduceAdd] at ch
  have cl := hA.cl
  simp only [Nat.reduceAdd] at cl
  have hK0 := Kp.refl 50 base b w
  go_enter Tryz.func108, Tryz.ntmps108
  go_still_tail 11, (by kernel_rfl)
  change wpList _ _ _ _ _ w.drew
  have hA1 := hA.drew
  have hK1 := hK0.drew
  clear hA hK0
  generalize w.drew = w1 at hA1 hK1 ⊢
  have ch1 := hA1.ch
  simp only [Nat.reduceAdd] at ch1
  have cl1 := hA1.cl
  simp only [Nat.reduceAdd] at cl1
  go_wp2_with (go_at_call 63; refine (pask base b _ (S) _ _ _ hA1 (by first | omega | (simp only [St.ops_ask, St.ops_put, St.ops_whole, St.ops_halves, St.ops_low, St.ops_keep, List.length_append, List.length_cons, List.length_nil]; omega))).mono ?_; clear hA1; rintro e2 w2 ⟨rfl, hA2, hN2⟩; have hK2 := hK1.trans hN2; clear hN2 hK1; have ch2 := hA2.ch; simp only [Nat.reduceAdd] at ch2; have cl2 := hA2.cl; simp only [Nat.reduceAdd] at cl2)
  go_end0
  exact ⟨rfl, hA2, hK2⟩
set_option maxRecDepth 100000 in
set_option maxHeartbeats 400000 in
theorem vibratoSlide (base b : Nat) (w : World) (S : St)    (hl : S.ops.length ≤ 800) (hA : PAt base w b S) :
    Calls Tryz.prog 109 #[.pointer (some ⟨b, 0, none⟩)] w fun e w' => e = .returned (.tuple #[]) ∧ PAt base w' b (((S).ask 9 (wrap64 (((S).slot 3).tdiv 16)) (((S).slot 3).tmod 16)).slide) ∧ Kp 50 base b w w' := by
  have hK0 := Kp.refl 50 base b w
  go_enter Tryz.func109, Tryz.ntmps109
  go_wp2_with (go_at_call 91; refine (recalled base b _ (S) _ (by decide) (by decide) (by first | omega | (simp only [St.ops_ask, St.ops_put, St.ops_whole, St.ops_halves, St.ops_low, St.ops_keep, List.length_append, List.length_cons, List.length_nil]; omega)) hA).mono ?_; clear hA; rintro e1 w1 ⟨rfl, hA1, hN1⟩; have hK1 := hK0.trans hN1; clear hN1 hK0)
  go_wp2_with (go_at_call 105; refine (pslide base b _ ((S).ask 9 (wrap64 (((S).slot 3).tdiv 16)) (((S).slot 3).tmod 16)) (by first | omega | (simp only [St.ops_ask, St.ops_put, St.ops_whole, St.ops_halves, St.ops_low, St.ops_keep, List.length_append, List.length_cons, List.length_nil]; omega)) hA1).mono ?_; clear hA1; rintro e2 w2 ⟨rfl, hA2, hN2⟩; have hK2 := hK1.trans hN2; clear hN2 hK1)
  go_end0
  exact ⟨rfl, hA2, hK2⟩
set_option maxRecDepth 100000 in
set_option maxHeartbeats 400000 in
theorem toneSlide (base b : Nat) (w : World) (S : St)    (hl : S.ops.length ≤ 800) (hA : PAt base w b S) :
    Calls Tryz.prog 110 #[.pointer (some ⟨b, 0, none⟩)] w fun e w' => e = .returned (.tuple #[]) ∧ PAt base w' b (((S).ask (8) (S.slot 2) (0)).slide) ∧ Kp 50 base b w w' := by
  have hK0 := Kp.refl 50 base b w
  go_enter Tryz.func110, Tryz.ntmps110
  go_wp2_with (first | (go_at_call 77; refine (pslot base b _ (S) _ (by first | assumption | decide) (by first | assumption | decide) hA).mono ?_; clear hA; rintro e1 w1 ⟨rfl, hA1, hN1⟩; have hK1 := hK0.trans hN1; clear hN1 hK0) | (go_at_call 63; refine (pask base b _ (S) _ _ _ hA1 (by first | omega | (simp only [St.ops_ask, St.ops_put, St.ops_whole, St.ops_halves, St.ops_low, St.ops_keep, List.length_append, List.length_cons, List.length_nil]; omega))).mono ?_; clear hA1; rintro e2 w2 ⟨rfl, hA2, hN2⟩; have hK2 := hK1.trans hN2; clear hN2 hK1))
  go_wp2_with (go_at_call 105; refine (pslide base b _ ((S).ask (8) (S.slot 2) (0)) (by first | omega | (simp only [St.ops_ask, St.ops_put, St.ops_whole, St.ops_halves, St.ops_low, St.ops_keep, List.length_append, List.length_cons, List.length_nil]; omega)) hA2).mono ?_; clear hA2; rintro e3 w3 ⟨rfl, hA3, hN3⟩; have hK3 := hK2.trans hN3; clear hN3 hK2)
  go_end0
  exact ⟨rfl, hA3, hK3⟩
set_option maxRecDepth 100000 in
set_option maxHeartbeats 400000 in
theorem scream3_a (base b : Nat) (w : World) (S : St)   (t0 : 32 ≤ S.p) (hl : S.ops.length ≤ 800) (hA : PAt base w b S) :
    Calls Tryz.prog 113 #[.pointer (some ⟨b, 0, none⟩)] w fun e w' => e = .returned (.tuple #[]) ∧ PAt base w' b ((S).ask (37) (S.p) (0)) ∧ Kp 50 base b w w' := by
  have cp := hA.cp
  have hK0 := Kp.refl 50 base b w
  go_enter Tryz.func113, Tryz.ntmps113
  go_wp2_with (go_at_call 63; refine (pask base b _ (S) _ _ _ hA (by first | omega | (simp only [St.ops_ask, St.ops_put, St.ops_whole, St.ops_halves, St.ops_low, St.ops_keep, List.length_append, List.length_cons, List.length_nil]; omega))).mono ?_; clear hA; rintro e1 w1 ⟨rfl, hA1, hN1⟩; have hK1 := hK0.trans hN1; clear hN1 hK0; have cp1 := hA1.cp)
  go_end0
  exact ⟨rfl, hA1, hK1⟩
set_option maxRecDepth 100000 in
set_option maxHeartbeats 400000 in
theorem scream3_b (base b : Nat) (w : World) (S : St) (t0 : S.p < 32) (hA : PAt base w b S) :
    Calls Tryz.prog 113 #[.pointer (some ⟨b, 0, none⟩)] w fun e w' => e = .returned (.tuple #[]) ∧ PAt base w' b (S) ∧ Kp 50 base b w w' := by
  have cp := hA.cp
  go_enter Tryz.func113, Tryz.ntmps113
  go_wp2
  go_end0
  exact ⟨rfl, hA, Kp.refl _ _ _ _⟩
set_option maxRecDepth 100000 in
set_option maxHeartbeats 400000 in
theorem tempo_a (base b : Nat) (w : World) (S : St)   (t0 : S.p < 16) (hl : S.ops.length ≤ 800) (hA : PAt base w b S) :
    Calls Tryz.prog 123 #[.pointer (some ⟨b, 0, none⟩)] w fun e w' => e = .returned (.tuple #[]) ∧ PAt base w' b ((S).ask (38) (wrap64 (-S.l)) (0)) ∧ Kp 50 base b w w' := by
  have cp := hA.cp
  have cl := hA.cl
  simp only [Nat.reduceAdd] at cl
  have hK0 := Kp.refl 50 base b w
  go_enter Tryz.func123, Tryz.ntmps123
  go_wp2_with (go_at_call 63; refine (pask base b _ (S) _ _ _ hA (by first | omega | (simp only [St.ops_ask, St.ops_put, St.ops_whole, St.ops_halves, St.ops_low, St.ops_keep, List.length_append, List.length_cons, List.length_nil]; omega))).mono ?_; clear hA; rintro e1 w1 ⟨rfl, hA1, hN1⟩; have hK1 := hK0.trans hN1; clear hN1 hK0; have cp1 := hA1.cp; have cl1 := hA1.cl; simp only [Nat.reduceAdd] at cl1)
  go_end0
  exact ⟨rfl, hA1, hK1⟩
set_option maxRecDepth 100000 in
set_option maxHeartbeats 400000 in
theorem tempo_b (base b : Nat) (w : World) (S : St)   (t0 : 16 ≤ S.p) (t1 : S.p < 32) (hl : S.ops.length ≤ 800) (hA : PAt base w b S) :
    Calls Tryz.prog 123 #[.pointer (some ⟨b, 0, none⟩)] w fun e w' => e = .returned (.tuple #[]) ∧ PAt base w' b ((S).ask (38) (S.l) (0)) ∧ Kp 50 base b w w' := by
  have cp := hA.cp
  have cl := hA.cl
  simp only [Nat.reduceAdd] at cl
  have hK0 := Kp.refl 50 base b w
  go_enter Tryz.func123, Tryz.ntmps123
  go_wp2_with (go_at_call 63; refine (pask base b _ (S) _ _ _ hA (by first | omega | (simp only [St.ops_ask, St.ops_put, St.ops_whole, St.ops_halves, St.ops_low, St.ops_keep, List.length_append, List.length_cons, List.length_nil]; omega))).mono ?_; clear hA; rintro e1 w1 ⟨rfl, hA1, hN1⟩; have hK1 := hK0.trans hN1; clear hN1 hK0; have cp1 := hA1.cp; have cl1 := hA1.cl; simp only [Nat.reduceAdd] at cl1)
  go_end0
  exact ⟨rfl, hA1, hK1⟩
set_option maxRecDepth 100000 in
set_option maxHeartbeats 400000 in
theorem tempo_c (base b : Nat) (w : World) (S : St)   (t0 : 32 ≤ S.p) (hl : S.ops.length ≤ 800) (hA : PAt base w b S) :
    Calls Tryz.prog 123 #[.pointer (some ⟨b, 0, none⟩)] w fun e w' => e = .returned (.tuple #[]) ∧ PAt base w' b ((S).ask (37) (S.p) (0)) ∧ Kp 50 base b w w' := by
  have cp := hA.cp
  have cl := hA.cl
  simp only [Nat.reduceAdd] at cl
  have hK0 := Kp.refl 50 base b w
  go_enter Tryz.func123, Tryz.ntmps123
  go_wp2_with (go_at_call 63; refine (pask base b _ (S) _ _ _ hA (by first | omega | (simp only [St.ops_ask, St.ops_put, St.ops_whole, St.ops_halves, St.ops_low, St.ops_keep, List.length_append, List.length_cons, List.length_nil]; omega))).mono ?_; clear hA; rintro e1 w1 ⟨rfl, hA1, hN1⟩; have hK1 := hK0.trans hN1; clear hN1 hK0; have cp1 := hA1.cp; have cl1 := hA1.cl; simp only [Nat.reduceAdd] at cl1)
  go_end0
  exact ⟨rfl, hA1, hK1⟩
set_option maxRecDepth 100000 in
set_option maxHeartbeats 400000 in
theorem filter_a (base b : Nat) (w : World) (S : St)   (t0 : S.p < 128) (hl : S.ops.length ≤ 800) (hA : PAt base w b S) :
    Calls Tryz.prog 125 #[.pointer (some ⟨b, 0, none⟩)] w fun e w' => e = .returned (.tuple #[]) ∧ PAt base w' b ((S).ask (42) (S.p) (0)) ∧ Kp 50 base b w w' := by
  have cp := hA.cp
  have hK0 := Kp.refl 50 base b w
  go_enter Tryz.func125, Tryz.ntmps125
  go_wp2_with (go_at_call 63; refine (pask base b _ (S) _ _ _ hA (by first | omega | (simp only [St.ops_ask, St.ops_put, St.ops_whole, St.ops_halves, St.ops_low, St.ops_keep, List.length_append, List.length_cons, List.length_nil]; omega))).mono ?_; clear hA; rintro e1 w1 ⟨rfl, hA1, hN1⟩; have hK1 := hK0.trans hN1; clear hN1 hK0; have cp1 := hA1.cp)
  go_end0
  exact ⟨rfl, hA1, hK1⟩
set_option maxRecDepth 100000 in
set_option maxHeartbeats 400000 in
theorem filter_b (base b : Nat) (w : World) (S : St)   (t0 : 128 ≤ S.p) (t1 : S.p < 144) (hl : S.ops.length ≤ 800) (hA : PAt base w b S) :
    Calls Tryz.prog 125 #[.pointer (some ⟨b, 0, none⟩)] w fun e w' => e = .returned (.tuple #[]) ∧ PAt base w' b ((S).ask (43) (8 * (S.p - 128)) (0)) ∧ Kp 50 base b w w' := by
  have cp := hA.cp
  have hK0 := Kp.refl 50 base b w
  go_enter Tryz.func125, Tryz.ntmps125
  go_wp2_with (go_at_call 63; refine (pask base b _ (S) _ _ _ hA (by first | omega | (simp only [St.ops_ask, St.ops_put, St.ops_whole, St.ops_halves, St.ops_low, St.ops_keep, List.length_append, List.length_cons, List.length_nil]; omega))).mono ?_; clear hA; rintro e1 w1 ⟨rfl, hA1, hN1⟩; have hK1 := hK0.trans hN1; clear hN1 hK0; have cp1 := hA1.cp)
  go_end0
  exact ⟨rfl, hA1, hK1⟩
set_option maxRecDepth 100000 in
set_option maxHeartbeats 400000 in
theorem noise (base b : Nat) (w : World) (S : St)    (hl : S.ops.length ≤ 800) (hA : PAt base w b S) :
    Calls Tryz.prog 127 #[.pointer (some ⟨b, 0, none⟩)] w fun e w' => e = .returned (.tuple #[]) ∧ PAt base w' b ((S).ask (47) (S.p.tmod 32) (0)) ∧ Kp 50 base b w w' := by
  have cp := hA.cp
  have hK0 := Kp.refl 50 base b w
  go_enter Tryz.func127, Tryz.ntmps127
  go_wp2_with (go_at_call 63; refine (pask base b _ (S) _ _ _ hA (by first | omega | (simp only [St.ops_ask, St.ops_put, St.ops_whole, St.ops_halves, St.ops_low, St.ops_keep, List.length_append, List.length_cons, List.length_nil]; omega))).mono ?_; clear hA; rintro e1 w1 ⟨rfl, hA1, hN1⟩; have hK1 := hK0.trans hN1; clear hN1 hK0; have cp1 := hA1.cp)
  go_end0
  exact ⟨rfl, hA1, hK1⟩
set_option maxRecDepth 100000 in
set_option maxHeartbeats 400000 in
theorem shape (base b : Nat) (w : World) (S : St)    (hl : S.ops.length ≤ 800) (hA : PAt base w b S) :
    Calls Tryz.prog 128 #[.pointer (some ⟨b, 0, none⟩)] w fun e w' => e = .returned (.tuple #[]) ∧ PAt base w' b ((S).ask (48) (S.p.tmod 16) (0)) ∧ Kp 50 base b w w' := by
  have cp := hA.cp
  have hK0 := Kp.refl 50 base b w
  go_enter Tryz.func128, Tryz.ntmps128
  go_wp2_with (go_at_call 63; refine (pask base b _ (S) _ _ _ hA (by first | omega | (simp only [St.ops_ask, St.ops_put, St.ops_whole, St.ops_halves, St.ops_low, St.ops_keep, List.length_append, List.length_cons, List.length_nil]; omega))).mono ?_; clear hA; rintro e1 w1 ⟨rfl, hA1, hN1⟩; have hK1 := hK0.trans hN1; clear hN1 hK0; have cp1 := hA1.cp)
  go_end0
  exact ⟨rfl, hA1, hK1⟩
set_option maxRecDepth 100000 in
set_option maxHeartbeats 400000 in
theorem fine_a (base b : Nat) (w : World) (S : St)   (t0 : 8 ≤ S.l) (hl : S.ops.length ≤ 800) (hA : PAt base w b S) :
    Calls Tryz.prog 135 #[.pointer (some ⟨b, 0, none⟩)] w fun e w' => e = .returned (.tuple #[]) ∧ PAt base w' b ((S).ask (27) (wrap64 (8 * wrap64 (S.l - 16))) (0)) ∧ Kp 50 base b w w' := by
  have cl := hA.cl
  simp only [Nat.reduceAdd] at cl
  have hK0 := Kp.refl 50 base b w
  go_enter Tryz.func135, Tryz.ntmps135
  go_wp2_with (go_at_call 63; refine (pask base b _ (S) _ _ _ hA (by first | omega | (simp only [St.ops_ask, St.ops_put, St.ops_whole, St.ops_halves, St.ops_low, St.ops_keep, List.length_append, List.length_cons, List.length_nil]; omega))).mono ?_; clear hA; rintro e1 w1 ⟨rfl, hA1, hN1⟩; have hK1 := hK0.trans hN1; clear hN1 hK0; have cl1 := hA1.cl; simp only [Nat.reduceAdd] at cl1)
  go_end0
  exact ⟨rfl, hA1, hK1⟩
set_option maxRecDepth 100000 in
set_option maxHeartbeats 400000 in
theorem fine_b (base b : Nat) (w : World) (S : St)   (t0 : S.l < 8) (hl : S.ops.length ≤ 800) (hA : PAt base w b S) :
    Calls Tryz.prog 135 #[.pointer (some ⟨b, 0, none⟩)] w fun e w' => e = .returned (.tuple #[]) ∧ PAt base w' b ((S).ask (27) (wrap64 (8 * S.l)) (0)) ∧ Kp 50 base b w w' := by
  have cl := hA.cl
  simp only [Nat.reduceAdd] at cl
  have hK0 := Kp.refl 50 base b w
  go_enter Tryz.func135, Tryz.ntmps135
  go_wp2_with (go_at_call 63; refine (pask base b _ (S) _ _ _ hA (by first | omega | (simp only [St.ops_ask, St.ops_put, St.ops_whole, St.ops_halves, St.ops_low, St.ops_keep, List.length_append, List.length_cons, List.length_nil]; omega))).mono ?_; clear hA; rintro e1 w1 ⟨rfl, hA1, hN1⟩; have hK1 := hK0.trans hN1; clear hN1 hK0; have cl1 := hA1.cl; simp only [Nat.reduceAdd] at cl1)
  go_end0
  exact ⟨rfl, hA1, hK1⟩
set_option maxRecDepth 100000 in
set_option maxHeartbeats 400000 in
theorem past_a (base b : Nat) (w : World) (S : St)   (t0 : S.l ≤ 2) (hl : S.ops.length ≤ 800) (hA : PAt base w b S) :
    Calls Tryz.prog 140 #[.pointer (some ⟨b, 0, none⟩)] w fun e w' => e = .returned (.tuple #[]) ∧ PAt base w' b ((S).ask (41) (S.l) (0)) ∧ Kp 50 base b w w' := by
  have cl := hA.cl
  simp only [Nat.reduceAdd] at cl
  have hK0 := Kp.refl 50 base b w
  go_enter Tryz.func140, Tryz.ntmps140
  go_wp2_with (go_at_call 63; refine (pask base b _ (S) _ _ _ hA (by first | omega | (simp only [St.ops_ask, St.ops_put, St.ops_whole, St.ops_halves, St.ops_low, St.ops_keep, List.length_append, List.length_cons, List.length_nil]; omega))).mono ?_; clear hA; rintro e1 w1 ⟨rfl, hA1, hN1⟩; have hK1 := hK0.trans hN1; clear hN1 hK0; have cl1 := hA1.cl; simp only [Nat.reduceAdd] at cl1)
  go_end0
  exact ⟨rfl, hA1, hK1⟩
set_option maxRecDepth 100000 in
set_option maxHeartbeats 400000 in
theorem past_b (base b : Nat) (w : World) (S : St)   (t0 : 2 < S.l) (t1 : S.l ≤ 6) (hl : S.ops.length ≤ 800) (hA : PAt base w b S) :
    Calls Tryz.prog 140 #[.pointer (some ⟨b, 0, none⟩)] w fun e w' => e = .returned (.tuple #[]) ∧ PAt base w' b ((S).ask (40) (S.l - 3) (0)) ∧ Kp 50 base b w w' := by
  have cl := hA.cl
  simp only [Nat.reduceAdd] at cl
  have hK0 := Kp.refl 50 base b w
  go_enter Tryz.func140, Tryz.ntmps140
  go_wp2_with (go_at_call 63; refine (pask base b _ (S) _ _ _ hA (by first | omega | (simp only [St.ops_ask, St.ops_put, St.ops_whole, St.ops_halves, St.ops_low, St.ops_keep, List.length_append, List.length_cons, List.length_nil]; omega))).mono ?_; clear hA; rintro e1 w1 ⟨rfl, hA1, hN1⟩; have hK1 := hK0.trans hN1; clear hN1 hK0; have cl1 := hA1.cl; simp only [Nat.reduceAdd] at cl1)
  go_end0
  exact ⟨rfl, hA1, hK1⟩
set_option maxRecDepth 100000 in
set_option maxHeartbeats 400000 in
theorem surround_a (base b : Nat) (w : World) (S : St)   (t0 : S.l ≤ 1) (hl : S.ops.length ≤ 800) (hA : PAt base w b S) :
    Calls Tryz.prog 141 #[.pointer (some ⟨b, 0, none⟩)] w fun e w' => e = .returned (.tuple #[]) ∧ PAt base w' b ((S).ask (44) (S.l) (0)) ∧ Kp 50 base b w w' := by
  have cl := hA.cl
  simp only [Nat.reduceAdd] at cl
  have hK0 := Kp.refl 50 base b w
  go_enter Tryz.func141, Tryz.ntmps141
  go_wp2_with (go_at_call 63; refine (pask base b _ (S) _ _ _ hA (by first | omega | (simp only [St.ops_ask, St.ops_put, St.ops_whole, St.ops_halves, St.ops_low, St.ops_keep, List.length_append, List.length_cons, List.length_nil]; omega))).mono ?_; clear hA; rintro e1 w1 ⟨rfl, hA1, hN1⟩; have hK1 := hK0.trans hN1; clear hN1 hK0; have cl1 := hA1.cl; simp only [Nat.reduceAdd] at cl1)
  go_end0
  exact ⟨rfl, hA1, hK1⟩
set_option maxRecDepth 100000 in
set_option maxHeartbeats 400000 in
theorem surround_b (base b : Nat) (w : World) (S : St)   (t0 : 1 < S.l) (t1 : (S.l == 15) = true) (hl : S.ops.length ≤ 800) (hA : PAt base w b S) :
    Calls Tryz.prog 141 #[.pointer (some ⟨b, 0, none⟩)] w fun e w' => e = .returned (.tuple #[]) ∧ PAt base w' b ((S).ask (45) (1) (0)) ∧ Kp 50 base b w w' := by
  have cl := hA.cl
  simp only [Nat.reduceAdd] at cl
  have hK0 := Kp.refl 50 base b w
  go_enter Tryz.func141, Tryz.ntmps141
  go_wp2_with (go_at_call 63; refine (pask base b _ (S) _ _ _ hA (by first | omega | (simp only [St.ops_ask, St.ops_put, St.ops_whole, St.ops_halves, St.ops_low, St.ops_keep, List.length_append, List.length_cons, List.length_nil]; omega))).mono ?_; clear hA; rintro e1 w1 ⟨rfl, hA1, hN1⟩; have hK1 := hK0.trans hN1; clear hN1 hK0; have cl1 := hA1.cl; simp only [Nat.reduceAdd] at cl1)
  go_end0
  exact ⟨rfl, hA1, hK1⟩
set_option maxRecDepth 100000 in
set_option maxHeartbeats 400000 in
theorem filter_c (base b : Nat) (w : World) (S : St) (t0 : 144 ≤ S.p) (hA : PAt base w b S) :
    Calls Tryz.prog 125 #[.pointer (some ⟨b, 0, none⟩)] w fun e w' => e = .returned (.tuple #[]) ∧ PAt base w' b (S) ∧ Kp 50 base b w w' := by
  have cp := hA.cp
  go_enter Tryz.func125, Tryz.ntmps125
  go_wp2
  go_end0
  exact ⟨rfl, hA, Kp.refl _ _ _ _⟩
set_option maxRecDepth 100000 in
set_option maxHeartbeats 400000 in
theorem past_c (base b : Nat) (w : World) (S : St) (t0 : 6 < S.l) (hA : PAt base w b S) :
    Calls Tryz.prog 140 #[.pointer (some ⟨b, 0, none⟩)] w fun e w' => e = .returned (.tuple #[]) ∧ PAt base w' b (S) ∧ Kp 50 base b w w' := by
  have cl := hA.cl
  simp only [Nat.reduceAdd] at cl
  go_enter Tryz.func140, Tryz.ntmps140
  go_wp2
  go_end0
  exact ⟨rfl, hA, Kp.refl _ _ _ _⟩
set_option maxRecDepth 100000 in
set_option maxHeartbeats 400000 in
theorem surround_c (base b : Nat) (w : World) (S : St) (t0 : 1 < S.l) (t1 : (S.l == 15) = false) (hA : PAt base w b S) :
    Calls Tryz.prog 141 #[.pointer (some ⟨b, 0, none⟩)] w fun e w' => e = .returned (.tuple #[]) ∧ PAt base w' b (S) ∧ Kp 50 base b w w' := by
  have cl := hA.cl
  simp only [Nat.reduceAdd] at cl
  go_enter Tryz.func141, Tryz.ntmps141
  go_wp2
  go_end0
  exact ⟨rfl, hA, Kp.refl _ _ _ _⟩

end Go.Proofs.YtappnglfmidjoaaGreat.D
