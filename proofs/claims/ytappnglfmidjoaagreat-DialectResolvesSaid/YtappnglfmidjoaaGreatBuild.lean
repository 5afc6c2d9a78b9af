/- Maps of effects: what the functions that build them give. -/
import Derived.Test.YtappnglfmidjoaaGreatMakers
set_option linter.unusedVariables false
set_option linter.unusedSimpArgs false
namespace Go.Proofs.YtappnglfmidjoaaGreat.D
open Go Go.RowKit
open Go.Proofs.YtappnglfmidjoaaGreat.DB
theorem zeroEff (w : World) : (zeroValue 77).run Tryz.prog w = .ok .nilFunc w := by kernel_rfl
theorem neq_func (fid : Nat) (cap : Array Value) (w : World) : (binOp .neq 77 (.func (.func fid) #[] cap) .nilFunc).run Tryz.prog w = .ok (.bool true) w := by rfl
theorem neq_nil (w : World) : (binOp .neq 77 .nilFunc .nilFunc).run Tryz.prog w = .ok (.bool false) w := by rfl
/-- Block r is a map of effects. -/
abbrev MapE (κ : IntKind) (X : Nat → Prop) (base b : Nat) (w : World) (r : Nat) (M : Int → Option (St → St)) : Prop := MapG κ (fun v E => Eff X base b w v E) w r M
theorem MapE.kpx {κ : IntKind} {X : Nat → Prop} {base b r : Nat} {w w1 : World} {M : Int → Option (St → St)} (h : MapE κ X base b w r M) (hr : r ≠ b) (hx : ¬ X r) (hK : KpX X base b w w1) : MapE κ X base b w1 r M := by
  refine h.imp (hK.block r h.lt hr hx (.inr ?_)) (fun v y hv => hv.kpx hK)
  rintro ⟨cs, fr, hc⟩
  obtain ⟨es, c, h1, _⟩ := h
  rw [hc] at h1
  cases h1
theorem MapE.below {κ : IntKind} {X : Nat → Prop} {base b r : Nat} {w w1 : World} {M : Int → Option (St → St)} (h : MapE κ X base b w r M) (hb : Below w.heap.size w w1) : MapE κ X base b w1 r M :=
  h.imp (hb.block r h.lt) (fun v y hv => hv.below hb)
theorem MapE.mono {κ : IntKind} {X X' : Nat → Prop} {base b r : Nat} {w : World} {M : Int → Option (St → St)} (h : MapE κ X base b w r M) (hX : ∀ i, X' i → X i) : MapE κ X' base b w r M :=
  h.imp rfl (fun v y hv => hv.mono hX)
theorem grown_kpx {X : Nat → Prop} {base b r : Nat} {w w1 : World} (hg : w.grownBy w1 (some r)) (hx : X r) : KpX X base b w w1 :=
  ⟨hg.size, fun i hi _ hxi _ => hg.block i hi (fun e => hxi (by cases e; exact hx))⟩
set_option maxRecDepth 100000 in
set_option maxHeartbeats 400000 in
theorem byHigh1 (base b : Nat) (w : World) (S : St) (n r : Nat) (X : Nat → Prop) (M : Int → Option (St → St)) (bx : Box 50 w b n (.map (some r))) (hM : MapE .i64 X base b w r M) (hl : S.ops.length ≤ 800) (hA : PAt base w b S) :
    Calls Tryz.prog 134 #[.pointer (some ⟨b, 0, none⟩), .pointer (some ⟨n, 0, none⟩)] w fun e w' => e = .returned (.tuple #[]) ∧ PAt base w' b (St.fByHigh M S) ∧ Kp 50 base b w w' := by
  have ch := hA.ch
  simp only [Nat.reduceAdd] at ch
  have cb := bx.cell
  have hA1 := hA.drew
  have hK1 := (Kp.refl 50 base b w).drew
  have hM1 : MapE .i64 X base b w.drew r M := hM.imp rfl (fun v y hv => hv.kpx (kp_x hK1 X))
  go_enter Tryz.func134, Tryz.ntmps134
  go_wp2
  go_still_tail 5, (by kernel_rfl)
  change wpList _ _ _ _ _ w.drew
  generalize w.drew = w1 at hA1 hK1 hM1 ⊢
  refine wpList_lookupG rfl _ _ 87 rfl 3 77 Tryz.underlying87 Tryz.underlying3 .nilFunc zeroEff rfl hM1 S.h rfl ?_
  rintro v (⟨hn, rfl⟩ | ⟨E, hE, hv⟩)
  · have hfin : S = St.fByHigh M S := by simp [St.fByHigh, hn]
    have HF := Lib.hid hfin
    clear hn hfin hM hM1
    have hq := neq_nil
    go_wp2
    go_end0
    exact ⟨rfl, hA1.eq HF.out, hK1⟩
  · have hfin : E S = St.fByHigh M S := by simp [St.fByHigh, hE]
    have HF := Lib.hid hfin
    obtain ⟨fid, cap, rfl, hr, hE'⟩ := hv
    have HE := Lib.hid hE'
    clear hE hE' hfin hM hM1
    have hq := neq_func fid cap
    go_wp2
    refine (HE.out _ _ (KpX.refl _ _ _ _) hA1 hl).mono ?_
    rintro e w2 ⟨rfl, hA2, hK2⟩
    go_wp2
    go_end0
    exact ⟨rfl, hA2.eq HF.out, hK1.trans hK2⟩
set_option maxHeartbeats 400000 in
theorem mk_byHigh (X : Nat → Prop) (base b : Nat) (w : World) (hb : b < w.heap.size) (hX : ∀ i, X i → i < w.heap.size) (r : Nat) (hrb : r ≠ b) (hrx : ¬ X r) (M : Int → Option (St → St)) (hM : MapE .i64 X base b w r M) :
    Calls Tryz.prog 97 #[.map (some r)] w (MkEff X base b (St.fByHigh M) w) := by
  go_enter Tryz.func97, Tryz.ntmps97
  go_wp2
  go_ret
  have hbel : Below w.heap.size w (w.alloc (.cells #[.map (some r)] 87)) := ((Below.refl _ _).alloc (Nat.le_refl _) _)
  refine ⟨_, rfl, ⟨134, _, rfl, run_enter Tryz.func134 (by kernel_rfl) (by kernel_rfl), fun w' S hK hA hl => ?_⟩, hbel⟩
  have b0 := box_kpx (Box.new w b hb (.map (some r)) 87 (by decide)) (fun h => absurd (hX _ h) (Nat.lt_irrefl _)) hK
  exact byHigh1 base b w' S _ r X M b0 ((hM.below hbel).kpx hrb hrx hK) hl hA
/-- X, and block r. -/
abbrev Xr (X : Nat → Prop) (r : Nat) : Nat → Prop := fun i => X i ∨ i = r
/-- Since w0 map r has been built, which w0 hadn't; it holds M. -/
structure Bld (κ : IntKind) (X : Nat → Prop) (base b : Nat) (w0 w : World) (r : Nat) (M : Int → Option (St → St)) : Prop where
  below : Below w0.heap.size w0 w
  map : MapE κ (Xr X r) base b w r M
  fresh : w0.heap.size ≤ r
  hb : b < w0.heap.size
  hX : ∀ i, X i → i < w0.heap.size
section
variable {κ : IntKind} {X : Nat → Prop} {base b : Nat} {w0 w w' : World} {r : Nat} {M : Int → Option (St → St)}
theorem Bld.call (h : Bld κ X base b w0 w r M) (hB : Below w.heap.size w w') : Bld κ X base b w0 w' r M :=
  ⟨h.below.trans (hB.mono h.below.size), h.map.below hB, h.fresh, h.hb, h.hX⟩
theorem Bld.bl (h : Bld κ X base b w0 w r M) : b < w.heap.size := Nat.lt_of_lt_of_le h.hb h.below.size
theorem Bld.x (h : Bld κ X base b w0 w r M) : ∀ i, Xr X r i → i < w.heap.size := by
  rintro i (hi | rfl)
  · exact Nat.lt_of_lt_of_le (h.hX i hi) h.below.size
  · exact h.map.lt
theorem Bld.made (κ : IntKind) (X : Nat → Prop) (base : Nat) (hb : b < w.heap.size) (hX : ∀ i, X i → i < w.heap.size) : Bld κ X base b w (w.alloc (.map #[] 0)) w.heap.size (fun _ => none) :=
  ⟨(Below.refl _ _).alloc (Nat.le_refl _) _, MapG.made _ _ _, Nat.le_refl _, hb, hX⟩
theorem Bld.eq {M' : Int → Option (St → St)} (h : Bld κ X base b w0 w r M) (e : M = M') : Bld κ X base b w0 w r M' := e ▸ h
theorem Bld.grown (h : Bld κ X base b w0 w r M) {M' : Int → Option (St → St)} (hg : w.grownBy w' (some r)) (hM : MapG κ (fun v E => Eff (Xr X r) base b w v E) w' r M') : Bld κ X base b w0 w' r M' :=
  ⟨h.below.grown hg h.below.size (fun k e => by cases e; exact h.fresh), hM.imp rfl (fun v y hv => hv.kpx (grown_kpx hg (.inr rfl))), h.fresh, h.hb, h.hX⟩
variable {P : Program} {ops : Array Oper} {rest : List Oper} {o : Oper} {a : Act} {Q : Exit → Act → World → Prop}
theorem wpList_ins (hg : o.guard = none) (m x v : Operand) (t : TypeId) (hop : o.op = Op.insert t m x v ∨ o.op = Op.mapUpdate t m x v) (K E : TypeId) (ht : P.underlying t = some (.map K E)) (hK : P.underlying K = some (.int κ))
    (hm : a.eval m = .map (some r)) (h : Bld κ X base b w0 w r M) (k : Int) (hx : a.eval x = .int κ k) (val : Value) (hv : a.eval v = val) (y : St → St) (hy : Eff (Xr X r) base b w val y)
    (hnext : ∀ w', Bld κ X base b w0 w' r (mset M k y) → KpX (Xr X r) base b w w' → wpList P ops Q rest (a.put o.dst undef) w') : wpList P ops Q (o :: rest) a w :=
  wpList_insert hg m x v t hop K E ht hK hm h.map k hx val hv y hy (fun w' hM' hg' => hnext w' (h.grown hg' hM') (grown_kpx hg' (.inr rfl)))
theorem wpList_entry (hg : o.guard = none) (m x : Operand) (t : TypeId) (hop : o.op = Op.mapEntry t m x) (K E : TypeId) (ht : P.underlying t = some (.map K E)) (hK : P.underlying K = some (.int κ)) (hz : ∀ w : World, (zeroValue E).run P w = .ok .nilFunc w)
    (hm : a.eval m = .map (some r)) (h : Bld κ X base b w0 w r M) (k : Int) (hx : a.eval x = .int κ k) (hn : M k = none) (val : Value) (y : St → St) (hy : Eff (Xr X r) base b w val y)
    (hnext : ∀ s w1, Hid (∃ w2, (Instr.entryStore t (.map (some r)) (.int .i64 s) val).run P w1 = .ok () w2 ∧ Bld κ X base b w0 w2 r (mset M k y) ∧ KpX (Xr X r) base b w w2) → wpList P ops Q rest (a.put o.dst (.tuple #[.nilFunc, .int .i64 s])) w1) : wpList P ops Q (o :: rest) a w := by
  refine wpList_plain hg fun K' hK' => ?_
  obtain ⟨s, w1, hrun, hg1, hst⟩ := h.map.entry ht hK .nilFunc hz k hn
  obtain ⟨w2, hrun2, hM2, hg2⟩ := hst val y hy
  unfold Oper.wp
  simp [execOp, hop, hm, hx, hrun, Result.andThen]
  exact hK' _ _ (hnext s w1 ⟨w2, hrun2, h.grown hg2 hM2, grown_kpx hg2 (.inr rfl)⟩)
theorem wpList_store (hg : o.guard = none) (m x v : Operand) (t : TypeId) (hop : o.op = Op.entryStore t m x v) {w1 w2 : World} {s : Int} {val : Value} (hrun : (Instr.entryStore t (.map (some r)) (.int .i64 s) val).run P w1 = .ok () w2)
    (hm : a.eval m = .map (some r)) (hx : a.eval x = .int .i64 s) (hv : a.eval v = val) (hnext : wpList P ops Q rest (a.put o.dst undef) w2) : wpList P ops Q (o :: rest) a w1 := by
  refine wpList_plain hg fun K' hK' => ?_
  unfold Oper.wp
  simp [execOp, hop, hm, hx, hv, hrun, Result.andThen]
  exact hK' _ _ hnext
end
/-- What a builder of a map of effects gives. -/
def MkMap (κ : IntKind) (X : Nat → Prop) (base b : Nat) (M : Int → Option (St → St)) (w : World) (e : Ending) (w' : World) : Prop := ∃ r, e = .returned (.map (some r)) ∧ Bld κ X base b w w' r M

def tCompose : Int → Option (St → St) := mset (mset (mset (mset (mset (mset (fun _ => none) 48 (St.fParam 2)) 49 (St.fParam 3)) 50 (St.fParam 8)) 51 (St.fLowHalf 4)) 52 (St.fBoth 9)) 53 (St.fUnless0 (St.fParam 36))
set_option maxRecDepth 100000 in
set_option maxHeartbeats 1000000 in
theorem mk_compose (X : Nat → Prop) (base b : Nat) (w : World) (hb : b < w.heap.size) (hX : ∀ i, X i → i < w.heap.size) :
    Calls Tryz.prog 82 #[] w (MkMap .u8 X base b (tCompose) w) := by
  have hmm := @run_makeMap Tryz.prog
  go_enter Tryz.func82, Tryz.ntmps82
  go_wp2_with fail
  have B := Bld.made .u8 X base hb hX
  generalize w.alloc (.map #[] 0) = w9 at B ⊢
  refine (mk_param (Xr X w.heap.size) base b _ B.bl B.x 2).mono ?_
  rintro _ w8 ⟨v1, rfl, hv1, hB⟩
  replace B := B.call hB; clear hB
  go_wp2_with (refine wpList_ins rfl _ _ _ 51 (Or.inl rfl) 5 77 Tryz.underlying51 Tryz.underlying5 rfl B 48 rfl _ rfl (St.fParam 2) hv1 ?_; clear B; clear hv1; intro w9 B hk9; clear hk9)
  refine (mk_param (Xr X w.heap.size) base b _ B.bl B.x 3).mono ?_
  rintro _ w8 ⟨v2, rfl, hv2, hB⟩
  replace B := B.call hB; clear hB
  go_wp2_with (refine wpList_ins rfl _ _ _ 51 (Or.inl rfl) 5 77 Tryz.underlying51 Tryz.underlying5 rfl B 49 rfl _ rfl (St.fParam 3) hv2 ?_; clear B; clear hv2; intro w9 B hk9; clear hk9)
  refine (mk_param (Xr X w.heap.size) base b _ B.bl B.x 8).mono ?_
  rintro _ w8 ⟨v3, rfl, hv3, hB⟩
  replace B := B.call hB; clear hB
  go_wp2_with (refine wpList_ins rfl _ _ _ 51 (Or.inl rfl) 5 77 Tryz.underlying51 Tryz.underlying5 rfl B 50 rfl _ rfl (St.fParam 8) hv3 ?_; clear B; clear hv3; intro w9 B hk9; clear hk9)
  refine (mk_lowHalf (Xr X w.heap.size) base b _ B.bl B.x 4).mono ?_
  rintro _ w8 ⟨v4, rfl, hv4, hB⟩
  replace B := B.call hB; clear hB
  go_wp2_with (refine wpList_ins rfl _ _ _ 51 (Or.inl rfl) 5 77 Tryz.underlying51 Tryz.underlying5 rfl B 51 rfl _ rfl (St.fLowHalf 4) hv4 ?_; clear B; clear hv4; intro w9 B hk9; clear hk9)
  refine (mk_both (Xr X w.heap.size) base b _ B.bl B.x 9).mono ?_
  rintro _ w8 ⟨v5, rfl, hv5, hB⟩
  replace B := B.call hB; clear hB
  go_wp2_with (refine wpList_ins rfl _ _ _ 51 (Or.inl rfl) 5 77 Tryz.underlying51 Tryz.underlying5 rfl B 52 rfl _ rfl (St.fBoth 9) hv5 ?_; clear B; clear hv5; intro w9 B hk9; clear hk9)
  refine (mk_param (Xr X w.heap.size) base b _ B.bl B.x 36).mono ?_
  rintro _ w8 ⟨v6, rfl, hv6, hB⟩
  replace B := B.call hB; clear hB
  go_wp2_with fail
  refine (mk_unless0 (Xr X w.heap.size) base b _ B.bl B.x _ (St.fParam 36) hv6).mono ?_
  rintro _ w8 ⟨v7, rfl, hv7, hB⟩
  replace B := B.call hB; replace hv6 := hv6.below hB; clear hB
  clear hv6
  go_wp2_with (refine wpList_ins rfl _ _ _ 51 (Or.inl rfl) 5 77 Tryz.underlying51 Tryz.underlying5 rfl B 53 rfl _ rfl (St.fUnless0 (St.fParam 36)) hv7 ?_; clear B; clear hv7; intro w9 B hk9; clear hk9)
  go_ret
  exact ⟨_, rfl, B⟩

end Go.Proofs.YtappnglfmidjoaaGreat.D
