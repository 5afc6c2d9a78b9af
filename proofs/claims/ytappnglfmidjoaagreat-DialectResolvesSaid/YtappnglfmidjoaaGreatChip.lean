/- The effects of chip. -/
import Derived.Test.YtappnglfmidjoaaGreatImpulse
import Derived.Lib.OthersKept
import Derived.Laws.RangeString
set_option linter.unusedVariables false
set_option linter.unusedSimpArgs false
namespace Go.Proofs.YtappnglfmidjoaaGreat.D
open Go Go.RowKit
open Go.Proofs.YtappnglfmidjoaaGreat.DB
def chipS : ByteArray := ⟨#[53, 54, 55, 56, 57, 71, 72, 75, 76, 80, 82, 84, 88]⟩
def chipL : List Int := [53, 54, 55, 56, 57, 71, 72, 75, 76, 80, 82, 84, 88]
theorem chipS_at (n : Nat) (h : n < chipS.size) : chipL[n]? = some ((chipS[n]'h).toNat : Int) ∧ (chipS[n]'h).toNat < 128 := by
  rcases n with _ | _ | _ | _ | _ | _ | _ | _ | _ | _ | _ | _ | _ | n
  all_goals first | (exact ⟨rfl, Nat.le_of_ble_eq_true rfl⟩) | (exact absurd h (by show ¬ (_ < 13); omega))
theorem chipL_at (n : Nat) (c : Int) (h : chipL[n]? = some c) : n < chipS.size ∧ 0 ≤ c ∧ c < 128 := by
  have hn : n < chipL.length := (List.getElem?_eq_some_iff.1 h).1
  have hs : n < chipS.size := hn
  obtain ⟨h1, h2⟩ := chipS_at n hs
  rw [h] at h1
  injection h1 with h1
  exact ⟨hs, by omega, by omega⟩
def delN (n : Nat) (M : Int → Option (St → St)) : Int → Option (St → St) := (chipL.take n).foldl mdel M
theorem delN_step {n : Nat} {c : Int} (h : chipL[n]? = some c) (M : Int → Option (St → St)) : mdel (delN n M) c = delN (n + 1) M := by
  unfold delN
  rw [List.take_add_one, h, List.foldl_append]
  rfl
def tC1 : Int → Option (St → St) := chipL.foldl mdel tFast
theorem delN_all {n : Nat} {M : Int → Option (St → St)} (h : ¬ n < chipS.size) : delN n M = chipL.foldl mdel M := by
  unfold delN
  rw [List.take_of_length_le (show chipL.length ≤ n from Nat.le_of_not_lt h)]
section
variable {P : Program} {ops : Array Oper} {rest : List Oper} {o : Oper} {a : Act} {Q : Exit → Act → World → Prop} {w : World} {it n : Nat}
theorem wpList_nextS (hg : o.guard = none) (x : Operand) (hop : o.op = Op.next x true) (hx : a.eval x = .pointer (some ⟨it, 0, none⟩)) (h : w.heap[it]? = some (.stringIter chipS n))
    (hn : ∀ u w', (u = .tuple #[.bool false] ∧ w' = w ∧ ¬ n < chipS.size) ∨ (∃ c, u = .tuple #[.bool true, .int .i64 n, .int .i32 c] ∧ chipL[n]? = some c ∧ w'.heap[it]? = some (.stringIter chipS (n + 1)) ∧ w.grownBy w' (some it)) → wpList P ops Q rest (a.put o.dst u) w') :
    wpList P ops Q (o :: rest) a w := by
  refine wpList_plain hg fun K' hK' => ?_
  unfold Oper.wp
  by_cases q : n < chipS.size
  · obtain ⟨h1, h2⟩ := chipS_at n q
    have hrun := Lib.run_next_ascii_at (P := P) w it chipS n o.type h q h2
    simp [execOp, hop, hx, hrun, Result.andThen]
    refine hK' _ _ (hn _ _ (.inr ⟨_, rfl, h1, Lib.iterAt_heap w it chipS n (n + 1) h, ⟨rfl, rfl, rfl, by simp [World.iterAt], fun i hi hne => Lib.iterAt_other w it i chipS (n + 1) (fun e => hne (by rw [e]))⟩⟩))
  · have hrun := Lib.run_next_end_at (P := P) w it chipS n o.type h q
    simp [execOp, hop, hx, hrun, Result.andThen]
    exact hK' _ _ (hn _ _ (.inl ⟨rfl, rfl, q⟩))
theorem wpList_del {κ : IntKind} {X : Nat → Prop} {base b r : Nat} {M : Int → Option (St → St)} (hg : o.guard = none) (m x : Operand) (t K E : TypeId) (hop : o.op = Op.call { callee := Callee.builtin Builtin.delete, args := #[m, x], argTypes := #[t, K] })
    (hT : P.underlying t = some (.map K E)) (hK : P.underlying K = some (.int κ)) (hm : a.eval m = .map (some r)) (k : Int) (hx : a.eval x = .int κ k) (h : MapE κ X base b w r M)
    (hn : ∀ w', MapG κ (fun v E => Eff X base b w v E) w' r (mdel M k) → w.grownBy w' (some r) → wpList P ops Q rest (a.put o.dst (.tuple #[])) w') : wpList P ops Q (o :: rest) a w := by
  refine wpList_plain hg fun K' hK' => ?_
  obtain ⟨w', hrun, r1, r2⟩ := h.delete hT hK k o.type
  unfold Oper.wp
  simp [execOp, hop, resolve, invoke, builtin, hm, hx, hrun, Result.andThen]
  exact hK' _ _ (hn w' r1 r2)
end
def tChip : Int → Option (St → St) := mset (mset (mset (mset (mset (tC1) 68 (St.fParam 33)) 69 (St.fByHigh (tTimed 6))) 70 (St.fUnless0 (St.fParam 36))) 78 (St.fNoise)) 83 (St.fShape)
set_option maxRecDepth 100000 in
set_option maxHeartbeats 2000000 in
theorem mk_chip (X : Nat → Prop) (base b : Nat) (w : World) (hb : b < w.heap.size) (hX : ∀ i, X i → i < w.heap.size) :
    Calls Tryz.prog 83 #[] w (MkMap .u8 X base b tChip w) := by
  have hmm := @run_makeMap Tryz.prog
  go_enter Tryz.func83, Tryz.ntmps83
  go_wp2_with fail
  refine (mk_fast X base b _ hb hX).mono ?_
  rintro _ w1 ⟨r, rfl, B⟩
  go_wp2_with fail
  have hiter : (w1.iter chipS 0).heap[w1.heap.size]? = some (.stringIter chipS 0) := World.iter_heap _ _ _
  have hW : Below w1.heap.size w1 (w1.iter chipS 0) := (Below.refl _ _).alloc (Nat.le_refl _) _
  have hM : MapE .u8 (Xr X r) base b (w1.iter chipS 0) r (delN 0 tFast) := (B.map.below hW)
  have hri : r ≠ w1.heap.size := by have := B.map.lt; omega
  have hbel : Below w.heap.size w (w1.iter chipS 0) := B.below.trans (hW.mono B.below.size)
  have hfr : w.heap.size ≤ r := B.fresh
  have hitw : w.heap.size ≤ w1.heap.size := B.below.size
  have hM := B.map.fresh hW (Nat.le_refl _)
  change Code.wp _ _ _ _ (w1.iter chipS 0)
  generalize w1.iter chipS 0 = w2 at *
  clear hW B
  generalize w1.heap.size = it at *
  go_loopw [] (fun wr => ∃ n, wr.heap[it]? = some (.stringIter chipS n) ∧ Below w.heap.size w wr ∧ MapE .u8 (Xr (Xr X r) it) base b wr r (delN n tFast)) (fun wr => chipS.size - wr.iterPos it)
  case atStart => exact ⟨0, hiter, hbel, hM⟩
  case round =>
    clear hbel hM hiter
    obtain ⟨n, hiter, hbel, hM⟩ := hrel
    go_wp2_with (first | (refine wpList_nextS rfl _ rfl rfl hiter ?_; rintro u wn (⟨rfl, rfl, hall⟩ | ⟨c, rfl, hc, hi1, hg1⟩)) | (refine wpList_del rfl _ _ 51 5 77 rfl Tryz.underlying51 Tryz.underlying5 rfl (c % 256) rfl (grown_iter hM hg1 hri) ?_; intro w7 hM3 hg3))
    · have B : Bld .u8 X base b w wn r tC1 := ⟨hbel, (hM.mono (fun _ h => .inl h)).eq (delN_all hall), hfr, hb, hX⟩
      clear hM hbel hall hri hitw hfr hiter
      skip
      refine (mk_param (Xr X r) base b _ B.bl B.x 33).mono ?_
      rintro _ w8 ⟨aD, rfl, haD, hB⟩
      replace B := B.call hB; clear hB
      go_wp2_with (refine wpList_ins rfl _ _ _ 51 (Or.inr rfl) 5 77 Tryz.underlying51 Tryz.underlying5 rfl B 68 rfl _ rfl (St.fParam 33) haD ?_; clear B; clear haD; intro w9 B hk9; clear hk9)
      refine (mk_timed (Xr X r) base b _ B.bl B.x 6 (by decide)).mono ?_
      rintro _ w8 ⟨r2, rfl, B2⟩
      replace B := B.call B2.below; skip
      have hr2 : r2 ≠ b := by have := B2.fresh; have := B2.hb; omega
      have hx2 : ¬ (Xr X r) r2 := fun h => by have := B2.hX _ h; have := B2.fresh; omega
      have hM2 : MapE .i64 (Xr X r) base b w8 r2 (tTimed 6) := B2.map.mono (fun _ h => .inl h)
      clear B2
      go_wp2_with fail
      refine (mk_byHigh (Xr X r) base b _ B.bl B.x r2 hr2 hx2 _ hM2).mono ?_
      rintro _ w8 ⟨aE, rfl, haE, hB⟩
      replace B := B.call hB; clear hB hM2 hx2 hr2
      go_wp2_with (refine wpList_ins rfl _ _ _ 51 (Or.inr rfl) 5 77 Tryz.underlying51 Tryz.underlying5 rfl B 69 rfl _ rfl (St.fByHigh (tTimed 6)) haE ?_; clear B; clear haE; intro w9 B hk9; clear hk9)
      refine (mk_param (Xr X r) base b _ B.bl B.x 36).mono ?_
      rintro _ w8 ⟨aFx, rfl, haFx, hB⟩
      replace B := B.call hB; clear hB
      go_wp2_with fail
      refine (mk_unless0 (Xr X r) base b _ B.bl B.x _ (St.fParam 36) haFx).mono ?_
      rintro _ w8 ⟨aF, rfl, haF, hB⟩
      replace B := B.call hB; replace haFx := haFx.below hB; clear hB
      clear haFx
      go_wp2_with (first | (refine wpList_ins rfl _ _ _ 51 (Or.inr rfl) 5 77 Tryz.underlying51 Tryz.underlying5 rfl B 70 rfl _ rfl (St.fUnless0 (St.fParam 36)) haF ?_; clear B; clear haF; intro w9 B hk9; clear hk9) | (refine wpList_ins rfl _ _ _ 51 (Or.inr rfl) 5 77 Tryz.underlying51 Tryz.underlying5 rfl B 78 rfl _ rfl (St.fNoise) ((ev127 _ _ _ _)) ?_; clear B; intro w9 B hk9; clear hk9) | (refine wpList_ins rfl _ _ _ 51 (Or.inr rfl) 5 77 Tryz.underlying51 Tryz.underlying5 rfl B 83 rfl _ rfl (St.fShape) ((ev128 _ _ _ _)) ?_; clear B; intro w9 B hk9; clear hk9))
      go_ret
      exact ⟨_, rfl, B⟩
    · obtain ⟨hn, hc0, hc1⟩ := chipL_at n c hc
      have ec : c % 256 = c := by omega
      rw [ec] at hM3
      have hbel9 : Below w.heap.size w wn := hbel.grown hg1 hbel.size (fun k e => by cases e; exact hitw)
      have hi2 : w7.heap[it]? = some (.stringIter chipS (n + 1)) := (hg3.block it (Array.getElem?_eq_some_iff.1 hi1).1 (fun e => hri (by cases e; rfl))).trans hi1
      go_roundw
      case rel =>
        have HR : ∃ n, w7.heap[it]? = some (.stringIter chipS n) ∧ Below w.heap.size w w7 ∧ MapE .u8 (Xr (Xr X r) it) base b w7 r (delN n tFast) := ⟨n + 1, hi2, hbel9.grown hg3 hbel9.size (fun k e => by cases e; exact hfr), (hM3.imp rfl (fun v y hv => hv.kpx (grown_kpx hg3 (.inl (.inr rfl))))).eq (delN_step hc tFast)⟩
        exact ⟨_, _, _, _, _, _, _, HR, rfl⟩
      case measure =>
        rw [show w7.iterPos it = n + 1 from by simp [World.iterPos, hi2], show wr.iterPos it = n from by simp [World.iterPos, hiter]]
        omega

end Go.Proofs.YtappnglfmidjoaaGreat.D
