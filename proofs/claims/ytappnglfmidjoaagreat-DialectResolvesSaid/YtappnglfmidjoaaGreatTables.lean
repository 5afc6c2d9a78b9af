/- The other builders of maps of effects. -/
import Derived.Test.YtappnglfmidjoaaGreatTimed
set_option linter.unusedVariables false
set_option linter.unusedSimpArgs false
namespace Go.Proofs.YtappnglfmidjoaaGreat.D
open Go Go.RowKit
open Go.Proofs.YtappnglfmidjoaaGreat.DB
def tExtended : Int → Option (St → St) := mset (mset (mset (mset (mset (mset (mset (mset (mset (mset (tTimed 6) 1 (St.fLowHalf 4)) 2 (St.fLowHalf 5)) 3 (St.fGliss)) 4 (St.fWave 25)) 7 (St.fWave 26)) 5 (St.fFine)) 8 (St.fPanLow)) 9 (St.fLowHalf 19)) 10 (St.fLowHalf 13)) 11 (St.fLowHalf 14)
set_option maxRecDepth 100000 in
set_option maxHeartbeats 1000000 in
theorem mk_extended (X : Nat → Prop) (base b : Nat) (w : World) (hb : b < w.heap.size) (hX : ∀ i, X i → i < w.heap.size) :
    Calls Tryz.prog 98 #[] w (MkMap .i64 X base b (tExtended) w) := by
  have hmm := @run_makeMap Tryz.prog
  go_enter Tryz.func98, Tryz.ntmps98
  go_wp2_with fail
  refine (mk_timed X base b _ hb hX 6 (by decide)).mono ?_
  rintro _ w8 ⟨r, rfl, B⟩
  go_wp2_with fail
  refine (mk_lowHalf (Xr X r) base b _ B.bl B.x 4).mono ?_
  rintro _ w8 ⟨v1, rfl, hv1, hB⟩
  replace B := B.call hB; clear hB
  go_wp2_with fail
  refine (mk_lowHalf (Xr X r) base b _ B.bl B.x 5).mono ?_
  rintro _ w8 ⟨v2, rfl, hv2, hB⟩
  replace B := B.call hB; replace hv1 := hv1.below hB; clear hB
  go_wp2_with (first | (refine wpList_entry rfl _ _ 87 rfl 3 77 Tryz.underlying87 Tryz.underlying3 zeroEff rfl B 1 rfl (by simp [mset, tTimed]) _ (St.fLowHalf 4) hv1 ?_; clear B hv1; intro s9 w9 hst; obtain ⟨w10, hrun, B, hk9⟩ := hst; have HR := Lib.hid hrun; clear hrun; replace hv2 := hv2.kpx hk9; clear hk9) | (refine wpList_store rfl _ _ _ 87 rfl HR.out rfl rfl rfl ?_; clear HR) | (refine wpList_ins rfl _ _ _ 87 (Or.inr rfl) 3 77 Tryz.underlying87 Tryz.underlying3 rfl B 2 rfl _ rfl (St.fLowHalf 5) hv2 ?_; clear B; clear hv2; intro w9 B hk9; clear hk9) | (refine wpList_ins rfl _ _ _ 87 (Or.inr rfl) 3 77 Tryz.underlying87 Tryz.underlying3 rfl B 3 rfl _ rfl (St.fGliss) ((ev101 _ _ _ _)) ?_; clear B; intro w9 B hk9; clear hk9))
  refine (mk_wave (Xr X r) base b _ B.bl B.x 25).mono ?_
  rintro _ w8 ⟨v3, rfl, hv3, hB⟩
  replace B := B.call hB; clear hB
  go_wp2_with fail
  refine (mk_wave (Xr X r) base b _ B.bl B.x 26).mono ?_
  rintro _ w8 ⟨v4, rfl, hv4, hB⟩
  replace B := B.call hB; replace hv3 := hv3.below hB; clear hB
  go_wp2_with (first | (refine wpList_entry rfl _ _ 87 rfl 3 77 Tryz.underlying87 Tryz.underlying3 zeroEff rfl B 4 rfl (by simp [mset, tTimed]) _ (St.fWave 25) hv3 ?_; clear B hv3; intro s9 w9 hst; obtain ⟨w10, hrun, B, hk9⟩ := hst; have HR := Lib.hid hrun; clear hrun; replace hv4 := hv4.kpx hk9; clear hk9) | (refine wpList_store rfl _ _ _ 87 rfl HR.out rfl rfl rfl ?_; clear HR) | (refine wpList_ins rfl _ _ _ 87 (Or.inr rfl) 3 77 Tryz.underlying87 Tryz.underlying3 rfl B 7 rfl _ rfl (St.fWave 26) hv4 ?_; clear B; clear hv4; intro w9 B hk9; clear hk9) | (refine wpList_ins rfl _ _ _ 87 (Or.inr rfl) 3 77 Tryz.underlying87 Tryz.underlying3 rfl B 5 rfl _ rfl (St.fFine) ((ev135 _ _ _ _)) ?_; clear B; intro w9 B hk9; clear hk9))
  refine (mk_lowHalf (Xr X r) base b _ B.bl B.x 19).mono ?_
  rintro _ w8 ⟨v5, rfl, hv5, hB⟩
  replace B := B.call hB; clear hB
  go_wp2_with (first | (refine wpList_ins rfl _ _ _ 87 (Or.inr rfl) 3 77 Tryz.underlying87 Tryz.underlying3 rfl B 8 rfl _ rfl (St.fPanLow) ((ev104 _ _ _ _)) ?_; clear B; intro w9 B hk9; replace hv5 := hv5.kpx hk9; clear hk9) | (refine wpList_ins rfl _ _ _ 87 (Or.inr rfl) 3 77 Tryz.underlying87 Tryz.underlying3 rfl B 9 rfl _ rfl (St.fLowHalf 19) hv5 ?_; clear B; clear hv5; intro w9 B hk9; clear hk9))
  refine (mk_lowHalf (Xr X r) base b _ B.bl B.x 13).mono ?_
  rintro _ w8 ⟨v6, rfl, hv6, hB⟩
  replace B := B.call hB; clear hB
  go_wp2_with fail
  refine (mk_lowHalf (Xr X r) base b _ B.bl B.x 14).mono ?_
  rintro _ w8 ⟨v7, rfl, hv7, hB⟩
  replace B := B.call hB; replace hv6 := hv6.below hB; clear hB
  go_wp2_with (first | (refine wpList_entry rfl _ _ 87 rfl 3 77 Tryz.underlying87 Tryz.underlying3 zeroEff rfl B 10 rfl (by simp [mset, tTimed]) _ (St.fLowHalf 13) hv6 ?_; clear B hv6; intro s9 w9 hst; obtain ⟨w10, hrun, B, hk9⟩ := hst; have HR := Lib.hid hrun; clear hrun; replace hv7 := hv7.kpx hk9; clear hk9) | (refine wpList_store rfl _ _ _ 87 rfl HR.out rfl rfl rfl ?_; clear HR) | (refine wpList_ins rfl _ _ _ 87 (Or.inr rfl) 3 77 Tryz.underlying87 Tryz.underlying3 rfl B 11 rfl _ rfl (St.fLowHalf 14) hv7 ?_; clear B; clear hv7; intro w9 B hk9; clear hk9))
  go_ret
  exact ⟨_, rfl, B⟩
def tSpecial : Int → Option (St → St) := mset (mset (mset (mset (mset (tTimed 11) 3 (St.fWave 25)) 4 (St.fWave 26)) 8 (St.fPanLow)) 7 (St.fPast)) 9 (St.fSurround)
set_option maxRecDepth 100000 in
set_option maxHeartbeats 1000000 in
theorem mk_special (X : Nat → Prop) (base b : Nat) (w : World) (hb : b < w.heap.size) (hX : ∀ i, X i → i < w.heap.size) :
    Calls Tryz.prog 122 #[] w (MkMap .i64 X base b (tSpecial) w) := by
  have hmm := @run_makeMap Tryz.prog
  go_enter Tryz.func122, Tryz.ntmps122
  go_wp2_with fail
  refine (mk_timed X base b _ hb hX 11 (by decide)).mono ?_
  rintro _ w8 ⟨r, rfl, B⟩
  go_wp2_with fail
  refine (mk_wave (Xr X r) base b _ B.bl B.x 25).mono ?_
  rintro _ w8 ⟨v1, rfl, hv1, hB⟩
  replace B := B.call hB; clear hB
  go_wp2_with fail
  refine (mk_wave (Xr X r) base b _ B.bl B.x 26).mono ?_
  rintro _ w8 ⟨v2, rfl, hv2, hB⟩
  replace B := B.call hB; replace hv1 := hv1.below hB; clear hB
  go_wp2_with (first | (refine wpList_entry rfl _ _ 87 rfl 3 77 Tryz.underlying87 Tryz.underlying3 zeroEff rfl B 3 rfl (by simp [mset, tTimed]) _ (St.fWave 25) hv1 ?_; clear B hv1; intro s9 w9 hst; obtain ⟨w10, hrun, B, hk9⟩ := hst; have HR := Lib.hid hrun; clear hrun; replace hv2 := hv2.kpx hk9; clear hk9) | (refine wpList_store rfl _ _ _ 87 rfl HR.out rfl rfl rfl ?_; clear HR) | (refine wpList_ins rfl _ _ _ 87 (Or.inr rfl) 3 77 Tryz.underlying87 Tryz.underlying3 rfl B 4 rfl _ rfl (St.fWave 26) hv2 ?_; clear B; clear hv2; intro w9 B hk9; clear hk9) | (refine wpList_ins rfl _ _ _ 87 (Or.inr rfl) 3 77 Tryz.underlying87 Tryz.underlying3 rfl B 8 rfl _ rfl (St.fPanLow) ((ev104 _ _ _ _)) ?_; clear B; intro w9 B hk9; clear hk9) | (refine wpList_ins rfl _ _ _ 87 (Or.inr rfl) 3 77 Tryz.underlying87 Tryz.underlying3 rfl B 7 rfl _ rfl (St.fPast) ((ev140 _ _ _ _)) ?_; clear B; intro w9 B hk9; clear hk9) | (refine wpList_ins rfl _ _ _ 87 (Or.inr rfl) 3 77 Tryz.underlying87 Tryz.underlying3 rfl B 9 rfl _ rfl (St.fSurround) ((ev141 _ _ _ _)) ?_; clear B; intro w9 B hk9; clear hk9))
  go_ret
  exact ⟨_, rfl, B⟩
theorem Eff.fresh {X : Nat → Prop} {base b r : Nat} {w0 w : World} {v : Value} {E : St → St} (h : Eff X base b w0 v E) (hB : Below w0.heap.size w0 w) (hr : w0.heap.size ≤ r) : Eff (Xr X r) base b w v E := by
  obtain ⟨fid, cap, rfl, hr', h⟩ := h
  refine ⟨fid, cap, rfl, hr', fun w' S hK hA hl => h w' S ⟨Nat.le_trans hB.size hK.size, fun i hi hb hx hro => ?_⟩ hA hl⟩
  have h1 := hB.block i hi
  rw [hK.block i (Nat.lt_of_lt_of_le hi hB.size) hb (fun hq => hq.elim hx (fun e => by omega)) ?_, h1]
  rcases hro with hro | hro
  · exact .inl hro
  · refine .inr ?_
    rintro ⟨cs, fr, hc⟩
    exact hro ⟨cs, fr, by rw [← h1]; exact hc⟩
theorem MapE.fresh {κ : IntKind} {X : Nat → Prop} {base b r r' : Nat} {w0 w : World} {M : Int → Option (St → St)} (h : MapE κ X base b w0 r' M) (hB : Below w0.heap.size w0 w) (hr : w0.heap.size ≤ r) : MapE κ (Xr X r) base b w r' M :=
  h.imp (hB.block r' h.lt) (fun v y hv => Eff.fresh hv hB hr)
theorem Bld.under {κ : IntKind} {X : Nat → Prop} {base b r : Nat} {w w0 w1 : World} {M : Int → Option (St → St)} (B : Bld κ X base b w0 w1 r M) (hW : Below w.heap.size w w0) (hb : b < w.heap.size) (hX : ∀ i, X i → i < w.heap.size) : Bld κ X base b w w1 r M :=
  ⟨hW.trans (B.below.mono hW.size), B.map, Nat.le_trans hW.size B.fresh, hb, hX⟩
def tFour : Int → Option (St → St) := mset (mset (mset (mset (mset (mset (mset (mset (mset (mset (mset (mset (mset (mset (mset (mset (fun _ => none) 48 (St.fUnless0 (St.fBoth 1))) 49 (St.fParam 2)) 50 (St.fParam 3)) 51 (St.fWholly 1 (St.fParam 8))) 52 (St.fHalved 2 (St.fBoth 9))) 53 (St.fFive)) 54 (St.fSix)) 55 (St.fHalved 3 (St.fBoth 11))) 56 (St.fPan)) 57 (St.fWholly 4 (St.fOffset))) 65 (St.fBoth 12)) 66 (St.fParam 32)) 67 (St.fVolume)) 68 (St.fDecimal)) 69 (St.fByHigh (tExtended))) 70 (St.fSpeedOrTempo)
set_option maxRecDepth 100000 in
set_option maxHeartbeats 1000000 in
theorem mk_four (X : Nat → Prop) (base b : Nat) (w : World) (hb : b < w.heap.size) (hX : ∀ i, X i → i < w.heap.size) :
    Calls Tryz.prog 78 #[] w (MkMap .u8 X base b (tFour) w) := by
  have hmm := @run_makeMap Tryz.prog
  go_enter Tryz.func78, Tryz.ntmps78
  go_wp2_with fail
  have B := Bld.made .u8 X base hb hX
  generalize w.alloc (.map #[] 0) = w9 at B ⊢
  refine (mk_both (Xr X w.heap.size) base b _ B.bl B.x 1).mono ?_
  rintro _ w8 ⟨a0x, rfl, ha0x, hB⟩
  replace B := B.call hB; clear hB
  go_wp2_with fail
  refine (mk_unless0 (Xr X w.heap.size) base b _ B.bl B.x _ (St.fBoth 1) ha0x).mono ?_
  rintro _ w8 ⟨a0, rfl, ha0, hB⟩
  replace B := B.call hB; replace ha0x := ha0x.below hB; clear hB
  clear ha0x
  go_wp2_with (refine wpList_ins rfl _ _ _ 51 (Or.inl rfl) 5 77 Tryz.underlying51 Tryz.underlying5 rfl B 48 rfl _ rfl (St.fUnless0 (St.fBoth 1)) ha0 ?_; clear B; clear ha0; intro w9 B hk9; clear hk9)
  refine (mk_param (Xr X w.heap.size) base b _ B.bl B.x 2).mono ?_
  rintro _ w8 ⟨a1, rfl, ha1, hB⟩
  replace B := B.call hB; clear hB
  go_wp2_with (refine wpList_ins rfl _ _ _ 51 (Or.inl rfl) 5 77 Tryz.underlying51 Tryz.underlying5 rfl B 49 rfl _ rfl (St.fParam 2) ha1 ?_; clear B; clear ha1; intro w9 B hk9; clear hk9)
  refine (mk_param (Xr X w.heap.size) base b _ B.bl B.x 3).mono ?_
  rintro _ w8 ⟨a2, rfl, ha2, hB⟩
  replace B := B.call hB; clear hB
  go_wp2_with (refine wpList_ins rfl _ _ _ 51 (Or.inl rfl) 5 77 Tryz.underlying51 Tryz.underlying5 rfl B 50 rfl _ rfl (St.fParam 3) ha2 ?_; clear B; clear ha2; intro w9 B hk9; clear hk9)
  refine (mk_param (Xr X w.heap.size) base b _ B.bl B.x 8).mono ?_
  rintro _ w8 ⟨a3x, rfl, ha3x, hB⟩
  replace B := B.call hB; clear hB
  go_wp2_with fail
  refine (mk_wholly (Xr X w.heap.size) base b _ B.bl B.x 1 _ (St.fParam 8) ha3x (by decide) (by decide)).mono ?_
  rintro _ w8 ⟨a3, rfl, ha3, hB⟩
  replace B := B.call hB; replace ha3x := ha3x.below hB; clear hB
  clear ha3x
  go_wp2_with (refine wpList_ins rfl _ _ _ 51 (Or.inl rfl) 5 77 Tryz.underlying51 Tryz.underlying5 rfl B 51 rfl _ rfl (St.fWholly 1 (St.fParam 8)) ha3 ?_; clear B; clear ha3; intro w9 B hk9; clear hk9)
  refine (mk_both (Xr X w.heap.size) base b _ B.bl B.x 9).mono ?_
  rintro _ w8 ⟨a4x, rfl, ha4x, hB⟩
  replace B := B.call hB; clear hB
  go_wp2_with fail
  refine (mk_halved (Xr X w.heap.size) base b _ B.bl B.x 2 _ (St.fBoth 9) ha4x (by decide) (by decide)).mono ?_
  rintro _ w8 ⟨a4, rfl, ha4, hB⟩
  replace B := B.call hB; replace ha4x := ha4x.below hB; clear hB
  clear ha4x
  go_wp2_with (first | (refine wpList_ins rfl _ _ _ 51 (Or.inl rfl) 5 77 Tryz.underlying51 Tryz.underlying5 rfl B 52 rfl _ rfl (St.fHalved 2 (St.fBoth 9)) ha4 ?_; clear B; clear ha4; intro w9 B hk9; clear hk9) | (refine wpList_ins rfl _ _ _ 51 (Or.inl rfl) 5 77 Tryz.underlying51 Tryz.underlying5 rfl B 53 rfl _ rfl (St.fFive) ((ev89 _ _ _ _)) ?_; clear B; intro w9 B hk9; clear hk9) | (refine wpList_ins rfl _ _ _ 51 (Or.inl rfl) 5 77 Tryz.underlying51 Tryz.underlying5 rfl B 54 rfl _ rfl (St.fSix) ((ev90 _ _ _ _)) ?_; clear B; intro w9 B hk9; clear hk9))
  refine (mk_both (Xr X w.heap.size) base b _ B.bl B.x 11).mono ?_
  rintro _ w8 ⟨a7x, rfl, ha7x, hB⟩
  replace B := B.call hB; clear hB
  go_wp2_with fail
  refine (mk_halved (Xr X w.heap.size) base b _ B.bl B.x 3 _ (St.fBoth 11) ha7x (by decide) (by decide)).mono ?_
  rintro _ w8 ⟨a7, rfl, ha7, hB⟩
  replace B := B.call hB; replace ha7x := ha7x.below hB; clear hB
  clear ha7x
  go_wp2_with (first | (refine wpList_ins rfl _ _ _ 51 (Or.inl rfl) 5 77 Tryz.underlying51 Tryz.underlying5 rfl B 55 rfl _ rfl (St.fHalved 3 (St.fBoth 11)) ha7 ?_; clear B; clear ha7; intro w9 B hk9; clear hk9) | (refine wpList_ins rfl _ _ _ 51 (Or.inl rfl) 5 77 Tryz.underlying51 Tryz.underlying5 rfl B 56 rfl _ rfl (St.fPan) ((ev92 _ _ _ _)) ?_; clear B; intro w9 B hk9; clear hk9))
  refine (mk_wholly (Xr X w.heap.size) base b _ B.bl B.x 4 _ (St.fOffset) (ev94 _ _ _ _) (by decide) (by decide)).mono ?_
  rintro _ w8 ⟨a9, rfl, ha9, hB⟩
  replace B := B.call hB; clear hB
  go_wp2_with (refine wpList_ins rfl _ _ _ 51 (Or.inl rfl) 5 77 Tryz.underlying51 Tryz.underlying5 rfl B 57 rfl _ rfl (St.fWholly 4 (St.fOffset)) ha9 ?_; clear B; clear ha9; intro w9 B hk9; clear hk9)
  refine (mk_both (Xr X w.heap.size) base b _ B.bl B.x 12).mono ?_
  rintro _ w8 ⟨aA, rfl, haA, hB⟩
  replace B := B.call hB; clear hB
  go_wp2_with (refine wpList_ins rfl _ _ _ 51 (Or.inl rfl) 5 77 Tryz.underlying51 Tryz.underlying5 rfl B 65 rfl _ rfl (St.fBoth 12) haA ?_; clear B; clear haA; intro w9 B hk9; clear hk9)
  refine (mk_param (Xr X w.heap.size) base b _ B.bl B.x 32).mono ?_
  rintro _ w8 ⟨aB, rfl, haB, hB⟩
  replace B := B.call hB; clear hB
  go_wp2_with (first | (refine wpList_ins rfl _ _ _ 51 (Or.inl rfl) 5 77 Tryz.underlying51 Tryz.underlying5 rfl B 66 rfl _ rfl (St.fParam 32) haB ?_; clear B; clear haB; intro w9 B hk9; clear hk9) | (refine wpList_ins rfl _ _ _ 51 (Or.inl rfl) 5 77 Tryz.underlying51 Tryz.underlying5 rfl B 67 rfl _ rfl (St.fVolume) ((ev95 _ _ _ _)) ?_; clear B; intro w9 B hk9; clear hk9) | (refine wpList_ins rfl _ _ _ 51 (Or.inl rfl) 5 77 Tryz.underlying51 Tryz.underlying5 rfl B 68 rfl _ rfl (St.fDecimal) ((ev96 _ _ _ _)) ?_; clear B; intro w9 B hk9; clear hk9))
  refine (mk_extended (Xr X w.heap.size) base b _ B.bl B.x).mono ?_
  rintro _ w8 ⟨r2, rfl, B2⟩
  replace B := B.call B2.below; skip
  have hr2 : r2 ≠ b := by have := B2.fresh; have := B2.hb; omega
  have hx2 : ¬ (Xr X w.heap.size) r2 := fun h => by have := B2.hX _ h; have := B2.fresh; omega
  have hM2 : MapE .i64 (Xr X w.heap.size) base b w8 r2 (tExtended) := B2.map.mono (fun _ h => .inl h)
  clear B2
  go_wp2_with fail
  refine (mk_byHigh (Xr X w.heap.size) base b _ B.bl B.x r2 hr2 hx2 _ hM2).mono ?_
  rintro _ w8 ⟨aE, rfl, haE, hB⟩
  replace B := B.call hB; clear hB hM2 hx2 hr2
  go_wp2_with (first | (refine wpList_ins rfl _ _ _ 51 (Or.inl rfl) 5 77 Tryz.underlying51 Tryz.underlying5 rfl B 69 rfl _ rfl (St.fByHigh (tExtended)) haE ?_; clear B; clear haE; intro w9 B hk9; clear hk9) | (refine wpList_ins rfl _ _ _ 51 (Or.inl rfl) 5 77 Tryz.underlying51 Tryz.underlying5 rfl B 70 rfl _ rfl (St.fSpeedOrTempo) ((ev99 _ _ _ _)) ?_; clear B; intro w9 B hk9; clear hk9))
  go_ret
  exact ⟨_, rfl, B⟩
def tScreamS : Int → Option (St → St) := mset (mset (mset (mset (mset (tTimed 11) 1 (St.fGliss)) 2 (St.fScreamFine)) 3 (St.fWave 25)) 4 (St.fWave 26)) 8 (St.fPanLow)
def tScream : Int → Option (St → St) := mset (mset (mset (mset (mset (mset (mset (mset (mset (mset (mset (mset (mset (mset (mset (mset (mset (mset (mset (mset (fun _ => none) 65 (St.fUnless0 (St.fParam 36))) 66 (St.fParam 32)) 67 (St.fDecimal)) 68 (St.fWholly 1 (St.slide))) 69 (St.fWholly 1 (St.fDown))) 70 (St.fWholly 1 (St.fUp))) 71 (St.fWholly 2 (St.fParam 8))) 72 (St.fHalved 3 (St.fBoth 9))) 73 (St.fWholly 1 (St.fTremor))) 74 (St.fWholly 1 (St.fBoth 1))) 75 (St.fWholly 1 (St.fVibratoSlide))) 76 (St.fWholly 1 (St.fToneSlide))) 79 (St.fWholly 4 (St.fOffset))) 81 (St.fWholly 1 (St.fRetrig))) 82 (St.fWholly 1 (St.fBoth 11))) 83 (St.fWholly 1 (St.fByHigh (tScreamS)))) 84 (St.fTempoFrom32)) 85 (St.fHalved 3 (St.fBoth 10))) 86 (St.fDoubled 28 64)) 88 (St.fDoubled 16 128)
set_option maxRecDepth 100000 in
set_option maxHeartbeats 1000000 in
theorem mk_scream (X : Nat → Prop) (base b : Nat) (w : World) (hb : b < w.heap.size) (hX : ∀ i, X i → i < w.heap.size) :
    Calls Tryz.prog 79 #[] w (MkMap .u8 X base b (tScream) w) := by
  have hmm := @run_makeMap Tryz.prog
  go_enter Tryz.func79, Tryz.ntmps79
  go_wp2_with fail
  refine (mk_timed X base b _ hb hX 11 (by decide)).mono ?_
  rintro _ w8 ⟨r, rfl, B⟩
  go_wp2_with (first | (refine wpList_ins rfl _ _ _ 87 (Or.inr rfl) 3 77 Tryz.underlying87 Tryz.underlying3 rfl B 1 rfl _ rfl (St.fGliss) ((ev101 _ _ _ _)) ?_; clear B; intro w9 B hk9; clear hk9) | (refine wpList_ins rfl _ _ _ 87 (Or.inr rfl) 3 77 Tryz.underlying87 Tryz.underlying3 rfl B 2 rfl _ rfl (St.fScreamFine) ((ev102 _ _ _ _)) ?_; clear B; intro w9 B hk9; clear hk9))
  refine (mk_wave (Xr X r) base b _ B.bl B.x 25).mono ?_
  rintro _ w8 ⟨v1, rfl, hv1, hB⟩
  replace B := B.call hB; clear hB
  go_wp2_with fail
  refine (mk_wave (Xr X r) base b _ B.bl B.x 26).mono ?_
  rintro _ w8 ⟨v2, rfl, hv2, hB⟩
  replace B := B.call hB; replace hv1 := hv1.below hB; clear hB
  go_wp2_with (first | (refine wpList_entry rfl _ _ 87 rfl 3 77 Tryz.underlying87 Tryz.underlying3 zeroEff rfl B 3 rfl (by simp [mset, tTimed]) _ (St.fWave 25) hv1 ?_; clear B hv1; intro s9 w9 hst; obtain ⟨w10, hrun, B, hk9⟩ := hst; have HR := Lib.hid hrun; clear hrun; replace hv2 := hv2.kpx hk9; clear hk9) | (refine wpList_store rfl _ _ _ 87 rfl HR.out rfl rfl rfl ?_; clear HR) | (refine wpList_ins rfl _ _ _ 87 (Or.inr rfl) 3 77 Tryz.underlying87 Tryz.underlying3 rfl B 4 rfl _ rfl (St.fWave 26) hv2 ?_; clear B; clear hv2; intro w9 B hk9; clear hk9) | (refine wpList_ins rfl _ _ _ 87 (Or.inr rfl) 3 77 Tryz.underlying87 Tryz.underlying3 rfl B 8 rfl _ rfl (St.fPanLow) ((ev104 _ _ _ _)) ?_; clear B; intro w9 B hk9; clear hk9))
  have hW := B.below
  have hM1 := B.map.mono (X' := X) (fun _ h => .inl h)
  have hr1 : r ≠ b := by have := B.fresh; have := B.hb; omega
  have hx1 : ¬ X r := fun h => by have := B.hX _ h; have := B.fresh; omega
  obtain ⟨w', hw'⟩ : ∃ w', w' = w9 := ⟨_, rfl⟩
  rw [← hw'] at hM1 hW ⊢
  have hb1 : b < w'.heap.size := by rw [hw']; have := B.bl; omega
  have hX1 : ∀ i, X i → i < w'.heap.size := by rw [hw']; exact fun i hi => B.x i (.inl hi)
  clear B hw'
  have B := Bld.made .u8 X base hb1 hX1
  generalize w'.alloc (.map #[] 0) = w9 at B ⊢
  refine (mk_param (Xr X w'.heap.size) base b _ B.bl B.x 36).mono ?_
  rintro _ w8 ⟨cAx, rfl, hcAx, hB⟩
  replace B := B.call hB; clear hB
  go_wp2_with fail
  refine (mk_unless0 (Xr X w'.heap.size) base b _ B.bl B.x _ (St.fParam 36) hcAx).mono ?_
  rintro _ w8 ⟨cA, rfl, hcA, hB⟩
  replace B := B.call hB; replace hcAx := hcAx.below hB; clear hB
  clear hcAx
  go_wp2_with (refine wpList_ins rfl _ _ _ 51 (Or.inl rfl) 5 77 Tryz.underlying51 Tryz.underlying5 rfl B 65 rfl _ rfl (St.fUnless0 (St.fParam 36)) hcA ?_; clear B; clear hcA; intro w9 B hk9; clear hk9)
  refine (mk_param (Xr X w'.heap.size) base b _ B.bl B.x 32).mono ?_
  rintro _ w8 ⟨cB, rfl, hcB, hB⟩
  replace B := B.call hB; clear hB
  go_wp2_with (first | (refine wpList_ins rfl _ _ _ 51 (Or.inl rfl) 5 77 Tryz.underlying51 Tryz.underlying5 rfl B 66 rfl _ rfl (St.fParam 32) hcB ?_; clear B; clear hcB; intro w9 B hk9; clear hk9) | (refine wpList_ins rfl _ _ _ 51 (Or.inl rfl) 5 77 Tryz.underlying51 Tryz.underlying5 rfl B 67 rfl _ rfl (St.fDecimal) ((ev96 _ _ _ _)) ?_; clear B; intro w9 B hk9; clear hk9))
  refine (mk_wholly (Xr X w'.heap.size) base b _ B.bl B.x 1 _ (St.slide) (ev105 _ _ _ _) (by decide) (by decide)).mono ?_
  rintro _ w8 ⟨cD, rfl, hcD, hB⟩
  replace B := B.call hB; clear hB
  go_wp2_with (refine wpList_ins rfl _ _ _ 51 (Or.inl rfl) 5 77 Tryz.underlying51 Tryz.underlying5 rfl B 68 rfl _ rfl (St.fWholly 1 (St.slide)) hcD ?_; clear B; clear hcD; intro w9 B hk9; clear hk9)
  refine (mk_wholly (Xr X w'.heap.size) base b _ B.bl B.x 1 _ (St.fDown) (ev106 _ _ _ _) (by decide) (by decide)).mono ?_
  rintro _ w8 ⟨cE, rfl, hcE, hB⟩
  replace B := B.call hB; clear hB
  go_wp2_with (refine wpList_ins rfl _ _ _ 51 (Or.inl rfl) 5 77 Tryz.underlying51 Tryz.underlying5 rfl B 69 rfl _ rfl (St.fWholly 1 (St.fDown)) hcE ?_; clear B; clear hcE; intro w9 B hk9; clear hk9)
  refine (mk_wholly (Xr X w'.heap.size) base b _ B.bl B.x 1 _ (St.fUp) (ev107 _ _ _ _) (by decide) (by decide)).mono ?_
  rintro _ w8 ⟨cF, rfl, hcF, hB⟩
  replace B := B.call hB; clear hB
  go_wp2_with (refine wpList_ins rfl _ _ _ 51 (Or.inl rfl) 5 77 Tryz.underlying51 Tryz.underlying5 rfl B 70 rfl _ rfl (St.fWholly 1 (St.fUp)) hcF ?_; clear B; clear hcF; intro w9 B hk9; clear hk9)
  refine (mk_param (Xr X w'.heap.size) base b _ B.bl B.x 8).mono ?_
  rintro _ w8 ⟨cGx, rfl, hcGx, hB⟩
  replace B := B.call hB; clear hB
  go_wp2_with fail
  refine (mk_wholly (Xr X w'.heap.size) base b _ B.bl B.x 2 _ (St.fParam 8) hcGx (by decide) (by decide)).mono ?_
  rintro _ w8 ⟨cG, rfl, hcG, hB⟩
  replace B := B.call hB; replace hcGx := hcGx.below hB; clear hB
  clear hcGx
  go_wp2_with (refine wpList_ins rfl _ _ _ 51 (Or.inl rfl) 5 77 Tryz.underlying51 Tryz.underlying5 rfl B 71 rfl _ rfl (St.fWholly 2 (St.fParam 8)) hcG ?_; clear B; clear hcG; intro w9 B hk9; clear hk9)
  refine (mk_both (Xr X w'.heap.size) base b _ B.bl B.x 9).mono ?_
  rintro _ w8 ⟨cHx, rfl, hcHx, hB⟩
  replace B := B.call hB; clear hB
  go_wp2_with fail
  refine (mk_halved (Xr X w'.heap.size) base b _ B.bl B.x 3 _ (St.fBoth 9) hcHx (by decide) (by decide)).mono ?_
  rintro _ w8 ⟨cH, rfl, hcH, hB⟩
  replace B := B.call hB; replace hcHx := hcHx.below hB; clear hB
  clear hcHx
  go_wp2_with (refine wpList_ins rfl _ _ _ 51 (Or.inl rfl) 5 77 Tryz.underlying51 Tryz.underlying5 rfl B 72 rfl _ rfl (St.fHalved 3 (St.fBoth 9)) hcH ?_; clear B; clear hcH; intro w9 B hk9; clear hk9)
  refine (mk_wholly (Xr X w'.heap.size) base b _ B.bl B.x 1 _ (St.fTremor) (ev108 _ _ _ _) (by decide) (by decide)).mono ?_
  rintro _ w8 ⟨cI, rfl, hcI, hB⟩
  replace B := B.call hB; clear hB
  go_wp2_with (refine wpList_ins rfl _ _ _ 51 (Or.inl rfl) 5 77 Tryz.underlying51 Tryz.underlying5 rfl B 73 rfl _ rfl (St.fWholly 1 (St.fTremor)) hcI ?_; clear B; clear hcI; intro w9 B hk9; clear hk9)
  refine (mk_both (Xr X w'.heap.size) base b _ B.bl B.x 1).mono ?_
  rintro _ w8 ⟨cJx, rfl, hcJx, hB⟩
  replace B := B.call hB; clear hB
  go_wp2_with fail
  refine (mk_wholly (Xr X w'.heap.size) base b _ B.bl B.x 1 _ (St.fBoth 1) hcJx (by decide) (by decide)).mono ?_
  rintro _ w8 ⟨cJ, rfl, hcJ, hB⟩
  replace B := B.call hB; replace hcJx := hcJx.below hB; clear hB
  clear hcJx
  go_wp2_with (refine wpList_ins rfl _ _ _ 51 (Or.inl rfl) 5 77 Tryz.underlying51 Tryz.underlying5 rfl B 74 rfl _ rfl (St.fWholly 1 (St.fBoth 1)) hcJ ?_; clear B; clear hcJ; intro w9 B hk9; clear hk9)
  refine (mk_wholly (Xr X w'.heap.size) base b _ B.bl B.x 1 _ (St.fVibratoSlide) (ev109 _ _ _ _) (by decide) (by decide)).mono ?_
  rintro _ w8 ⟨cK, rfl, hcK, hB⟩
  replace B := B.call hB; clear hB
  go_wp2_with (refine wpList_ins rfl _ _ _ 51 (Or.inl rfl) 5 77 Tryz.underlying51 Tryz.underlying5 rfl B 75 rfl _ rfl (St.fWholly 1 (St.fVibratoSlide)) hcK ?_; clear B; clear hcK; intro w9 B hk9; clear hk9)
  refine (mk_wholly (Xr X w'.heap.size) base b _ B.bl B.x 1 _ (St.fToneSlide) (ev110 _ _ _ _) (by decide) (by decide)).mono ?_
  rintro _ w8 ⟨cL, rfl, hcL, hB⟩
  replace B := B.call hB; clear hB
  go_wp2_with (refine wpList_ins rfl _ _ _ 51 (Or.inl rfl) 5 77 Tryz.underlying51 Tryz.underlying5 rfl B 76 rfl _ rfl (St.fWholly 1 (St.fToneSlide)) hcL ?_; clear B; clear hcL; intro w9 B hk9; clear hk9)
  refine (mk_wholly (Xr X w'.heap.size) base b _ B.bl B.x 4 _ (St.fOffset) (ev111 _ _ _ _) (by decide) (by decide)).mono ?_
  rintro _ w8 ⟨cO, rfl, hcO, hB⟩
  replace B := B.call hB; clear hB
  go_wp2_with (refine wpList_ins rfl _ _ _ 51 (Or.inl rfl) 5 77 Tryz.underlying51 Tryz.underlying5 rfl B 79 rfl _ rfl (St.fWholly 4 (St.fOffset)) hcO ?_; clear B; clear hcO; intro w9 B hk9; clear hk9)
  refine (mk_wholly (Xr X w'.heap.size) base b _ B.bl B.x 1 _ (St.fRetrig) (ev112 _ _ _ _) (by decide) (by decide)).mono ?_
  rintro _ w8 ⟨cQ, rfl, hcQ, hB⟩
  replace B := B.call hB; clear hB
  go_wp2_with (refine wpList_ins rfl _ _ _ 51 (Or.inl rfl) 5 77 Tryz.underlying51 Tryz.underlying5 rfl B 81 rfl _ rfl (St.fWholly 1 (St.fRetrig)) hcQ ?_; clear B; clear hcQ; intro w9 B hk9; clear hk9)
  refine (mk_both (Xr X w'.heap.size) base b _ B.bl B.x 11).mono ?_
  rintro _ w8 ⟨cRx, rfl, hcRx, hB⟩
  replace B := B.call hB; clear hB
  go_wp2_with fail
  refine (mk_wholly (Xr X w'.heap.size) base b _ B.bl B.x 1 _ (St.fBoth 11) hcRx (by decide) (by decide)).mono ?_
  rintro _ w8 ⟨cR, rfl, hcR, hB⟩
  replace B := B.call hB; replace hcRx := hcRx.below hB; clear hB
  clear hcRx
  go_wp2_with (refine wpList_ins rfl _ _ _ 51 (Or.inl rfl) 5 77 Tryz.underlying51 Tryz.underlying5 rfl B 82 rfl _ rfl (St.fWholly 1 (St.fBoth 11)) hcR ?_; clear B; clear hcR; intro w9 B hk9; clear hk9)
  have hM2 := hM1.fresh B.below B.fresh
  have hx2 : ¬ (Xr X w'.heap.size) r := fun h => h.elim hx1 (fun e => by have := hM1.lt; omega)
  have hr2 := hr1
  refine (mk_byHigh (Xr X w'.heap.size) base b _ B.bl B.x r hr2 hx2 _ hM2).mono ?_
  rintro _ w8 ⟨cS0, rfl, hcS0, hB⟩
  replace B := B.call hB; clear hB hM2 hx2 hr2
  go_wp2_with fail
  refine (mk_wholly (Xr X w'.heap.size) base b _ B.bl B.x 1 _ (St.fByHigh (tScreamS)) hcS0 (by decide) (by decide)).mono ?_
  rintro _ w8 ⟨cS, rfl, hcS, hB⟩
  replace B := B.call hB; replace hcS0 := hcS0.below hB; clear hB
  clear hcS0
  go_wp2_with (first | (refine wpList_ins rfl _ _ _ 51 (Or.inl rfl) 5 77 Tryz.underlying51 Tryz.underlying5 rfl B 83 rfl _ rfl (St.fWholly 1 (St.fByHigh (tScreamS))) hcS ?_; clear B; clear hcS; intro w9 B hk9; clear hk9) | (refine wpList_ins rfl _ _ _ 51 (Or.inl rfl) 5 77 Tryz.underlying51 Tryz.underlying5 rfl B 84 rfl _ rfl (St.fTempoFrom32) ((ev113 _ _ _ _)) ?_; clear B; intro w9 B hk9; clear hk9))
  refine (mk_both (Xr X w'.heap.size) base b _ B.bl B.x 10).mono ?_
  rintro _ w8 ⟨cUx, rfl, hcUx, hB⟩
  replace B := B.call hB; clear hB
  go_wp2_with fail
  refine (mk_halved (Xr X w'.heap.size) base b _ B.bl B.x 3 _ (St.fBoth 10) hcUx (by decide) (by decide)).mono ?_
  rintro _ w8 ⟨cU, rfl, hcU, hB⟩
  replace B := B.call hB; replace hcUx := hcUx.below hB; clear hB
  clear hcUx
  go_wp2_with (refine wpList_ins rfl _ _ _ 51 (Or.inl rfl) 5 77 Tryz.underlying51 Tryz.underlying5 rfl B 85 rfl _ rfl (St.fHalved 3 (St.fBoth 10)) hcU ?_; clear B; clear hcU; intro w9 B hk9; clear hk9)
  refine (mk_doubled (Xr X w'.heap.size) base b _ B.bl B.x 28 64).mono ?_
  rintro _ w8 ⟨cV, rfl, hcV, hB⟩
  replace B := B.call hB; clear hB
  go_wp2_with (refine wpList_ins rfl _ _ _ 51 (Or.inl rfl) 5 77 Tryz.underlying51 Tryz.underlying5 rfl B 86 rfl _ rfl (St.fDoubled 28 64) hcV ?_; clear B; clear hcV; intro w9 B hk9; clear hk9)
  refine (mk_doubled (Xr X w'.heap.size) base b _ B.bl B.x 16 128).mono ?_
  rintro _ w8 ⟨cX, rfl, hcX, hB⟩
  replace B := B.call hB; clear hB
  go_wp2_with (refine wpList_ins rfl _ _ _ 51 (Or.inl rfl) 5 77 Tryz.underlying51 Tryz.underlying5 rfl B 88 rfl _ rfl (St.fDoubled 16 128) hcX ?_; clear B; clear hcX; intro w9 B hk9; clear hk9)
  go_ret
  exact ⟨_, rfl, B.under hW hb hX⟩

end Go.Proofs.YtappnglfmidjoaaGreat.D
