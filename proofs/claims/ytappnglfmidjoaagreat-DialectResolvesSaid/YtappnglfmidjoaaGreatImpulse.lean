/- The effects of impulse. -/
import Derived.Test.YtappnglfmidjoaaGreatFast
set_option linter.unusedVariables false
set_option linter.unusedSimpArgs false
namespace Go.Proofs.YtappnglfmidjoaaGreat.D
open Go Go.RowKit
open Go.Proofs.YtappnglfmidjoaaGreat.DB
def kIm : Int → Option Int := mset (mset (mset (mset (mset (fun _ => none) 69 5) 70 5) 73 6) 74 7) 81 10
def tIm : Int → Option (St → St) := mset (mset (mset (mset (mset (fun _ => none) 69 (St.fDown)) 70 (St.fUp)) 73 (St.fTremor)) 74 (St.fBoth 1)) 81 (St.fRetrig)
theorem kIm_spec {c k : Int} (h : kIm c = some k) : c = 69 ∧ k = 5 ∨ c = 70 ∧ k = 5 ∨ c = 73 ∧ k = 6 ∨ c = 74 ∧ k = 7 ∨ c = 81 ∧ k = 10 := by
  unfold kIm mset at h
  repeat' (first | (split at h) | cases h)
  all_goals simp_all
def gIm : Int → Option (St → St) := fun c => match kIm c with | some k => (tIm c).map (St.fWholly k) | none => none
theorem gIm_spec {c k : Int} (h : kIm c = some k) : (0 ≤ k ∧ k < 24) ∧ ∃ E, tIm c = some E ∧ gIm c = some (St.fWholly k E) := by
  have h' := kIm_spec h
  unfold gIm
  rw [h]
  rcases h' with ⟨rfl, rfl⟩ | ⟨rfl, rfl⟩ | ⟨rfl, rfl⟩ | ⟨rfl, rfl⟩ | ⟨rfl, rfl⟩ <;> exact ⟨by omega, _, rfl, rfl⟩
def tI1 : Int → Option (St → St) := tOverAll kIm gIm tScream
def tImpulse : Int → Option (St → St) := mset (mset (mset (mset (mset (mset (mset (mset (mset (mset (mset (mset (tI1) 67 (St.fParam 33)) 77 (St.fUpTo 64 (St.fParam 30))) 78 (St.fWholly 8 (St.fBoth 31))) 80 (St.fWholly 9 (St.fPanSlide))) 82 (St.fHalved 11 (St.fBoth 11))) 83 (St.fWholly 12 (St.fByHigh (tSpecial)))) 84 (St.fWholly 13 (St.fTempo))) 86 (St.fUpTo 128 (St.fParam 28))) 87 (St.fWholly 14 (St.fBoth 29))) 88 (St.fPan)) 89 (St.fHalved 15 (St.fBoth 46))) 90 (St.fFilter)
set_option maxRecDepth 100000 in
set_option maxHeartbeats 2000000 in
theorem mk_impulse (X : Nat → Prop) (base b : Nat) (w : World) (hb : b < w.heap.size) (hX : ∀ i, X i → i < w.heap.size) :
    Calls Tryz.prog 81 #[] w (MkMap .u8 X base b tImpulse w) := by
  have hmm := @run_makeMap Tryz.prog
  go_enter Tryz.func81, Tryz.ntmps81
  go_wp2_with fail
  refine (mk_scream X base b _ hb hX).mono ?_
  rintro _ w1 ⟨r, rfl, B⟩
  have I := MapG.made .u8 IntIs w1
  have hW : Below w1.heap.size w1 (w1.alloc (.map #[] 0)) := (Below.refl _ _).alloc (Nat.le_refl _) _
  go_wp2_with (first | (refine wpList_insert rfl _ _ _ 91 (Or.inl rfl) 5 3 Tryz.underlying91 Tryz.underlying5 rfl I 69 rfl _ rfl 5 rfl ?_; clear I; intro wL I hg; replace hW := hW.grown hg hW.size (fun k e => by cases e; exact Nat.le_refl _); clear hg) | (refine wpList_insert rfl _ _ _ 91 (Or.inl rfl) 5 3 Tryz.underlying91 Tryz.underlying5 rfl I 70 rfl _ rfl 5 rfl ?_; clear I; intro wL I hg; replace hW := hW.grown hg hW.size (fun k e => by cases e; exact Nat.le_refl _); clear hg) | (refine wpList_insert rfl _ _ _ 91 (Or.inl rfl) 5 3 Tryz.underlying91 Tryz.underlying5 rfl I 73 rfl _ rfl 6 rfl ?_; clear I; intro wL I hg; replace hW := hW.grown hg hW.size (fun k e => by cases e; exact Nat.le_refl _); clear hg) | (refine wpList_insert rfl _ _ _ 91 (Or.inl rfl) 5 3 Tryz.underlying91 Tryz.underlying5 rfl I 74 rfl _ rfl 7 rfl ?_; clear I; intro wL I hg; replace hW := hW.grown hg hW.size (fun k e => by cases e; exact Nat.le_refl _); clear hg) | (refine wpList_insert rfl _ _ _ 91 (Or.inl rfl) 5 3 Tryz.underlying91 Tryz.underlying5 rfl I 81 rfl _ rfl 10 rfl ?_; clear I; intro wL I hg; replace hW := hW.grown hg hW.size (fun k e => by cases e; exact Nat.le_refl _); clear hg) | (refine wpList_rangeG rfl _ 91 rfl 5 3 Tryz.underlying91 rfl I ?_; intro w10 R hB10 hlt10; have hmi := I.lt; clear I; replace hW := hW.trans (hB10.mono hW.size); clear hB10))
  have hgt : w1.heap.size < wL.heap.size := hmi
  have hM := B.map.fresh hW (Nat.le_of_lt hgt)
  have hrm : r ≠ w1.heap.size := by have := B.map.lt; omega
  have hri : r ≠ wL.heap.size := by have := B.map.lt; omega
  have hbel : Below w.heap.size w w10 := B.below.trans (hW.mono B.below.size)
  have hfr : w.heap.size ≤ r := B.fresh
  have hbx : b < w10.heap.size := by have := hbel.size; omega
  have hmi' : w1.heap.size ≠ wL.heap.size := by omega
  have hitw : w.heap.size ≤ wL.heap.size := by have := B.below.size; omega
  clear hgt hmi hlt10 hW B
  generalize wL.heap.size = it at *
  generalize w1.heap.size = m at *
  go_frame
  go_loopw [] (fun wr => ∃ S, Rng .u8 IntIs wr m it kIm S ∧ Below w.heap.size w wr ∧ MapE .u8 (Xr (Xr X r) it) base b wr r (tOver kIm gIm tScream S)) (fun wr => rleft wr m it)
  case atStart => exact ⟨fun _ => false, R, hbel, hM.eq (tOver_none _ _ _).symm⟩
  case round =>
    clear R hbel hM hbx
    obtain ⟨S, R, hbel, hM⟩ := hrel
    go_wp2_with (first | (refine wpList_nextD rfl _ rfl rfl R hmi' ?_; rintro u wn (⟨rfl, rfl, hall⟩ | ⟨c, k, v, rfl, hk, hS, rfl, R1, hg1, hlt1, hen⟩)) | (refine wpList_ins rfl _ _ _ 51 (Or.inl rfl) 5 77 Tryz.underlying51 Tryz.underlying5 rfl (Bld.made .u8 (Xr (Xr X r) it) base (Nat.lt_of_lt_of_le hb (hbel.grown hg1 hbel.size (fun k e => by cases e; exact hitw)).size) (xr2_lt hX (hbel.grown hg1 hbel.size (fun k e => by cases e; exact hitw)).size (grown_iter hM hg1 hri).lt R1.lt.2)) 69 rfl _ rfl (St.fDown) (ev106 _ _ _ _) ?_; intro w9 B hk9; clear hk9) | (refine wpList_ins rfl _ _ _ 51 (Or.inl rfl) 5 77 Tryz.underlying51 Tryz.underlying5 rfl B 70 rfl _ rfl (St.fUp) ((ev107 _ _ _ _)) ?_; clear B; intro w9 B hk9; clear hk9) | (refine wpList_ins rfl _ _ _ 51 (Or.inl rfl) 5 77 Tryz.underlying51 Tryz.underlying5 rfl B 73 rfl _ rfl (St.fTremor) ((ev108 _ _ _ _)) ?_; clear B; intro w9 B hk9; clear hk9) | (go_at_call 85; refine (mk_both (Xr (Xr (Xr X r) it) wn.heap.size) base b _ B.bl B.x 1).mono ?_; rintro _ w8 ⟨v1, rfl, hb1, hB⟩; replace B := B.call hB; clear hB) | (refine wpList_ins rfl _ _ _ 51 (Or.inl rfl) 5 77 Tryz.underlying51 Tryz.underlying5 rfl B 74 rfl _ rfl (St.fBoth 1) hb1 ?_; clear B; intro w9 B hk9; clear hk9) | (refine wpList_ins rfl _ _ _ 51 (Or.inl rfl) 5 77 Tryz.underlying51 Tryz.underlying5 rfl B 81 rfl _ rfl (St.fRetrig) ((ev112 _ _ _ _)) ?_; clear B; intro w9 B hk9; clear hk9) | (refine wpList_lookupG rfl _ _ 51 rfl 5 77 Tryz.underlying51 Tryz.underlying5 .nilFunc zeroEff rfl B.map c rfl ?_; intro vv hvv; obtain ⟨⟨h0, h24⟩, E, hE, hG⟩ := gIm_spec hk; have hv1 := lk_eff hvv hE; have HG := Lib.hid hG; have HK := Lib.hid hk; have HL := Lib.hid hlt1; clear hvv hE hG hk hlt1 hS) | (go_at_call 87; refine (mk_wholly (Xr (Xr (Xr X r) it) wn.heap.size) base b _ B.bl B.x k vv E hv1 h0 h24).mono ?_; clear hv1; rintro _ w8 ⟨v2, rfl, hv2, hB⟩; have hbel2 := B.below.trans (hB.mono B.below.size); have hM2 := (grown_iter hM hg1 hri).below hbel2; have hv3 := hv2.mono (X' := Xr (Xr X r) it) (fun _ h => .inl h); clear B hB hv2) | (refine wpList_insert rfl _ _ _ 51 (Or.inr rfl) 5 77 Tryz.underlying51 Tryz.underlying5 rfl hM2 c rfl _ rfl _ hv3 ?_; intro w7 hM3 hg3))
    · have B : Bld .u8 X base b w wn r tI1 := ⟨hbel, (hM.mono (fun _ h => .inl h)).eq (tOver_all hall), hfr, hb, hX⟩
      clear hM hbel R hall hrm hri hmi' hitw hfr
      skip
      refine (mk_param (Xr X r) base b _ B.bl B.x 33).mono ?_
      rintro _ w8 ⟨aC, rfl, haC, hB⟩
      replace B := B.call hB; clear hB
      go_wp2_with (refine wpList_ins rfl _ _ _ 51 (Or.inr rfl) 5 77 Tryz.underlying51 Tryz.underlying5 rfl B 67 rfl _ rfl (St.fParam 33) haC ?_; clear B; clear haC; intro w9 B hk9; clear hk9)
      refine (mk_param (Xr X r) base b _ B.bl B.x 30).mono ?_
      rintro _ w8 ⟨aMx, rfl, haMx, hB⟩
      replace B := B.call hB; clear hB
      go_wp2_with fail
      refine (mk_upTo (Xr X r) base b _ B.bl B.x 64 _ (St.fParam 30) haMx).mono ?_
      rintro _ w8 ⟨aM, rfl, haM, hB⟩
      replace B := B.call hB; replace haMx := haMx.below hB; clear hB
      clear haMx
      go_wp2_with (refine wpList_ins rfl _ _ _ 51 (Or.inr rfl) 5 77 Tryz.underlying51 Tryz.underlying5 rfl B 77 rfl _ rfl (St.fUpTo 64 (St.fParam 30)) haM ?_; clear B; clear haM; intro w9 B hk9; clear hk9)
      refine (mk_both (Xr X r) base b _ B.bl B.x 31).mono ?_
      rintro _ w8 ⟨aNx, rfl, haNx, hB⟩
      replace B := B.call hB; clear hB
      go_wp2_with fail
      refine (mk_wholly (Xr X r) base b _ B.bl B.x 8 _ (St.fBoth 31) haNx (by decide) (by decide)).mono ?_
      rintro _ w8 ⟨aN, rfl, haN, hB⟩
      replace B := B.call hB; replace haNx := haNx.below hB; clear hB
      clear haNx
      go_wp2_with (refine wpList_ins rfl _ _ _ 51 (Or.inr rfl) 5 77 Tryz.underlying51 Tryz.underlying5 rfl B 78 rfl _ rfl (St.fWholly 8 (St.fBoth 31)) haN ?_; clear B; clear haN; intro w9 B hk9; clear hk9)
      refine (mk_wholly (Xr X r) base b _ B.bl B.x 9 _ (St.fPanSlide) (ev121 _ _ _ _) (by decide) (by decide)).mono ?_
      rintro _ w8 ⟨aP, rfl, haP, hB⟩
      replace B := B.call hB; clear hB
      go_wp2_with (refine wpList_ins rfl _ _ _ 51 (Or.inr rfl) 5 77 Tryz.underlying51 Tryz.underlying5 rfl B 80 rfl _ rfl (St.fWholly 9 (St.fPanSlide)) haP ?_; clear B; clear haP; intro w9 B hk9; clear hk9)
      refine (mk_both (Xr X r) base b _ B.bl B.x 11).mono ?_
      rintro _ w8 ⟨aRx, rfl, haRx, hB⟩
      replace B := B.call hB; clear hB
      go_wp2_with fail
      refine (mk_halved (Xr X r) base b _ B.bl B.x 11 _ (St.fBoth 11) haRx (by decide) (by decide)).mono ?_
      rintro _ w8 ⟨aR, rfl, haR, hB⟩
      replace B := B.call hB; replace haRx := haRx.below hB; clear hB
      clear haRx
      go_wp2_with (refine wpList_ins rfl _ _ _ 51 (Or.inr rfl) 5 77 Tryz.underlying51 Tryz.underlying5 rfl B 82 rfl _ rfl (St.fHalved 11 (St.fBoth 11)) haR ?_; clear B; clear haR; intro w9 B hk9; clear hk9)
      refine (mk_special (Xr X r) base b _ B.bl B.x).mono ?_
      rintro _ w8 ⟨r2, rfl, B2⟩
      replace B := B.call B2.below; skip
      have hr2 : r2 ≠ b := by have := B2.fresh; have := B2.hb; omega
      have hx2 : ¬ (Xr X r) r2 := fun h => by have := B2.hX _ h; have := B2.fresh; omega
      have hM2 : MapE .i64 (Xr X r) base b w8 r2 (tSpecial) := B2.map.mono (fun _ h => .inl h)
      clear B2
      go_wp2_with fail
      refine (mk_byHigh (Xr X r) base b _ B.bl B.x r2 hr2 hx2 _ hM2).mono ?_
      rintro _ w8 ⟨aS0, rfl, haS0, hB⟩
      replace B := B.call hB; clear hB hM2 hx2 hr2
      go_wp2_with fail
      refine (mk_wholly (Xr X r) base b _ B.bl B.x 12 _ (St.fByHigh (tSpecial)) haS0 (by decide) (by decide)).mono ?_
      rintro _ w8 ⟨aS, rfl, haS, hB⟩
      replace B := B.call hB; replace haS0 := haS0.below hB; clear hB
      clear haS0
      go_wp2_with (refine wpList_ins rfl _ _ _ 51 (Or.inr rfl) 5 77 Tryz.underlying51 Tryz.underlying5 rfl B 83 rfl _ rfl (St.fWholly 12 (St.fByHigh (tSpecial))) haS ?_; clear B; clear haS; intro w9 B hk9; clear hk9)
      refine (mk_wholly (Xr X r) base b _ B.bl B.x 13 _ (St.fTempo) (ev123 _ _ _ _) (by decide) (by decide)).mono ?_
      rintro _ w8 ⟨aT, rfl, haT, hB⟩
      replace B := B.call hB; clear hB
      go_wp2_with (refine wpList_ins rfl _ _ _ 51 (Or.inr rfl) 5 77 Tryz.underlying51 Tryz.underlying5 rfl B 84 rfl _ rfl (St.fWholly 13 (St.fTempo)) haT ?_; clear B; clear haT; intro w9 B hk9; clear hk9)
      refine (mk_param (Xr X r) base b _ B.bl B.x 28).mono ?_
      rintro _ w8 ⟨aVx, rfl, haVx, hB⟩
      replace B := B.call hB; clear hB
      go_wp2_with fail
      refine (mk_upTo (Xr X r) base b _ B.bl B.x 128 _ (St.fParam 28) haVx).mono ?_
      rintro _ w8 ⟨aV, rfl, haV, hB⟩
      replace B := B.call hB; replace haVx := haVx.below hB; clear hB
      clear haVx
      go_wp2_with (refine wpList_ins rfl _ _ _ 51 (Or.inr rfl) 5 77 Tryz.underlying51 Tryz.underlying5 rfl B 86 rfl _ rfl (St.fUpTo 128 (St.fParam 28)) haV ?_; clear B; clear haV; intro w9 B hk9; clear hk9)
      refine (mk_both (Xr X r) base b _ B.bl B.x 29).mono ?_
      rintro _ w8 ⟨aWx, rfl, haWx, hB⟩
      replace B := B.call hB; clear hB
      go_wp2_with fail
      refine (mk_wholly (Xr X r) base b _ B.bl B.x 14 _ (St.fBoth 29) haWx (by decide) (by decide)).mono ?_
      rintro _ w8 ⟨aW, rfl, haW, hB⟩
      replace B := B.call hB; replace haWx := haWx.below hB; clear hB
      clear haWx
      go_wp2_with (first | (refine wpList_ins rfl _ _ _ 51 (Or.inr rfl) 5 77 Tryz.underlying51 Tryz.underlying5 rfl B 87 rfl _ rfl (St.fWholly 14 (St.fBoth 29)) haW ?_; clear B; clear haW; intro w9 B hk9; clear hk9) | (refine wpList_ins rfl _ _ _ 51 (Or.inr rfl) 5 77 Tryz.underlying51 Tryz.underlying5 rfl B 88 rfl _ rfl (St.fPan) ((ev124 _ _ _ _)) ?_; clear B; intro w9 B hk9; clear hk9))
      refine (mk_both (Xr X r) base b _ B.bl B.x 46).mono ?_
      rintro _ w8 ⟨aYx, rfl, haYx, hB⟩
      replace B := B.call hB; clear hB
      go_wp2_with fail
      refine (mk_halved (Xr X r) base b _ B.bl B.x 15 _ (St.fBoth 46) haYx (by decide) (by decide)).mono ?_
      rintro _ w8 ⟨aY, rfl, haY, hB⟩
      replace B := B.call hB; replace haYx := haYx.below hB; clear hB
      clear haYx
      go_wp2_with (first | (refine wpList_ins rfl _ _ _ 51 (Or.inr rfl) 5 77 Tryz.underlying51 Tryz.underlying5 rfl B 89 rfl _ rfl (St.fHalved 15 (St.fBoth 46)) haY ?_; clear B; clear haY; intro w9 B hk9; clear hk9) | (refine wpList_ins rfl _ _ _ 51 (Or.inr rfl) 5 77 Tryz.underlying51 Tryz.underlying5 rfl B 90 rfl _ rfl (St.fFilter) ((ev125 _ _ _ _)) ?_; clear B; intro w9 B hk9; clear hk9))
      go_ret
      exact ⟨_, rfl, B⟩
    · have hbel9 : Below w.heap.size w wn := hbel.grown hg1 hbel.size (fun k e => by cases e; exact hitw)
      go_roundw
      case rel =>
        have q1 := R1.below hbel2
        have q2 := q1.1.grown hg3 hrm hri
        have HR : ∃ S, Rng .u8 IntIs w7 m it kIm S ∧ Below w.heap.size w w7 ∧ MapE .u8 (Xr (Xr X r) it) base b w7 r (tOver kIm gIm tScream S) := ⟨_, q2.1, (hbel9.trans (hbel2.mono hbel9.size)).grown hg3 (Nat.le_trans hbel9.size hbel2.size) (fun k e => by cases e; exact hfr), (hM3.imp rfl (fun v y hv => hv.kpx (grown_kpx hg3 (.inl (.inr rfl))))).eq (tOver_set HK.out HG.out)⟩
        exact ⟨_, _, _, _, _, _, _, _, _, _, _, _, _, _, _, _, HR, rfl⟩
      case measure =>
        have q1 := R1.below hbel2
        have q2 := q1.1.grown hg3 hrm hri
        rw [q2.2, q1.2]
        exact HL.out

end Go.Proofs.YtappnglfmidjoaaGreat.D
