/- The effects of fast. -/
import Derived.Test.YtappnglfmidjoaaGreatRange
import Derived.Maps.RangeWalk
set_option linter.unusedVariables false
set_option linter.unusedSimpArgs false
namespace Go.Proofs.YtappnglfmidjoaaGreat.D
open Go Go.RowKit
open Go.Proofs.YtappnglfmidjoaaGreat.DB
def k91 : Int → Option Int := mset (mset (mset (mset (mset (fun _ => none) 49 5) 50 6) 53 7) 54 7) 65 7
theorem k91_spec {c k : Int} (h : k91 c = some k) : c = 49 ∧ k = 5 ∨ c = 50 ∧ k = 6 ∨ c = 53 ∧ k = 7 ∨ c = 54 ∧ k = 7 ∨ c = 65 ∧ k = 7 := by
  unfold k91 mset at h
  repeat' (first | (split at h) | cases h)
  all_goals simp_all
def gFast : Int → Option (St → St) := fun c => match k91 c with | some k => (tFour c).map (St.fWholly k) | none => none
theorem gFast_spec {c k : Int} (h : k91 c = some k) : (0 ≤ k ∧ k < 24) ∧ ∃ E, tFour c = some E ∧ gFast c = some (St.fWholly k E) := by
  have h' := k91_spec h
  unfold gFast
  rw [h]
  rcases h' with ⟨rfl, rfl⟩ | ⟨rfl, rfl⟩ | ⟨rfl, rfl⟩ | ⟨rfl, rfl⟩ | ⟨rfl, rfl⟩ <;> exact ⟨by omega, _, rfl, rfl⟩
theorem store_new (P : Program) (w : World) (x : Value) (ty : Nat) (fn : Fn) (first captured : Array Value) : (store ⟨w.heap.size, 0, none⟩ (.func fn first captured)).run P (w.alloc (.cells #[x] ty)) = .ok () (w.alloc (.cells #[.func fn first captured] ty)) := by
  rw [run_store _ _ _ _ _ rfl]
  simp [go_sem]
abbrev IntIs (v : Value) (n : Int) : Prop := v = .int .i64 n
theorem xr2_lt {X : Nat → Prop} {r it : Nat} {w w9 : World} (hX : ∀ i, X i → i < w.heap.size) (hs : w.heap.size ≤ w9.heap.size) (hr : r < w9.heap.size) (hi : it < w9.heap.size) : ∀ i, Xr (Xr X r) it i → i < w9.heap.size := by
  rintro i ((h | rfl) | rfl)
  · exact Nat.lt_of_lt_of_le (hX i h) hs
  · exact hr
  · exact hi
theorem lk_eff {β : Type} {M : Int → Option β} {Rv : Value → β → Prop} {c : Int} {v z : Value} {E : β} (h : (M c = none ∧ v = z) ∨ ∃ y, M c = some y ∧ Rv v y) (hE : M c = some E) : Rv v E := by
  rcases h with ⟨h1, _⟩ | ⟨y, h1, h2⟩
  · rw [h1] at hE; cases hE
  · rw [h1] at hE; cases hE; exact h2
def k65 : Int → Option Int := mset (mset (mset (mset (fun _ => none) 1 8) 2 9) 10 10) 11 11
theorem k65_spec {c k : Int} (h : k65 c = some k) : c = 1 ∧ k = 8 ∨ c = 2 ∧ k = 9 ∨ c = 10 ∧ k = 10 ∨ c = 11 ∧ k = 11 := by
  unfold k65 mset at h
  repeat' (first | (split at h) | cases h)
  all_goals simp_all
def gLow : Int → Option (St → St) := fun c => match k65 c with | some k => (tExtended c).map (St.fLowly k) | none => none
theorem gLow_spec {c k : Int} (h : k65 c = some k) : (0 ≤ k ∧ k < 24) ∧ ∃ E, tExtended c = some E ∧ gLow c = some (St.fLowly k E) := by
  have h' := k65_spec h
  unfold gLow
  rw [h]
  rcases h' with ⟨rfl, rfl⟩ | ⟨rfl, rfl⟩ | ⟨rfl, rfl⟩ | ⟨rfl, rfl⟩ <;> exact ⟨by omega, _, rfl, rfl⟩
def tF1 : Int → Option (St → St) := tOverAll k91 gFast tFour
def tFastE : Int → Option (St → St) := tOverAll k65 gLow tExtended
theorem eff_lowly {X : Nat → Prop} {base b n1 n2 : Nat} {w : World} {k : Int} {v : Value} {E : St → St} (h0 : 0 ≤ k) (hk : k < 24) (b1 : Box 50 w b n1 (.int .i64 k)) (b2 : Box 50 w b n2 v) (hE : Eff X base b w v E) (x1 : ¬ X n1) (x2 : ¬ X n2) :
    Eff X base b w (.func (.func 115) #[] #[.pointer (some ⟨n1, 0, none⟩), .pointer (some ⟨n2, 0, none⟩)]) (St.fLowly k E) :=
  ⟨115, _, rfl, run_enter Tryz.func115 (by kernel_rfl) (by kernel_rfl), fun w' S hK hA hl => lowly1 base b w' S _ _ k h0 hk X _ E (hE.kpx hK) (box_kpx b1 x1 hK) (box_kpx b2 x2 hK) hl hA⟩
theorem eff_lowly2 {X : Nat → Prop} {base b : Nat} {wn : World} {k : Int} {v : Value} {E : St → St} (h0 : 0 ≤ k) (hk : k < 24) (hb : b < wn.heap.size) (hX : ∀ i, X i → i < wn.heap.size) (hE : Eff X base b (wn.alloc (.cells #[.int .i64 k] 3)) v E) :
    Eff X base b ((wn.alloc (.cells #[.int .i64 k] 3)).alloc (.cells #[v] 77)) (.func (.func 115) #[] #[.pointer (some ⟨wn.heap.size, 0, none⟩), .pointer (some ⟨wn.heap.size + 1, 0, none⟩)]) (St.fLowly k E) := by
  have hs : (wn.alloc (.cells #[.int .i64 k] 3)).heap.size = wn.heap.size + 1 := World.size_alloc _ _
  have hB : Below (wn.alloc (.cells #[.int .i64 k] 3)).heap.size (wn.alloc (.cells #[.int .i64 k] 3)) ((wn.alloc (.cells #[.int .i64 k] 3)).alloc (.cells #[v] 77)) := (Below.refl _ _).alloc (Nat.le_refl _) _
  have b1 := (Box.new (q := 50) wn b hb (.int .i64 k) 3 (by decide)).below hB
  have b2 := Box.new (q := 50) (wn.alloc (.cells #[.int .i64 k] 3)) b (by omega) v 77 (by decide)
  rw [hs] at b2
  exact eff_lowly h0 hk b1 b2 (hE.below hB) (fun h => absurd (hX _ h) (Nat.lt_irrefl _)) (fun h => by have := hX _ h; omega)
def tFast : Int → Option (St → St) := mset (mset (mset (mset (mset (mset (mset (mset (mset (tF1) 69 (St.fByHigh (tFastE))) 71 (St.fDoubled 28 64)) 72 (St.fWholly 12 (St.fBoth 29))) 75 (St.fParam 23)) 76 (St.fParam 39)) 80 (St.fWholly 13 (St.fBoth 17))) 82 (St.fHalved 14 (St.fRetrig))) 84 (St.fWholly 15 (St.fTremor))) 88 (St.fByHigh (mset (mset (fun _ => none) 1 (St.fExtra 16 6)) 2 (St.fExtra 17 7)))
set_option maxRecDepth 100000 in
set_option maxHeartbeats 2000000 in
theorem mk_fast (X : Nat → Prop) (base b : Nat) (w : World) (hb : b < w.heap.size) (hX : ∀ i, X i → i < w.heap.size) :
    Calls Tryz.prog 80 #[] w (MkMap .u8 X base b tFast w) := by
  have hmm := @run_makeMap Tryz.prog
  go_enter Tryz.func80, Tryz.ntmps80
  go_wp2_with fail
  refine (mk_four X base b _ hb hX).mono ?_
  rintro _ w1 ⟨r, rfl, B⟩
  have I := MapG.made .u8 IntIs w1
  have hW : Below w1.heap.size w1 (w1.alloc (.map #[] 0)) := (Below.refl _ _).alloc (Nat.le_refl _) _
  go_wp2_with (first | (refine wpList_insert rfl _ _ _ 91 (Or.inl rfl) 5 3 Tryz.underlying91 Tryz.underlying5 rfl I 49 rfl _ rfl 5 rfl ?_; clear I; intro wL I hg; replace hW := hW.grown hg hW.size (fun k e => by cases e; exact Nat.le_refl _); clear hg) | (refine wpList_insert rfl _ _ _ 91 (Or.inl rfl) 5 3 Tryz.underlying91 Tryz.underlying5 rfl I 50 rfl _ rfl 6 rfl ?_; clear I; intro wL I hg; replace hW := hW.grown hg hW.size (fun k e => by cases e; exact Nat.le_refl _); clear hg) | (refine wpList_insert rfl _ _ _ 91 (Or.inl rfl) 5 3 Tryz.underlying91 Tryz.underlying5 rfl I 53 rfl _ rfl 7 rfl ?_; clear I; intro wL I hg; replace hW := hW.grown hg hW.size (fun k e => by cases e; exact Nat.le_refl _); clear hg) | (refine wpList_insert rfl _ _ _ 91 (Or.inl rfl) 5 3 Tryz.underlying91 Tryz.underlying5 rfl I 54 rfl _ rfl 7 rfl ?_; clear I; intro wL I hg; replace hW := hW.grown hg hW.size (fun k e => by cases e; exact Nat.le_refl _); clear hg) | (refine wpList_insert rfl _ _ _ 91 (Or.inl rfl) 5 3 Tryz.underlying91 Tryz.underlying5 rfl I 65 rfl _ rfl 7 rfl ?_; clear I; intro wL I hg; replace hW := hW.grown hg hW.size (fun k e => by cases e; exact Nat.le_refl _); clear hg) | (refine wpList_rangeG rfl _ 91 rfl 5 3 Tryz.underlying91 rfl I ?_; intro w10 R hB10 hlt10; have hmi := I.lt; clear I; replace hW := hW.trans (hB10.mono hW.size); clear hB10))
  have hgt : w1.heap.size < wL.heap.size := hmi
  have hM := B.map.fresh hW (Nat.le_of_lt hgt)
  have hrm : r ≠ w1.heap.size := by have := B.map.lt; omega
  have hri : r ≠ wL.heap.size := by have := B.map.lt; omega
  have hbel : Below w.heap.size w w10 := B.below.trans (hW.mono B.below.size)
  have hfr : w.heap.size ≤ r := B.fresh
  have hbx : b < w10.heap.size := by have := hbel.size; omega
  have hmi' : w1.heap.size ≠ wL.heap.size := by omega
  have hitw : w.heap.size ≤ wL.heap.size := by have := B.below.size; omega
  clear hgt hmi hlt10 hW B
  generalize wL.heap.size = it at *
  generalize w1.heap.size = m at *
  go_frame
  go_loopw [] (fun wr => ∃ S, Rng .u8 IntIs wr m it k91 S ∧ Below w.heap.size w wr ∧ MapE .u8 (Xr (Xr X r) it) base b wr r (tOver k91 gFast tFour S)) (fun wr => rleft wr m it)
  case atStart => exact ⟨fun _ => false, R, hbel, hM.eq (tOver_none _ _ _).symm⟩
  case round =>
    clear R hbel hM hbx
    obtain ⟨S, R, hbel, hM⟩ := hrel
    go_wp2_with (first | (refine wpList_nextD rfl _ rfl rfl R hmi' ?_; rintro u w9 (⟨rfl, rfl, hall⟩ | ⟨c, k, v, rfl, hk, hS, rfl, R1, hg1, hlt1, hen⟩)) | (refine wpList_lookupG rfl _ _ 51 rfl 5 77 Tryz.underlying51 Tryz.underlying5 .nilFunc zeroEff rfl (grown_iter hM hg1 hri) c rfl ?_; intro vv hvv; obtain ⟨⟨h0, h24⟩, E, hE, hG⟩ := gFast_spec hk; have hv1 := lk_eff hvv ((tOver_at (K := k91) (G := gFast) (M0 := tFour) hS).trans hE); have HG := Lib.hid hG; have HK := Lib.hid hk; have HL := Lib.hid hlt1; clear hvv hE hG hk hlt1 hS) | (go_at_call 87; refine (mk_wholly (Xr (Xr X r) it) base b _ (by have := (hbel.grown hg1 hbel.size (fun k e => by cases e; exact hitw)).size; omega) (xr2_lt hX (hbel.grown hg1 hbel.size (fun k e => by cases e; exact hitw)).size (grown_iter hM hg1 hri).lt R1.lt.2) k vv E hv1 h0 h24).mono ?_; clear hv1; rintro _ w8 ⟨v2, rfl, hv2, hB⟩; have hM2 := (grown_iter hM hg1 hri).below hB) | (refine wpList_insert rfl _ _ _ 51 (Or.inr rfl) 5 77 Tryz.underlying51 Tryz.underlying5 rfl hM2 c rfl _ rfl _ hv2 ?_; intro w7 hM3 hg3))
    · have B : Bld .u8 X base b w w9 r tF1 := ⟨hbel, (hM.mono (fun _ h => .inl h)).eq (tOver_all hall), hfr, hb, hX⟩
      clear hM hbel R hall hrm hri hmi' hitw hfr
      refine (mk_extended (Xr X r) base b _ B.bl B.x).mono ?_
      rintro _ w1 ⟨r2, rfl, B2⟩
      have I := MapG.made .i64 IntIs w1
      have hW : Below w1.heap.size w1 (w1.alloc (.map #[] 0)) := (Below.refl _ _).alloc (Nat.le_refl _) _
      go_wp2_with (first | (refine wpList_insert rfl _ _ _ 65 (Or.inl rfl) 3 3 Tryz.underlying65 Tryz.underlying3 rfl I 1 rfl _ rfl 8 rfl ?_; clear I; intro wL I hg; replace hW := hW.grown hg hW.size (fun k e => by cases e; exact Nat.le_refl _); clear hg) | (refine wpList_insert rfl _ _ _ 65 (Or.inl rfl) 3 3 Tryz.underlying65 Tryz.underlying3 rfl I 2 rfl _ rfl 9 rfl ?_; clear I; intro wL I hg; replace hW := hW.grown hg hW.size (fun k e => by cases e; exact Nat.le_refl _); clear hg) | (refine wpList_insert rfl _ _ _ 65 (Or.inl rfl) 3 3 Tryz.underlying65 Tryz.underlying3 rfl I 10 rfl _ rfl 10 rfl ?_; clear I; intro wL I hg; replace hW := hW.grown hg hW.size (fun k e => by cases e; exact Nat.le_refl _); clear hg) | (refine wpList_insert rfl _ _ _ 65 (Or.inl rfl) 3 3 Tryz.underlying65 Tryz.underlying3 rfl I 11 rfl _ rfl 11 rfl ?_; clear I; intro wL I hg; replace hW := hW.grown hg hW.size (fun k e => by cases e; exact Nat.le_refl _); clear hg) | (refine wpList_rangeG rfl _ 65 rfl 3 3 Tryz.underlying65 rfl I ?_; intro w10 R hB10 hlt10; have hmi := I.lt; clear I; replace hW := hW.trans (hB10.mono hW.size); clear hB10))
      have hM := B2.map.fresh hW (Nat.le_of_lt hmi)
      have hfr2 : w9.heap.size ≤ r2 := B2.fresh
      have hbel := B2.below.trans (hW.mono B2.below.size)
      have hrm : r2 ≠ w1.heap.size := by have := B2.map.lt; omega
      have hri : r2 ≠ wL.heap.size := by have := B2.map.lt; omega
      have hb9 : b < w9.heap.size := B2.hb
      have hX9 := B2.hX
      have hX9' : ∀ i, Xr X r i → i < w9.heap.size := hX9
      have hmi' : w1.heap.size ≠ wL.heap.size := by omega
      have hitw : w9.heap.size ≤ wL.heap.size := by have := B2.below.size; omega
      clear hmi hlt10 hW B2
      generalize wL.heap.size = it at *
      generalize w1.heap.size = m at *
      go_frame
      go_loopw [] (fun wr => ∃ S, Rng .i64 IntIs wr m it k65 S ∧ Below w9.heap.size w9 wr ∧ MapE .i64 (Xr (Xr (Xr X r) r2) it) base b wr r2 (tOver k65 gLow tExtended S)) (fun wr => rleft wr m it)
      case atStart => exact ⟨fun _ => false, R, hbel, hM.eq (tOver_none _ _ _).symm⟩
      case round =>
        clear R hbel hM
        obtain ⟨S, R, hbel, hM⟩ := hrel
        go_wp2_with (first | (refine wpList_nextD rfl _ rfl rfl R hmi' ?_; rintro u wn (⟨rfl, rfl, hall⟩ | ⟨c, k, v, rfl, hk, hS, rfl, R1, hg1, hlt1, hen⟩)) | (refine wpList_lookupG rfl _ _ 87 rfl 3 77 Tryz.underlying87 Tryz.underlying3 .nilFunc zeroEff rfl ((grown_iter hM hg1 hri).below ((Below.refl _ _).alloc (Nat.le_refl _) _)) c rfl ?_; intro vv hvv; obtain ⟨⟨h0, h24⟩, E, hE, hG⟩ := gLow_spec hk; have hv1 := lk_eff hvv ((tOver_at (K := k65) (G := gLow) (M0 := tExtended) hS).trans hE); have hbn := (hbel.grown hg1 hbel.size (fun k e => by cases e; exact hitw)); have hv2 := eff_lowly2 h0 h24 (Nat.lt_of_lt_of_le hb9 hbn.size) (xr2_lt hX9' hbn.size (grown_iter hM hg1 hri).lt R1.lt.2) hv1; obtain ⟨fid, cap, rfl, _⟩ := hv1; have hM2 := ((grown_iter hM hg1 hri).below ((Below.refl _ _).alloc (Nat.le_refl _) (.cells #[.int .i64 k] 3))).below ((Below.refl _ _).alloc (Nat.le_refl _) (.cells #[.func (.func fid) #[] cap] 77)); have hst := store_new Tryz.prog (wn.alloc (.cells #[.int .i64 k] 3)) .nilFunc 77 (.func fid) #[] cap; rw [World.size_alloc] at hst; have HG := Lib.hid hG; have HK := Lib.hid hk; have HL := Lib.hid hlt1; clear hvv hE hG hk hlt1 hS hbn) | (refine wpList_insert rfl _ _ _ 87 (Or.inr rfl) 3 77 Tryz.underlying87 Tryz.underlying3 rfl hM2 c rfl _ rfl _ hv2 ?_; intro w7 hM3 hg3))
        · have hM2 : MapE .i64 (Xr X r) base b wn r2 tFastE := (hM.mono (fun _ h => .inl (.inl h))).eq (tOver_all hall)
          replace B := B.call hbel
          have hr2 : r2 ≠ b := by omega
          have hx2 : ¬ (Xr X r) r2 := fun h => by have := hX9' _ h; omega
          clear hM hall R hrm hri hmi' hitw hb9 hX9 hX9' hbel hfr2
          have h118 := run_enter Tryz.func118 (by kernel_rfl) (by kernel_rfl)
          refine (mk_byHigh (Xr X r) base b _ B.bl B.x r2 hr2 hx2 _ hM2).mono ?_
          rintro _ w8 ⟨aE, rfl, haE, hB⟩
          replace B := B.call hB; clear hB hM2 hx2 hr2
          go_wp2_with (refine wpList_ins rfl _ _ _ 51 (Or.inr rfl) 5 77 Tryz.underlying51 Tryz.underlying5 rfl B 69 rfl _ rfl (St.fByHigh (tFastE)) haE ?_; clear B; clear haE; intro w9 B hk9; clear hk9)
          refine (mk_doubled (Xr X r) base b _ B.bl B.x 28 64).mono ?_
          rintro _ w8 ⟨aG, rfl, haG, hB⟩
          replace B := B.call hB; clear hB
          go_wp2_with (refine wpList_ins rfl _ _ _ 51 (Or.inr rfl) 5 77 Tryz.underlying51 Tryz.underlying5 rfl B 71 rfl _ rfl (St.fDoubled 28 64) haG ?_; clear B; clear haG; intro w9 B hk9; clear hk9)
          refine (mk_both (Xr X r) base b _ B.bl B.x 29).mono ?_
          rintro _ w8 ⟨aHx, rfl, haHx, hB⟩
          replace B := B.call hB; clear hB
          go_wp2_with fail
          refine (mk_wholly (Xr X r) base b _ B.bl B.x 12 _ (St.fBoth 29) haHx (by decide) (by decide)).mono ?_
          rintro _ w8 ⟨aH, rfl, haH, hB⟩
          replace B := B.call hB; replace haHx := haHx.below hB; clear hB
          clear haHx
          go_wp2_with (refine wpList_ins rfl _ _ _ 51 (Or.inr rfl) 5 77 Tryz.underlying51 Tryz.underlying5 rfl B 72 rfl _ rfl (St.fWholly 12 (St.fBoth 29)) haH ?_; clear B; clear haH; intro w9 B hk9; clear hk9)
          refine (mk_param (Xr X r) base b _ B.bl B.x 23).mono ?_
          rintro _ w8 ⟨aK, rfl, haK, hB⟩
          replace B := B.call hB; clear hB
          go_wp2_with (refine wpList_ins rfl _ _ _ 51 (Or.inr rfl) 5 77 Tryz.underlying51 Tryz.underlying5 rfl B 75 rfl _ rfl (St.fParam 23) haK ?_; clear B; clear haK; intro w9 B hk9; clear hk9)
          refine (mk_param (Xr X r) base b _ B.bl B.x 39).mono ?_
          rintro _ w8 ⟨aL, rfl, haL, hB⟩
          replace B := B.call hB; clear hB
          go_wp2_with (refine wpList_ins rfl _ _ _ 51 (Or.inr rfl) 5 77 Tryz.underlying51 Tryz.underlying5 rfl B 76 rfl _ rfl (St.fParam 39) haL ?_; clear B; clear haL; intro w9 B hk9; clear hk9)
          refine (mk_both (Xr X r) base b _ B.bl B.x 17).mono ?_
          rintro _ w8 ⟨aPx, rfl, haPx, hB⟩
          replace B := B.call hB; clear hB
          go_wp2_with fail
          refine (mk_wholly (Xr X r) base b _ B.bl B.x 13 _ (St.fBoth 17) haPx (by decide) (by decide)).mono ?_
          rintro _ w8 ⟨aP, rfl, haP, hB⟩
          replace B := B.call hB; replace haPx := haPx.below hB; clear hB
          clear haPx
          go_wp2_with (refine wpList_ins rfl _ _ _ 51 (Or.inr rfl) 5 77 Tryz.underlying51 Tryz.underlying5 rfl B 80 rfl _ rfl (St.fWholly 13 (St.fBoth 17)) haP ?_; clear B; clear haP; intro w9 B hk9; clear hk9)
          refine (mk_halved (Xr X r) base b _ B.bl B.x 14 _ (St.fRetrig) (ev117 _ _ _ _) (by decide) (by decide)).mono ?_
          rintro _ w8 ⟨aR, rfl, haR, hB⟩
          replace B := B.call hB; clear hB
          go_wp2_with (refine wpList_ins rfl _ _ _ 51 (Or.inr rfl) 5 77 Tryz.underlying51 Tryz.underlying5 rfl B 82 rfl _ rfl (St.fHalved 14 (St.fRetrig)) haR ?_; clear B; clear haR; intro w9 B hk9; clear hk9)
          refine (mk_wholly (Xr X r) base b _ B.bl B.x 15 _ (St.fTremor) (ev108 _ _ _ _) (by decide) (by decide)).mono ?_
          rintro _ w8 ⟨aT, rfl, haT, hB⟩
          replace B := B.call hB; clear hB
          go_wp2_with (refine wpList_ins rfl _ _ _ 51 (Or.inr rfl) 5 77 Tryz.underlying51 Tryz.underlying5 rfl B 84 rfl _ rfl (St.fWholly 15 (St.fTremor)) haT ?_; clear B; clear haT; intro w9 B hk9; clear hk9)
          have B0 := B
          replace B := Bld.made .i64 (Xr X r) base B0.bl B0.x
          generalize w9.alloc (.map #[] 0) = w10 at B ⊢
          generalize w9.heap.size = r3 at B ⊢
          go_wp2_with fail
          refine (mk_fast3 (Xr (Xr X r) r3) base b _ B.bl B.x 16 6 (by decide) (by decide)).mono ?_
          rintro _ w8 ⟨x1, rfl, hx1, hB⟩
          replace B := B.call hB; clear hB
          go_wp2_with (refine wpList_ins rfl _ _ _ 87 (Or.inl rfl) 3 77 Tryz.underlying87 Tryz.underlying3 rfl B 1 rfl _ rfl (St.fExtra 16 6) hx1 ?_; clear B; clear hx1; intro w9 B hk9; clear hk9)
          refine (mk_fast3 (Xr (Xr X r) r3) base b _ B.bl B.x 17 7 (by decide) (by decide)).mono ?_
          rintro _ w8 ⟨x2, rfl, hx2, hB⟩
          replace B := B.call hB; clear hB
          go_wp2_with (refine wpList_ins rfl _ _ _ 87 (Or.inl rfl) 3 77 Tryz.underlying87 Tryz.underlying3 rfl B 2 rfl _ rfl (St.fExtra 17 7) hx2 ?_; clear B; clear hx2; intro w9 B hk9; clear hk9)
          have B2 := B
          replace B := B0.call B2.below
          have hr2 : r3 ≠ b := by have := B2.fresh; have := B2.hb; omega
          have hx2 : ¬ (Xr X r) r3 := fun h => by have := B2.hX _ h; have := B2.fresh; omega
          have hM2 := B2.map.mono (X' := (Xr X r)) (fun _ h => .inl h)
          clear B0 B2
          refine (mk_byHigh (Xr X r) base b _ B.bl B.x r3 hr2 hx2 _ hM2).mono ?_
          rintro _ w8 ⟨aX, rfl, haX, hB⟩
          replace B := B.call hB; clear hB hM2 hx2 hr2
          go_wp2_with (refine wpList_ins rfl _ _ _ 51 (Or.inr rfl) 5 77 Tryz.underlying51 Tryz.underlying5 rfl B 88 rfl _ rfl (St.fByHigh (mset (mset (fun _ => none) 1 (St.fExtra 16 6)) 2 (St.fExtra 17 7))) haX ?_; clear B; clear haX; intro w9 B hk9; clear hk9)
          go_ret
          exact ⟨_, rfl, B⟩
        · have hbel2 : Below wn.heap.size wn ((wn.alloc (.cells #[.int .i64 k] 3)).alloc (.cells #[.func (.func fid) #[] cap] 77)) := ((Below.refl _ _).alloc (Nat.le_refl _) _).alloc (by rw [World.size_alloc]; omega) _
          have hbel9 : Below w9.heap.size w9 wn := hbel.grown hg1 hbel.size (fun k e => by cases e; exact hitw)
          go_roundw
          case rel =>
            have q1 := R1.below hbel2
            have q2 := q1.1.grown hg3 hrm hri
            have HR : ∃ S, Rng .i64 IntIs w7 m it k65 S ∧ Below w9.heap.size w9 w7 ∧ MapE .i64 (Xr (Xr (Xr X r) r2) it) base b w7 r2 (tOver k65 gLow tExtended S) := ⟨_, q2.1, (hbel9.trans (hbel2.mono hbel9.size)).grown hg3 (Nat.le_trans hbel9.size hbel2.size) (fun k e => by cases e; exact hfr2), (hM3.imp rfl (fun v y hv => hv.kpx (grown_kpx hg3 (.inl (.inr rfl))))).eq (tOver_set HK.out HG.out)⟩
            exact ⟨_, _, _, _, _, _, _, _, _, _, _, _, _, _, HR, rfl⟩
          case measure =>
            have q1 := R1.below hbel2
            have q2 := q1.1.grown hg3 hrm hri
            rw [q2.2, q1.2]
            exact HL.out
    · have hbel9 : Below w.heap.size w w9 := hbel.grown hg1 hbel.size (fun k e => by cases e; exact hitw)
      go_roundw
      case rel =>
        have q1 := R1.below hB
        have q2 := q1.1.grown hg3 hrm hri
        have HR : ∃ S, Rng .u8 IntIs w7 m it k91 S ∧ Below w.heap.size w w7 ∧ MapE .u8 (Xr (Xr X r) it) base b w7 r (tOver k91 gFast tFour S) := ⟨_, q2.1, (hbel9.trans (hB.mono hbel9.size)).grown hg3 (Nat.le_trans hbel9.size hB.size) (fun k e => by cases e; exact hfr), (hM3.imp rfl (fun v y hv => hv.kpx (grown_kpx hg3 (.inl (.inr rfl))))).eq (tOver_set HK.out HG.out)⟩
        exact ⟨_, _, _, _, _, _, _, _, _, _, _, _, _, _, HR, rfl⟩
      case measure =>
        have q1 := R1.below hB
        have q2 := q1.1.grown hg3 hrm hri
        rw [q2.2, q1.2]
        exact HL.out

end Go.Proofs.YtappnglfmidjoaaGreat.D
