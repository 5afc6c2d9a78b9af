/- DialectResolves: cells one after the other ask for the operations that the reference's Resolve asks for. -/
import Derived.Test.YtappnglfmidjoaaGreatLawRR
import Derived.Test.YtappnglfmidjoaaGreatRefL
import Derived.Test.YtappnglfmidjoaaGreatOpen
import Derived.Deep.Fields
import Derived.ChangeSame
import Derived.Deep.RegionHeld3
import Derived.Deep.Slices
import Derived.Deep.CutRange
set_option linter.unusedVariables false
set_option linter.unusedSimpArgs false
namespace Go.Proofs.YtappnglfmidjoaaGreat.D
open Go Go.RowKit Go.Proofs.YtappnglfmidjoaaGreat.DB Go.Great

/-! ### a row at any address -/
theorem run_loadVar_any {P : Program} (w : World) (a : Addr) (ty : TypeId) (cs : List Value) (d : TypeDesc) (hc : ∀ j v, cs[j]? = some v → w.cell? (a.add j) = some v)
    (hu : P.underlying ty = some d) (hd : d.isRow = true) (hi : (P.info? ty).map (·.size) = some cs.length) : (loadVar ty a).run P w = .ok (.agg cs.toArray) w := by
  have hl : (loadCells a cs.length).run P w = .ok cs.toArray w := run_loadCells_list (P := P) w a cs hc
  cases hq : P.info? ty with
  | none => simp [hq] at hi
  | some i =>
    have hs : i.size = cs.length := by simpa [hq] using hi
    have hagg : (isAgg ty).run P w = .ok true w := by
      unfold isAgg
      rw [Sem.run_bind, run_underlying hu w]
      cases d <;> simp_all
    simp [loadVar, Sem.run_bind, hagg, sizeOf, typeInfo, hq, hs, hl]
theorem yields_load_any {P : Program} {ops : Array Oper} {S : World → Prop} {op : Oper} {a : Act} (hw : Region.wanted op (yielded ops a.tmps) = true) (ty : TypeId) (x : Operand) (ho : op.op = .load ty x)
    (A : Addr) (hx : a.eval x = .pointer (some A)) (cs : Array Value) (d : TypeDesc) (hS : ∀ w, S w → ∀ j v, cs.toList[j]? = some v → w.cell? (A.add j) = some v)
    (hu : P.underlying ty = some d) (hd : d.isRow = true) (hi : (P.info? ty).map (·.size) = some cs.size) : YieldsIf P ops S op (.agg cs) a :=
  .inl ⟨hw, fun w hw' => by
    unfold execOp
    simp only [ho, hx, Instr.loadAt, Instr.sureAddr, Sem.run_bind, Sem.run_pure, Result.andThen_ok, run_loadVar_any w A ty cs.toList d (hS w hw') hu hd (by rw [hi]; simp)]⟩
theorem size23 (w : World) : (sizeOf 23).run Tryz.prog w = .ok 6 w := by kernel_rfl
theorem under29 : Tryz.prog.underlying 29 = some (.slice 23) := by kernel_rfl
theorem yields_index {ops : Array Oper} {S : World → Prop} {op : Oper} {a : Act} (hw : Region.wanted op (yielded ops a.tmps) = true) (x y : Operand) (ho : op.op = .indexAddr 29 x y)
    (A : Addr) (len cap k : Nat) (hx : a.eval x = .slice (some A) len cap) (hy : a.eval y = .int .i64 (k : Int)) (hk : k < len) : YieldsIf Tryz.prog ops S op (.pointer (some (A.add (k * 6)))) a :=
  .inl ⟨hw, fun w hw' => by
    have h0 : (0 : Int) ≤ (k : Int) ∧ (k : Int) < (len : Int) := by omega
    unfold execOp
    simp [ho, hx, hy, Instr.indexAt, asIntOf, Sem.run_bind, Sem.run_pure, run_underlying under29, size23, h0, Result.andThen_ok]
    intro h
    omega⟩
/-- The cells of a slice of cells. -/
def CellsAt (w : World) (x : Option Addr) (len : Nat) : Prop :=
  ∀ i, i < len → ∃ a n q vc va ef pa, x = some a ∧ a.block < w.heap.size ∧ ∀ j v, (CellV n q vc va ef pa).toList[j]? = some v → w.cell? ((a.add (i * 6)).add j) = some v
theorem rres_v' {d n vc va ef pa i : Int} {mv : Array Value} {ms : List Int} {e p : Int} {R : St} {k : Int} (hR : resL d n vc va ef pa i ms e p = (R, k)) (hM : MemV mv ms e p) (w : World) :
    Calls Tryz.prog 11 #[.int .i64 d, .agg mv, .agg (CellV n i vc va ef pa)] w (Out w R.ops R.slots R.eff R.par k) := by
  have h := rres d mv ms e p hM n i vc va ef pa w
  rw [hR] at h
  exact h
theorem pres_v' {d n vc va ef pa i : Int} {mv : Array Value} {ms : List Int} {e p : Int} {R : St} {k : Int} (hR : resL d n vc va ef pa i ms e p = (R, k)) (hM : MemV mv ms e p) (w : World) :
    Calls Tryz.prog 10 #[.int .i64 d, .agg mv, .agg (CellV n i vc va ef pa)] w (Out w R.ops R.slots R.eff R.par k) := by
  have h := pres d mv ms e p hM n i vc va ef pa w
  rw [hR] at h
  exact h
theorem add_block (a : Addr) (n : Nat) : (a.add n).block = a.block := by unfold Addr.add; split <;> rfl
theorem own_len {base : Nat} {w : World} {v : Value} {L : List (Int × Int × Int)} (h : w.ownsRow base 50 3 v L.length (opvs L)) : ∃ a cap, v = .slice a L.length cap := by
  obtain ⟨a, n, cap, rfl, hn, _⟩ := own_cells h
  exact ⟨a, cap, by rw [hn]⟩
theorem res_ops (d n vc va ef pa i : Int) (ms : List Int) (e p : Int) : (resL d n vc va ef pa i ms e p).1.ops.length ≤ 3 := by
  unfold resL
  repeat' split
  · exact Nat.zero_le _
  · exact outS_ops d n vc va ef pa ms e p
  · exact Nat.zero_le _
theorem setRow_other (w : World) (g k : Nat) (cs : Array Value) (h : g ≠ k) : (w.setRow g cs).heap[k]? = w.heap[k]? := by
  show (w.heap.modify g _)[k]? = _
  rw [Array.getElem?_modify, if_neg h]
theorem row_at {w : World} {b : Nat} {mv : Array Value} (h : w.heap[b]? = some (.cells mv 28 (0, 0))) : ∀ j v, mv.toList[j]? = some v → w.cell? ((⟨b, 0, none⟩ : Addr).add j) = some v := fun j v hv => by
  rw [Addr.add_mid, Nat.zero_add, cell_of h j]
  simpa using hv
set_option maxRecDepth 100000 in
set_option maxHeartbeats 4000000 in
theorem resolves (d : Int) (mv : Array Value) (ms : List Int) (e q : Int) (hM : MemV mv ms e q) (x : Option Addr) (len cap : Nat) (W : World) (hS : CellsAt W x len) :
    Calls Tryz.prog 4 #[.int .i64 d, .agg mv, .slice x len cap] W fun e' W' => e' = .returned (.bool true) ∧ Below W.heap.size W W' := by
  have HS := Lib.hid hS
  clear hS
  go_enter Tryz.func4, Tryz.ntmps4
  go_upto_region 1 with fail
  have hA := heap_alloc_new W (.cells mv 28)
  have hb : Below W.heap.size W (W.alloc (.cells mv 28)) := (Below.refl _ _).alloc (Nat.le_refl _) _
  have hz : (W.alloc (.cells mv 28)).heap.size = W.heap.size + 1 := Array.size_push ..
  have HA := Lib.hid hA
  have HZ := Lib.hid hz
  clear hA hz
  generalize W.alloc (.cells mv 28) = w1 at HA hb HZ ⊢
  go_upto_region 2 with (first
    | (refine wpList_load_row rfl 28 _ rfl W.heap.size rfl 28 mv (0, 0) _ HA.out Tryz.underlying28 rfl hM.info ?_)
    | (refine wpList_store_rowTo rfl 28 _ _ rfl rfl w1.heap.size mv rfl rfl 28 _ (heap_alloc_new w1 _) hM.info (Eq.trans (b := 26) (by kernel_rfl) hM.size.symm) hM.one ?_))
  rw [World.setRow_alloc_new]
  have hB := heap_alloc_new w1 (.cells mv 28)
  have ha : Below w1.heap.size w1 (w1.alloc (.cells mv 28)) := (Below.refl _ _).alloc (Nat.le_refl _) _
  have HA2 := Lib.hid (blk_below HA.out ha)
  have HB2 := Lib.hid hB
  have hb2 := hb.trans (ha.mono hb.size)
  clear HA hB ha hb
  rw [HZ.out] at HB2
  rw [HZ.out]
  generalize w1.alloc (.cells mv 28) = w2 at HA2 HB2 hb2 ⊢
  go_wp2
  go_loopw [8] (fun u8 w' => ∃ (k : Nat) (mv' : Array Value) (ms' : List Int) (e' q' : Int), u8 = .int .i64 k ∧ k ≤ 100 ∧ MemV mv' ms' e' q' ∧ Hid (w'.heap[W.heap.size]? = some (.cells mv' 28 (0, 0))) ∧ Hid (w'.heap[W.heap.size + 1]? = some (.cells mv' 28 (0, 0))) ∧ Below W.heap.size W w') (fun u8 _ => 100 - (intOf u8).toNat)
  case atStart => exact ⟨0, mv, ms, e, q, rfl, by omega, hM, HA2, HB2, hb2⟩
  case round =>
    obtain ⟨k, mv', ms', e', q', rfl, hk, hM', HA3, HB3, hb3⟩ := hrel
    clear hM HA2 HB2 hb2
    by_cases hlt : k < len
    · by_cases h100 : k < 100
      · have i0 : (0 : Int) ≤ (k : Int) := by omega
        have i1 : (k : Int) < (len : Int) := by omega
        have i2 : (k : Int) < 100 := by omega
        go_upto_region 5 with fail
        obtain ⟨a, n, qi, vc, va, ef, pa, rfl, hblk, hcl⟩ := HS.out k hlt
        have hcell : ∀ w', Below W.heap.size W w' → ∀ j v, (CellV n qi vc va ef pa).toList[j]? = some v → w'.cell? ((a.add (k * 6)).add j) = some v := fun w' hw j v hv => (hw.cell (by rw [add_block, add_block]; exact hblk)).trans (hcl j v hv)
        have hrow : ∀ w', Below wr.heap.size wr w' → ∀ j v, mv'.toList[j]? = some v → w'.cell? ((⟨W.heap.size, 0, none⟩ : Addr).add j) = some v := fun w' hw j v hv => by
          rw [Addr.add_mid, Nat.zero_add, cell_of (blk_below HA3.out hw) j]; simpa using hv
        obtain ⟨R, kk, hR⟩ : ∃ R kk, resL d n vc va ef pa qi ms' e' q' = (R, kk) := ⟨_, _, rfl⟩
        have HR := Lib.hid hR
        clear hcl hR
        go_cut [9, 10, 11] from 26 to 36 (fun u9 u10 u11 wx => ∃ (b : Nat) (mv1 : Array Value), u10 = .pointer (some ⟨b, 0, none⟩) ∧ u11 = .int .i64 kk ∧ MemV mv1 R.slots R.eff R.par ∧ Hid (wx.heap[b]? = some (.cells mv1 28 (0, 0))) ∧ Hid (wx.ownsRow 0 50 3 u9 R.ops.length (opvs R.ops)) ∧ Below wr.heap.size wr wx ∧ wr.heap.size ≤ b)
        case first =>
          refine wp_region_held_drew (S := fun w' => Below wr.heap.size wr w') (by kernel_rfl) ((Below.refl _ _).drew) (fun hHeld => ?_)
          apply wpAnyH_take (i := 0)
          case hi => (simp only [List.getElem?_toArray, List.getElem?_cons_succ, List.getElem?_cons_zero]) <;> rfl
          case hs => kernel_rfl
          case hf => kernel_rfl
          case hr => kernel_rfl
          case hQ => exact fun _ _ _ h => h
          case hS => assumption
          case hy => (refine Or.inl ⟨by rfl, ?_⟩; intro w hSw; go_simp; try with_reducible rfl)
          try simp only [Act.put, List.setIfInBounds_toArray, List.set_cons_zero, List.set_cons_succ]
          apply wpAnyH_take (i := 1)
          case hi => (simp only [List.getElem?_toArray, List.getElem?_cons_succ, List.getElem?_cons_zero]) <;> rfl
          case hs => kernel_rfl
          case hf => kernel_rfl
          case hr => kernel_rfl
          case hQ => exact fun _ _ _ h => h
          case hS => assumption
          case hy => exact yields_load_any (by rfl) 28 _ rfl ⟨W.heap.size, 0, none⟩ rfl mv' _ (fun w hw => hrow w hw) Tryz.underlying28 rfl hM'.info
          try simp only [Act.put, List.setIfInBounds_toArray, List.set_cons_zero, List.set_cons_succ]
          apply wpAnyH_take (i := 2)
          case hi => (simp only [List.getElem?_toArray, List.getElem?_cons_succ, List.getElem?_cons_zero]) <;> rfl
          case hs => kernel_rfl
          case hf => kernel_rfl
          case hr => kernel_rfl
          case hQ => exact fun _ _ _ h => h
          case hS => assumption
          case hy => (refine Or.inl ⟨by rfl, ?_⟩; intro w hSw; go_simp; try with_reducible rfl)
          try simp only [Act.put, List.setIfInBounds_toArray, List.set_cons_zero, List.set_cons_succ]
          apply wpAnyH_take (i := 3)
          case hi => (simp only [List.getElem?_toArray, List.getElem?_cons_succ, List.getElem?_cons_zero]) <;> rfl
          case hs => kernel_rfl
          case hf => kernel_rfl
          case hr => kernel_rfl
          case hQ => exact fun _ _ _ h => h
          case hS => assumption
          case hy => (refine Or.inl ⟨by rfl, ?_⟩; intro w hSw; go_simp; try with_reducible rfl)
          try simp only [Act.put, List.setIfInBounds_toArray, List.set_cons_zero, List.set_cons_succ]
          apply wpAnyH_take (i := 4)
          case hi => (simp only [List.getElem?_toArray, List.getElem?_cons_succ, List.getElem?_cons_zero]) <;> rfl
          case hs => kernel_rfl
          case hf => kernel_rfl
          case hr => kernel_rfl
          case hQ => exact fun _ _ _ h => h
          case hS => assumption
          case hy => exact yields_index (by rfl) _ _ rfl a len cap k rfl rfl hlt
          try simp only [Act.put, List.setIfInBounds_toArray, List.set_cons_zero, List.set_cons_succ]
          apply wpAnyH_take (i := 5)
          case hi => (simp only [List.getElem?_toArray, List.getElem?_cons_succ, List.getElem?_cons_zero]) <;> rfl
          case hs => kernel_rfl
          case hf => kernel_rfl
          case hr => kernel_rfl
          case hQ => exact fun _ _ _ h => h
          case hS => assumption
          case hy => exact yields_load_any (by rfl) 23 _ rfl (a.add (k * 6)) rfl (CellV n qi vc va ef pa) _ (fun w hw => hcell w (hb3.trans (hw.mono hb3.size))) Tryz.underlying23 rfl info23
          try simp only [Act.put, List.setIfInBounds_toArray, List.set_cons_zero, List.set_cons_succ]
          refine wpAnyH_ready (rs := [6, 11]) (by kernel_rfl) (by simp) ?_
          apply AllReadyH.cons
          case ho => (simp only [List.getElem?_toArray, List.getElem?_cons_succ, List.getElem?_cons_zero]) <;> rfl
          case h =>
            intro K hK
            go_simp
            go_at_call 10
            refine (pres_v' HR.out hM' _).mono ?_
            rintro _ w3 ⟨v, mv1, rfl, hM1, ho1, hB3⟩
            dsimp only
            refine hK.out _ _ (hHeld.trans (hB3.mono hHeld.size)) (fun hHeld3 => ?_)
            clear hK K
            try simp only [Act.put, List.setIfInBounds_toArray, List.set_cons_zero, List.set_cons_succ]
            apply wpAnyH_take (i := 7)
            case hi => (simp only [List.getElem?_toArray, List.getElem?_cons_succ, List.getElem?_cons_zero]) <;> rfl
            case hs => kernel_rfl
            case hf => kernel_rfl
            case hr => kernel_rfl
            case hQ => exact fun _ _ _ h => h
            case hS => assumption
            case hy => (refine Or.inl ⟨by rfl, ?_⟩; intro w hSw; go_simp; try with_reducible rfl)
            try simp only [Act.put, List.setIfInBounds_toArray, List.set_cons_zero, List.set_cons_succ]
            apply wpAnyH_take (i := 8)
            case hi => (simp only [List.getElem?_toArray, List.getElem?_cons_succ, List.getElem?_cons_zero]) <;> rfl
            case hs => kernel_rfl
            case hf => kernel_rfl
            case hr => kernel_rfl
            case hQ => exact fun _ _ _ h => h
            case hS => assumption
            case hy => (refine Or.inl ⟨by rfl, ?_⟩; intro w hSw; go_simp; try with_reducible rfl)
            try simp only [Act.put, List.setIfInBounds_toArray, List.set_cons_zero, List.set_cons_succ]
            apply wpAnyH_take (i := 9)
            case hi => (simp only [List.getElem?_toArray, List.getElem?_cons_succ, List.getElem?_cons_zero]) <;> rfl
            case hs => kernel_rfl
            case hf => kernel_rfl
            case hr => kernel_rfl
            case hQ => exact fun _ _ _ h => h
            case hS => assumption
            case hy => (refine Or.inl ⟨by rfl, ?_⟩; intro w hSw; go_simp; try with_reducible rfl)
            try simp only [Act.put, List.setIfInBounds_toArray, List.set_cons_zero, List.set_cons_succ]
            apply wpAnyH_take (i := 10)
            case hi => (simp only [List.getElem?_toArray, List.getElem?_cons_succ, List.getElem?_cons_zero]) <;> rfl
            case hs => kernel_rfl
            case hf => kernel_rfl
            case hr => kernel_rfl
            case hQ => exact fun _ _ _ h => h
            case hS => assumption
            case hy => (refine Or.inl ⟨by rfl, ?_⟩; intro w hSw; go_simp; try with_reducible rfl)
            try simp only [Act.put, List.setIfInBounds_toArray, List.set_cons_zero, List.set_cons_succ]
            refine wpAnyH_ready (rs := [11]) (by kernel_rfl) (by simp) ?_
            apply AllReadyH.cons
            case ho => (simp only [List.getElem?_toArray, List.getElem?_cons_succ, List.getElem?_cons_zero]) <;> rfl
            case h =>
              intro K hK
              go_simp
              refine hK.out _ _ (hHeld3.alloc hHeld3.size _) (fun hHeld4 => ?_)
              clear hK K
              try simp only [Act.put, List.setIfInBounds_toArray, List.set_cons_zero, List.set_cons_succ]
              apply wpAnyH_take (i := 12)
              case hi => (simp only [List.getElem?_toArray, List.getElem?_cons_succ, List.getElem?_cons_zero]) <;> rfl
              case hs => kernel_rfl
              case hf => kernel_rfl
              case hr => kernel_rfl
              case hQ => exact fun _ _ _ h => h
              case hS => assumption
              case hy => (refine Or.inl ⟨by rfl, ?_⟩; intro w hSw; go_simp; try with_reducible rfl)
              try simp only [Act.put, List.setIfInBounds_toArray, List.set_cons_zero, List.set_cons_succ]
              refine wpAnyH_ready (rs := [13]) (by kernel_rfl) (by simp) ?_
              apply AllReadyH.cons
              case ho => (simp only [List.getElem?_toArray, List.getElem?_cons_succ, List.getElem?_cons_zero]) <;> rfl
              case h =>
                intro K hK
                rw [if_pos (by rfl)]
                refine wp_store_row 28 _ _ rfl w3.heap.size mv1 rfl rfl 28 _ (heap_alloc_new w3 _) hM1.info (Eq.trans (b := 26) (by kernel_rfl) hM1.size.symm) hM1.one ?_
                refine hK.out _ _ (below_setRow hHeld4 hHeld3.size _) (fun hHeld5 => ?_)
                clear hK K
                try simp only [Act.put, List.setIfInBounds_toArray, List.set_cons_zero, List.set_cons_succ]
                apply wpAnyH_take (i := 14)
                case hi => (simp only [List.getElem?_toArray, List.getElem?_cons_succ, List.getElem?_cons_zero]) <;> rfl
                case hs => kernel_rfl
                case hf => kernel_rfl
                case hr => kernel_rfl
                case hQ => exact fun _ _ _ h => h
                case hS => assumption
                case hy => (refine Or.inl ⟨by rfl, ?_⟩; intro w hSw; go_simp; try with_reducible rfl)
                try simp only [Act.put, List.setIfInBounds_toArray, List.set_cons_zero, List.set_cons_succ]
                refine wpAnyH_done (by kernel_rfl) ?_ _
                go_wp2
                go_meet
                exact ⟨w3.heap.size, mv1, rfl, rfl, hM1, Lib.hid (setRow_heap _ _ _ _ _ _ (heap_alloc_new w3 _)), Lib.hid (own_setRow (by decide) (heap_alloc_new w3 _) (own_base (Nat.zero_le _) (own_below ho1 ((Below.refl _ _).alloc (Nat.le_refl _) _))) _), hHeld5, hHeld3.size⟩
              case hs => exact AllReadyH.nil
            case hs => exact AllReadyH.nil
          case hs =>
            apply AllReadyH.cons
            case ho => (simp only [List.getElem?_toArray, List.getElem?_cons_succ, List.getElem?_cons_zero]) <;> rfl
            case h =>
              intro K hK
              go_simp
              refine hK.out _ _ (hHeld.alloc hHeld.size _) (fun hHeld3 => ?_)
              clear hK K
              try simp only [Act.put, List.setIfInBounds_toArray, List.set_cons_zero, List.set_cons_succ]
              refine wpAnyH_ready (rs := [6]) (by kernel_rfl) (by simp) ?_
              apply AllReadyH.cons
              case ho => (simp only [List.getElem?_toArray, List.getElem?_cons_succ, List.getElem?_cons_zero]) <;> rfl
              case h =>
                intro K hK
                go_simp
                go_at_call 10
                refine (pres_v' HR.out hM' _).mono ?_
                rintro _ w3 ⟨v, mv1, rfl, hM1, ho1, hB3⟩
                dsimp only
                have hz3 := blk_below (w := (wr.alloc _).drew) (heap_alloc_new wr _) hB3
                refine hK.out _ _ (hHeld3.trans (hB3.mono hHeld3.size)) (fun hHeld4 => ?_)
                clear hK K
                try simp only [Act.put, List.setIfInBounds_toArray, List.set_cons_zero, List.set_cons_succ]
                apply wpAnyH_take (i := 7)
                case hi => (simp only [List.getElem?_toArray, List.getElem?_cons_succ, List.getElem?_cons_zero]) <;> rfl
                case hs => kernel_rfl
                case hf => kernel_rfl
                case hr => kernel_rfl
                case hQ => exact fun _ _ _ h => h
                case hS => assumption
                case hy => (refine Or.inl ⟨by rfl, ?_⟩; intro w hSw; go_simp; try with_reducible rfl)
                try simp only [Act.put, List.setIfInBounds_toArray, List.set_cons_zero, List.set_cons_succ]
                apply wpAnyH_take (i := 8)
                case hi => (simp only [List.getElem?_toArray, List.getElem?_cons_succ, List.getElem?_cons_zero]) <;> rfl
                case hs => kernel_rfl
                case hf => kernel_rfl
                case hr => kernel_rfl
                case hQ => exact fun _ _ _ h => h
                case hS => assumption
                case hy => (refine Or.inl ⟨by rfl, ?_⟩; intro w hSw; go_simp; try with_reducible rfl)
                try simp only [Act.put, List.setIfInBounds_toArray, List.set_cons_zero, List.set_cons_succ]
                apply wpAnyH_take (i := 9)
                case hi => (simp only [List.getElem?_toArray, List.getElem?_cons_succ, List.getElem?_cons_zero]) <;> rfl
                case hs => kernel_rfl
                case hf => kernel_rfl
                case hr => kernel_rfl
                case hQ => exact fun _ _ _ h => h
                case hS => assumption
                case hy => (refine Or.inl ⟨by rfl, ?_⟩; intro w hSw; go_simp; try with_reducible rfl)
                try simp only [Act.put, List.setIfInBounds_toArray, List.set_cons_zero, List.set_cons_succ]
                apply wpAnyH_take (i := 10)
                case hi => (simp only [List.getElem?_toArray, List.getElem?_cons_succ, List.getElem?_cons_zero]) <;> rfl
                case hs => kernel_rfl
                case hf => kernel_rfl
                case hr => kernel_rfl
                case hQ => exact fun _ _ _ h => h
                case hS => assumption
                case hy => (refine Or.inl ⟨by rfl, ?_⟩; intro w hSw; go_simp; try with_reducible rfl)
                try simp only [Act.put, List.setIfInBounds_toArray, List.set_cons_zero, List.set_cons_succ]
                apply wpAnyH_take (i := 12)
                case hi => (simp only [List.getElem?_toArray, List.getElem?_cons_succ, List.getElem?_cons_zero]) <;> rfl
                case hs => kernel_rfl
                case hf => kernel_rfl
                case hr => kernel_rfl
                case hQ => exact fun _ _ _ h => h
                case hS => assumption
                case hy => (refine Or.inl ⟨by rfl, ?_⟩; intro w hSw; go_simp; try with_reducible rfl)
                try simp only [Act.put, List.setIfInBounds_toArray, List.set_cons_zero, List.set_cons_succ]
                refine wpAnyH_ready (rs := [13]) (by kernel_rfl) (by simp) ?_
                apply AllReadyH.cons
                case ho => (simp only [List.getElem?_toArray, List.getElem?_cons_succ, List.getElem?_cons_zero]) <;> rfl
                case h =>
                  intro K hK
                  rw [if_pos (by rfl)]
                  refine wp_store_row 28 _ _ rfl _ mv1 rfl rfl 28 _ hz3 hM1.info (Eq.trans (b := 26) (by kernel_rfl) hM1.size.symm) hM1.one ?_
                  refine hK.out _ _ (below_setRow hHeld4 hHeld.size _) (fun hHeld5 => ?_)
                  clear hK K
                  try simp only [Act.put, List.setIfInBounds_toArray, List.set_cons_zero, List.set_cons_succ]
                  apply wpAnyH_take (i := 14)
                  case hi => (simp only [List.getElem?_toArray, List.getElem?_cons_succ, List.getElem?_cons_zero]) <;> rfl
                  case hs => kernel_rfl
                  case hf => kernel_rfl
                  case hr => kernel_rfl
                  case hQ => exact fun _ _ _ h => h
                  case hS => assumption
                  case hy => (refine Or.inl ⟨by rfl, ?_⟩; intro w hSw; go_simp; try with_reducible rfl)
                  try simp only [Act.put, List.setIfInBounds_toArray, List.set_cons_zero, List.set_cons_succ]
                  refine wpAnyH_done (by kernel_rfl) ?_ _
                  go_wp2
                  go_meet
                  exact ⟨_, mv1, rfl, rfl, hM1, Lib.hid (setRow_heap _ _ _ _ _ _ hz3), Lib.hid (own_setRow (by decide) hz3 (own_base (Nat.zero_le _) ho1) _), hHeld5, hHeld.size⟩
                case hs => exact AllReadyH.nil
              case hs => exact AllReadyH.nil
            case hs => exact AllReadyH.nil
        case rest =>
          obtain ⟨b1, mv1, rfl, rfl, hM1, HX1, HO1, hB4, hb1⟩ := hcut
          have hb4 := hb3.trans (hB4.mono hb3.size)
          have HA4 := Lib.hid (blk_below HA3.out hB4)
          have HB4 := Lib.hid (blk_below HB3.out hB4)
          have hl1 : W.heap.size + 1 < wr.heap.size := (Array.getElem?_eq_some_iff.1 HB3.out).1
          have hlb : W.heap.size + 1 < b1 := by omega
          clear HA3 HB3 hB4 hrow hb1 hl1
          go_upto_region 6 with fail
          go_cut [12, 13, 14] from 37 to 47 (fun u12 u13 u14 wx => ∃ (b2 : Nat) (mv2 : Array Value), u13 = .pointer (some ⟨b2, 0, none⟩) ∧ u14 = .int .i64 kk ∧ MemV mv2 R.slots R.eff R.par ∧ Hid (wx.heap[b2]? = some (.cells mv2 28 (0, 0))) ∧ Hid (wx.ownsRow 0 50 3 u12 R.ops.length (opvs R.ops)) ∧ Below wc.heap.size wc wx ∧ wc.heap.size ≤ b2)
          case first =>
            refine wp_region_held_drew (S := fun w' => Below wc.heap.size wc w') (by kernel_rfl) ((Below.refl _ _).drew) (fun hHeld => ?_)
            apply wpAnyH_take (i := 0)
            case hi => (simp only [List.getElem?_toArray, List.getElem?_cons_succ, List.getElem?_cons_zero]) <;> rfl
            case hs => kernel_rfl
            case hf => kernel_rfl
            case hr => kernel_rfl
            case hQ => exact fun _ _ _ h => h
            case hS => assumption
            case hy => (refine Or.inl ⟨by rfl, ?_⟩; intro w hSw; go_simp; try with_reducible rfl)
            try simp only [Act.put, List.setIfInBounds_toArray, List.set_cons_zero, List.set_cons_succ]
            apply wpAnyH_take (i := 1)
            case hi => (simp only [List.getElem?_toArray, List.getElem?_cons_succ, List.getElem?_cons_zero]) <;> rfl
            case hs => kernel_rfl
            case hf => kernel_rfl
            case hr => kernel_rfl
            case hQ => exact fun _ _ _ h => h
            case hS => assumption
            case hy => exact yields_load_any (by rfl) 28 _ rfl ⟨W.heap.size + 1, 0, none⟩ rfl mv' _ (fun w hw => row_at (blk_below HB4.out hw)) Tryz.underlying28 rfl hM'.info
            try simp only [Act.put, List.setIfInBounds_toArray, List.set_cons_zero, List.set_cons_succ]
            apply wpAnyH_take (i := 2)
            case hi => (simp only [List.getElem?_toArray, List.getElem?_cons_succ, List.getElem?_cons_zero]) <;> rfl
            case hs => kernel_rfl
            case hf => kernel_rfl
            case hr => kernel_rfl
            case hQ => exact fun _ _ _ h => h
            case hS => assumption
            case hy => (refine Or.inl ⟨by rfl, ?_⟩; intro w hSw; go_simp; try with_reducible rfl)
            try simp only [Act.put, List.setIfInBounds_toArray, List.set_cons_zero, List.set_cons_succ]
            apply wpAnyH_take (i := 3)
            case hi => (simp only [List.getElem?_toArray, List.getElem?_cons_succ, List.getElem?_cons_zero]) <;> rfl
            case hs => kernel_rfl
            case hf => kernel_rfl
            case hr => kernel_rfl
            case hQ => exact fun _ _ _ h => h
            case hS => assumption
            case hy => (refine Or.inl ⟨by rfl, ?_⟩; intro w hSw; go_simp; try with_reducible rfl)
            try simp only [Act.put, List.setIfInBounds_toArray, List.set_cons_zero, List.set_cons_succ]
            apply wpAnyH_take (i := 4)
            case hi => (simp only [List.getElem?_toArray, List.getElem?_cons_succ, List.getElem?_cons_zero]) <;> rfl
            case hs => kernel_rfl
            case hf => kernel_rfl
            case hr => kernel_rfl
            case hQ => exact fun _ _ _ h => h
            case hS => assumption
            case hy => exact yields_index (by rfl) _ _ rfl a len cap k rfl rfl hlt
            try simp only [Act.put, List.setIfInBounds_toArray, List.set_cons_zero, List.set_cons_succ]
            apply wpAnyH_take (i := 5)
            case hi => (simp only [List.getElem?_toArray, List.getElem?_cons_succ, List.getElem?_cons_zero]) <;> rfl
            case hs => kernel_rfl
            case hf => kernel_rfl
            case hr => kernel_rfl
            case hQ => exact fun _ _ _ h => h
            case hS => assumption
            case hy => exact yields_load_any (by rfl) 23 _ rfl (a.add (k * 6)) rfl (CellV n qi vc va ef pa) _ (fun w hw => hcell w (hb4.trans (hw.mono hb4.size))) Tryz.underlying23 rfl info23
            try simp only [Act.put, List.setIfInBounds_toArray, List.set_cons_zero, List.set_cons_succ]
            refine wpAnyH_ready (rs := [6, 11]) (by kernel_rfl) (by simp) ?_
            apply AllReadyH.cons
            case ho => (simp only [List.getElem?_toArray, List.getElem?_cons_succ, List.getElem?_cons_zero]) <;> rfl
            case h =>
              intro K hK
              go_simp
              go_at_call 11
              refine (rres_v' HR.out hM' _).mono ?_
              rintro _ w3 ⟨v, mv1, rfl, hM1, ho1, hB3⟩
              dsimp only
              refine hK.out _ _ (hHeld.trans (hB3.mono hHeld.size)) (fun hHeld3 => ?_)
              clear hK K
              try simp only [Act.put, List.setIfInBounds_toArray, List.set_cons_zero, List.set_cons_succ]
              apply wpAnyH_take (i := 7)
              case hi => (simp only [List.getElem?_toArray, List.getElem?_cons_succ, List.getElem?_cons_zero]) <;> rfl
              case hs => kernel_rfl
              case hf => kernel_rfl
              case hr => kernel_rfl
              case hQ => exact fun _ _ _ h => h
              case hS => assumption
              case hy => (refine Or.inl ⟨by rfl, ?_⟩; intro w hSw; go_simp; try with_reducible rfl)
              try simp only [Act.put, List.setIfInBounds_toArray, List.set_cons_zero, List.set_cons_succ]
              apply wpAnyH_take (i := 8)
              case hi => (simp only [List.getElem?_toArray, List.getElem?_cons_succ, List.getElem?_cons_zero]) <;> rfl
              case hs => kernel_rfl
              case hf => kernel_rfl
              case hr => kernel_rfl
              case hQ => exact fun _ _ _ h => h
              case hS => assumption
              case hy => (refine Or.inl ⟨by rfl, ?_⟩; intro w hSw; go_simp; try with_reducible rfl)
              try simp only [Act.put, List.setIfInBounds_toArray, List.set_cons_zero, List.set_cons_succ]
              apply wpAnyH_take (i := 9)
              case hi => (simp only [List.getElem?_toArray, List.getElem?_cons_succ, List.getElem?_cons_zero]) <;> rfl
              case hs => kernel_rfl
              case hf => kernel_rfl
              case hr => kernel_rfl
              case hQ => exact fun _ _ _ h => h
              case hS => assumption
              case hy => (refine Or.inl ⟨by rfl, ?_⟩; intro w hSw; go_simp; try with_reducible rfl)
              try simp only [Act.put, List.setIfInBounds_toArray, List.set_cons_zero, List.set_cons_succ]
              apply wpAnyH_take (i := 10)
              case hi => (simp only [List.getElem?_toArray, List.getElem?_cons_succ, List.getElem?_cons_zero]) <;> rfl
              case hs => kernel_rfl
              case hf => kernel_rfl
              case hr => kernel_rfl
              case hQ => exact fun _ _ _ h => h
              case hS => assumption
              case hy => (refine Or.inl ⟨by rfl, ?_⟩; intro w hSw; go_simp; try with_reducible rfl)
              try simp only [Act.put, List.setIfInBounds_toArray, List.set_cons_zero, List.set_cons_succ]
              refine wpAnyH_ready (rs := [11]) (by kernel_rfl) (by simp) ?_
              apply AllReadyH.cons
              case ho => (simp only [List.getElem?_toArray, List.getElem?_cons_succ, List.getElem?_cons_zero]) <;> rfl
              case h =>
                intro K hK
                go_simp
                refine hK.out _ _ (hHeld3.alloc hHeld3.size _) (fun hHeld4 => ?_)
                clear hK K
                try simp only [Act.put, List.setIfInBounds_toArray, List.set_cons_zero, List.set_cons_succ]
                apply wpAnyH_take (i := 12)
                case hi => (simp only [List.getElem?_toArray, List.getElem?_cons_succ, List.getElem?_cons_zero]) <;> rfl
                case hs => kernel_rfl
                case hf => kernel_rfl
                case hr => kernel_rfl
                case hQ => exact fun _ _ _ h => h
                case hS => assumption
                case hy => (refine Or.inl ⟨by rfl, ?_⟩; intro w hSw; go_simp; try with_reducible rfl)
                try simp only [Act.put, List.setIfInBounds_toArray, List.set_cons_zero, List.set_cons_succ]
                refine wpAnyH_ready (rs := [13]) (by kernel_rfl) (by simp) ?_
                apply AllReadyH.cons
                case ho => (simp only [List.getElem?_toArray, List.getElem?_cons_succ, List.getElem?_cons_zero]) <;> rfl
                case h =>
                  intro K hK
                  rw [if_pos (by rfl)]
                  refine wp_store_row 28 _ _ rfl w3.heap.size mv1 rfl rfl 28 _ (heap_alloc_new w3 _) hM1.info (Eq.trans (b := 26) (by kernel_rfl) hM1.size.symm) hM1.one ?_
                  refine hK.out _ _ (below_setRow hHeld4 hHeld3.size _) (fun hHeld5 => ?_)
                  clear hK K
                  try simp only [Act.put, List.setIfInBounds_toArray, List.set_cons_zero, List.set_cons_succ]
                  apply wpAnyH_take (i := 14)
                  case hi => (simp only [List.getElem?_toArray, List.getElem?_cons_succ, List.getElem?_cons_zero]) <;> rfl
                  case hs => kernel_rfl
                  case hf => kernel_rfl
                  case hr => kernel_rfl
                  case hQ => exact fun _ _ _ h => h
                  case hS => assumption
                  case hy => (refine Or.inl ⟨by rfl, ?_⟩; intro w hSw; go_simp; try with_reducible rfl)
                  try simp only [Act.put, List.setIfInBounds_toArray, List.set_cons_zero, List.set_cons_succ]
                  refine wpAnyH_done (by kernel_rfl) ?_ _
                  go_wp2
                  go_meet
                  exact ⟨w3.heap.size, mv1, rfl, rfl, hM1, Lib.hid (setRow_heap _ _ _ _ _ _ (heap_alloc_new w3 _)), Lib.hid (own_setRow (by decide) (heap_alloc_new w3 _) (own_base (Nat.zero_le _) (own_below ho1 ((Below.refl _ _).alloc (Nat.le_refl _) _))) _), hHeld5, hHeld3.size⟩
                case hs => exact AllReadyH.nil
              case hs => exact AllReadyH.nil
            case hs =>
              apply AllReadyH.cons
              case ho => (simp only [List.getElem?_toArray, List.getElem?_cons_succ, List.getElem?_cons_zero]) <;> rfl
              case h =>
                intro K hK
                go_simp
                refine hK.out _ _ (hHeld.alloc hHeld.size _) (fun hHeld3 => ?_)
                clear hK K
                try simp only [Act.put, List.setIfInBounds_toArray, List.set_cons_zero, List.set_cons_succ]
                refine wpAnyH_ready (rs := [6]) (by kernel_rfl) (by simp) ?_
                apply AllReadyH.cons
                case ho => (simp only [List.getElem?_toArray, List.getElem?_cons_succ, List.getElem?_cons_zero]) <;> rfl
                case h =>
                  intro K hK
                  go_simp
                  go_at_call 11
                  refine (rres_v' HR.out hM' _).mono ?_
                  rintro _ w3 ⟨v, mv1, rfl, hM1, ho1, hB3⟩
                  dsimp only
                  have hz3 := blk_below (w := (wc.alloc _).drew) (heap_alloc_new wc _) hB3
                  refine hK.out _ _ (hHeld3.trans (hB3.mono hHeld3.size)) (fun hHeld4 => ?_)
                  clear hK K
                  try simp only [Act.put, List.setIfInBounds_toArray, List.set_cons_zero, List.set_cons_succ]
                  apply wpAnyH_take (i := 7)
                  case hi => (simp only [List.getElem?_toArray, List.getElem?_cons_succ, List.getElem?_cons_zero]) <;> rfl
                  case hs => kernel_rfl
                  case hf => kernel_rfl
                  case hr => kernel_rfl
                  case hQ => exact fun _ _ _ h => h
                  case hS => assumption
                  case hy => (refine Or.inl ⟨by rfl, ?_⟩; intro w hSw; go_simp; try with_reducible rfl)
                  try simp only [Act.put, List.setIfInBounds_toArray, List.set_cons_zero, List.set_cons_succ]
                  apply wpAnyH_take (i := 8)
                  case hi => (simp only [List.getElem?_toArray, List.getElem?_cons_succ, List.getElem?_cons_zero]) <;> rfl
                  case hs => kernel_rfl
                  case hf => kernel_rfl
                  case hr => kernel_rfl
                  case hQ => exact fun _ _ _ h => h
                  case hS => assumption
                  case hy => (refine Or.inl ⟨by rfl, ?_⟩; intro w hSw; go_simp; try with_reducible rfl)
                  try simp only [Act.put, List.setIfInBounds_toArray, List.set_cons_zero, List.set_cons_succ]
                  apply wpAnyH_take (i := 9)
                  case hi => (simp only [List.getElem?_toArray, List.getElem?_cons_succ, List.getElem?_cons_zero]) <;> rfl
                  case hs => kernel_rfl
                  case hf => kernel_rfl
                  case hr => kernel_rfl
                  case hQ => exact fun _ _ _ h => h
                  case hS => assumption
                  case hy => (refine Or.inl ⟨by rfl, ?_⟩; intro w hSw; go_simp; try with_reducible rfl)
                  try simp only [Act.put, List.setIfInBounds_toArray, List.set_cons_zero, List.set_cons_succ]
                  apply wpAnyH_take (i := 10)
                  case hi => (simp only [List.getElem?_toArray, List.getElem?_cons_succ, List.getElem?_cons_zero]) <;> rfl
                  case hs => kernel_rfl
                  case hf => kernel_rfl
                  case hr => kernel_rfl
                  case hQ => exact fun _ _ _ h => h
                  case hS => assumption
                  case hy => (refine Or.inl ⟨by rfl, ?_⟩; intro w hSw; go_simp; try with_reducible rfl)
                  try simp only [Act.put, List.setIfInBounds_toArray, List.set_cons_zero, List.set_cons_succ]
                  apply wpAnyH_take (i := 12)
                  case hi => (simp only [List.getElem?_toArray, List.getElem?_cons_succ, List.getElem?_cons_zero]) <;> rfl
                  case hs => kernel_rfl
                  case hf => kernel_rfl
                  case hr => kernel_rfl
                  case hQ => exact fun _ _ _ h => h
                  case hS => assumption
                  case hy => (refine Or.inl ⟨by rfl, ?_⟩; intro w hSw; go_simp; try with_reducible rfl)
                  try simp only [Act.put, List.setIfInBounds_toArray, List.set_cons_zero, List.set_cons_succ]
                  refine wpAnyH_ready (rs := [13]) (by kernel_rfl) (by simp) ?_
                  apply AllReadyH.cons
                  case ho => (simp only [List.getElem?_toArray, List.getElem?_cons_succ, List.getElem?_cons_zero]) <;> rfl
                  case h =>
                    intro K hK
                    rw [if_pos (by rfl)]
                    refine wp_store_row 28 _ _ rfl _ mv1 rfl rfl 28 _ hz3 hM1.info (Eq.trans (b := 26) (by kernel_rfl) hM1.size.symm) hM1.one ?_
                    refine hK.out _ _ (below_setRow hHeld4 hHeld.size _) (fun hHeld5 => ?_)
                    clear hK K
                    try simp only [Act.put, List.setIfInBounds_toArray, List.set_cons_zero, List.set_cons_succ]
                    apply wpAnyH_take (i := 14)
                    case hi => (simp only [List.getElem?_toArray, List.getElem?_cons_succ, List.getElem?_cons_zero]) <;> rfl
                    case hs => kernel_rfl
                    case hf => kernel_rfl
                    case hr => kernel_rfl
                    case hQ => exact fun _ _ _ h => h
                    case hS => assumption
                    case hy => (refine Or.inl ⟨by rfl, ?_⟩; intro w hSw; go_simp; try with_reducible rfl)
                    try simp only [Act.put, List.setIfInBounds_toArray, List.set_cons_zero, List.set_cons_succ]
                    refine wpAnyH_done (by kernel_rfl) ?_ _
                    go_wp2
                    go_meet
                    exact ⟨_, mv1, rfl, rfl, hM1, Lib.hid (setRow_heap _ _ _ _ _ _ hz3), Lib.hid (own_setRow (by decide) hz3 (own_base (Nat.zero_le _) ho1) _), hHeld5, hHeld.size⟩
                  case hs => exact AllReadyH.nil
                case hs => exact AllReadyH.nil
              case hs => exact AllReadyH.nil
          case rest =>
            obtain ⟨b2, mv2, rfl, rfl, hM2, HX2, HO2, hB5, hb2⟩ := hcut
            have hz2 : mv2 = mv1 := hM2.inj hM1
            subst hz2
            have hb5 := hb4.trans (hB5.mono hb4.size)
            have HA5 := Lib.hid (blk_below HA4.out hB5)
            have HB5 := Lib.hid (blk_below HB4.out hB5)
            have HX5 := Lib.hid (blk_below HX1.out hB5)
            have HO5 := Lib.hid (own_below HO1.out hB5)
            have hlb2 : W.heap.size + 1 < b2 := by have := (Array.getElem?_eq_some_iff.1 HB4.out).1; omega
            clear HA4 HB4 HX1 HO1 hB5 hb4 hb2 hcell
            have C1 := Lib.hid (same_self HO5.out HO2.out)
            obtain ⟨a1, c1, rfl⟩ := own_len HO5.out
            have h3 : ((R.ops.length : Nat) : Int) ≤ 3 := by have := res_ops d n vc va ef pa qi ms' e' q'; rw [HR.out] at this; have h4 : R.ops.length ≤ 3 := this; omega
            have hq := hM1.neq
            clear HR HO5 HO2
            go_upto_region 9 with (first
              | (go_at_call 12; refine C1.out.mono ?_; rintro _ w8 ⟨rfl, hB8⟩; have HX8 := Lib.hid (blk_below HX5.out hB8); have HY8 := Lib.hid (blk_below HX2.out hB8); have HA8 := Lib.hid (blk_below HA5.out hB8); have HB8 := Lib.hid (blk_below HB5.out hB8); have hb8 := hb5.trans (hB8.mono hb5.size))
              | (refine wpList_load_row_g (by rfl) 28 _ rfl b1 rfl 28 _ (0, 0) _ HX8.out Tryz.underlying28 rfl hM1.info ?_)
              | (refine wpList_load_row_g (by rfl) 28 _ rfl b2 rfl 28 _ (0, 0) _ HY8.out Tryz.underlying28 rfl hM1.info ?_))
            have hs8 : mv'.size = mv2.size := hM'.size.trans hM1.size.symm
            by_cases hk0 : (kk == 0) = true
            · go_upto_region 10 with fail
              refine wp_region_held_drew (S := fun w' => w'.heap[b1]? = some (.cells mv2 28 (0, 0)) ∧ w'.heap[b2]? = some (.cells mv2 28 (0, 0))) (by kernel_rfl) ⟨HX8.out, HY8.out⟩ (fun hHeld => ?_)
              apply wpAnyH_take (i := 0)
              case hi => (simp only [List.getElem?_toArray, List.getElem?_cons_succ, List.getElem?_cons_zero]) <;> rfl
              case hs => kernel_rfl
              case hf => kernel_rfl
              case hr => kernel_rfl
              case hQ => exact fun _ _ _ h => h
              case hS => assumption
              case hy => exact yields_load_any (by rfl) 28 _ rfl ⟨b1, 0, none⟩ rfl mv2 _ (fun w hw => row_at hw.1) Tryz.underlying28 rfl hM1.info
              try simp only [Act.put, List.setIfInBounds_toArray, List.set_cons_zero, List.set_cons_succ]
              apply wpAnyH_take (i := 1)
              case hi => (simp only [List.getElem?_toArray, List.getElem?_cons_succ, List.getElem?_cons_zero]) <;> rfl
              case hs => kernel_rfl
              case hf => kernel_rfl
              case hr => kernel_rfl
              case hQ => exact fun _ _ _ h => h
              case hS => assumption
              case hy => exact yields_load_any (by rfl) 28 _ rfl ⟨b2, 0, none⟩ rfl mv2 _ (fun w hw => row_at hw.2) Tryz.underlying28 rfl hM1.info
              try simp only [Act.put, List.setIfInBounds_toArray, List.set_cons_zero, List.set_cons_succ]
              refine wpAnyH_ready (rs := [2]) (by kernel_rfl) (by simp) ?_
              apply AllReadyH.cons
              case ho => (simp only [List.getElem?_toArray, List.getElem?_cons_succ, List.getElem?_cons_zero]) <;> rfl
              case h =>
                intro K hK
                rw [if_pos (by rfl)]
                refine wp_store_row 28 _ _ rfl W.heap.size mv2 rfl rfl 28 _ HA8.out hM1.info hs8 hM1.one ?_
                refine hK.out _ _ (⟨(setRow_other _ _ _ _ (by omega)).trans hHeld.1, (setRow_other _ _ _ _ (by omega)).trans hHeld.2⟩) (fun hHeld1 => ?_)
                clear hK K
                try simp only [Act.put, List.setIfInBounds_toArray, List.set_cons_zero, List.set_cons_succ]
                refine wpAnyH_ready (rs := [3]) (by kernel_rfl) (by simp) ?_
                apply AllReadyH.cons
                case ho => (simp only [List.getElem?_toArray, List.getElem?_cons_succ, List.getElem?_cons_zero]) <;> rfl
                case h =>
                  intro K hK
                  rw [if_pos (by rfl)]
                  refine wp_store_row 28 _ _ rfl (W.heap.size + 1) mv2 rfl rfl 28 _ ((setRow_other _ _ _ _ (by omega)).trans HB8.out) hM1.info hs8 hM1.one ?_
                  refine hK.out _ _ (⟨(setRow_other _ _ _ _ (by omega)).trans hHeld1.1, (setRow_other _ _ _ _ (by omega)).trans hHeld1.2⟩) (fun hHeld2 => ?_)
                  clear hK K
                  try simp only [Act.put, List.setIfInBounds_toArray, List.set_cons_zero, List.set_cons_succ]
                  refine wpAnyH_done (by kernel_rfl) ?_ _
                  go_wp2
                  refine ⟨⟨k + 1, mv2, R.slots, R.eff, R.par, by go_num, by omega, hM1, Lib.hid ((setRow_other _ _ _ _ (by omega)).trans (setRow_heap _ _ _ _ _ _ HA8.out)), Lib.hid (setRow_heap _ _ _ _ _ _ ((setRow_other _ _ _ _ (by omega)).trans HB8.out)), below_setRow (below_setRow (below_drew hb8) (Nat.le_refl _) _) (by omega) _⟩, by simp [intOf]; omega⟩
                case hs => exact AllReadyH.nil
              case hs => exact AllReadyH.nil
            · have hk1 : (kk == 0) = false := by simpa using hk0
              go_wp2
              exact ⟨⟨k + 1, mv', ms', e', q', by go_num, by omega, hM', HA8, HB8, hb8⟩, by simp [intOf]; omega⟩
      · have i0 : (0 : Int) ≤ (k : Int) := by omega
        have i1 : (k : Int) < (len : Int) := by omega
        have i2 : ¬ (k : Int) < 100 := by omega
        go_wp2_with (first | (go_at_call 9; refine (pawake _).mono ?_; rintro _ w9 ⟨rfl, hB9⟩))
        go_ret
        exact ⟨rfl, hb3.trans (hB9.mono hb3.size)⟩
    · have i0 : (0 : Int) ≤ (k : Int) := by omega
      have i1 : ¬ (k : Int) < (len : Int) := by omega
      have hu : undef = Value.tuple #[] := rfl
      go_wp2_with (first | (go_at_call 9; refine (pawake _).mono ?_; rintro _ w9 ⟨rfl, hB9⟩))
      go_ret
      exact ⟨rfl, hb3.trans (hB9.mono hb3.size)⟩
/-! ### an argument opened: a slice of cells -/
open Go.ChangeShapes Go.WideShapes Go.Deep
section
variable {H : Type} {enc : TypeId × Value → H} {w : World} {base : Nat} {spare : Nat → Bool} {held : Bool}
theorem cell_row {fuel : Nat} {cs : List Value} {x : DataW H × List MemPlace} (hlen : cs.length = 6) (hf : DataW.trod enc Tryz.prog w base spare held fuel 23 cs = some x) : ∃ n i vc va ef pa : Int, cs = (CellV n i vc va ef pa).toList := by
  obtain ⟨xs, n, _, hx, _, hlen2, hg⟩ := DataW.trod_struct Tryz.underlying23 hf
  have hxs : ∀ i, i < 6 → ∃ y, xs[i]? = some y := fun i hi => ⟨_, List.getElem?_eq_getElem (by rw [hlen2]; exact hi)⟩
  have key : ∀ i, i < cs.length → ∃ z, cs[i]? = some (.int .i64 z) := by
    intro i hi
    have hi6 : i < 6 := by omega
    obtain ⟨y, hy⟩ := hxs i hi6
    rcases (by omega : i = 0 ∨ i = 1 ∨ i = 2 ∨ i = 3 ∨ i = 4 ∨ i = 5) with rfl | rfl | rfl | rfl | rfl | rfl
    · have h : DataW.trod enc Tryz.prog w base spare held n 3 ((cs.drop 0).take (Tryz.prog.cellsOf 3)) = xs[0]? := hg 0 _ rfl; rw [cellsOf3] at h; exact trod_one Tryz.underlying3 h hy
    · have h : DataW.trod enc Tryz.prog w base spare held n 3 ((cs.drop 1).take (Tryz.prog.cellsOf 3)) = xs[1]? := hg 1 _ rfl; rw [cellsOf3] at h; exact trod_one Tryz.underlying3 h hy
    · have h : DataW.trod enc Tryz.prog w base spare held n 3 ((cs.drop 2).take (Tryz.prog.cellsOf 3)) = xs[2]? := hg 2 _ rfl; rw [cellsOf3] at h; exact trod_one Tryz.underlying3 h hy
    · have h : DataW.trod enc Tryz.prog w base spare held n 3 ((cs.drop 3).take (Tryz.prog.cellsOf 3)) = xs[3]? := hg 3 _ rfl; rw [cellsOf3] at h; exact trod_one Tryz.underlying3 h hy
    · have h : DataW.trod enc Tryz.prog w base spare held n 3 ((cs.drop 4).take (Tryz.prog.cellsOf 3)) = xs[4]? := hg 4 _ rfl; rw [cellsOf3] at h; exact trod_one Tryz.underlying3 h hy
    · have h : DataW.trod enc Tryz.prog w base spare held n 3 ((cs.drop 5).take (Tryz.prog.cellsOf 3)) = xs[5]? := hg 5 _ rfl; rw [cellsOf3] at h; exact trod_one Tryz.underlying3 h hy
  obtain ⟨ms, rfl⟩ := ints_of _ _ key
  have hml : ms.length = 6 := by simpa using hlen
  match ms, hml with
  | [n, i, vc, va, ef, pa], _ => exact ⟨n, i, vc, va, ef, pa, rfl⟩
theorem open_cells {r : Reach} {b0 : Nat} {v : Value} {d : DataW H} {p : List MemPlace} (hv : Value.okWide Tryz.prog w r b0 29 v) (h : DataW.Trod enc Tryz.prog w base spare held 29 v d p) :
    ∃ (x : Option Addr) (len cap : Nat), v = .slice x len cap ∧ CellsAt w x len := by
  obtain ⟨x0, len0, cap0, rfl⟩ := okWide_slice under29 hv
  obtain ⟨fuel, hf⟩ := h
  rcases open_slice under29 hf with ⟨h0, _⟩ | ⟨a, len, cap, m, n, D, Pl, hcs, hb, hl, hm, hmm, hx, hi⟩
  · refine ⟨none, 0, 0, ?_, fun i hi => absurd hi (Nat.not_lt_zero _)⟩
    simpa [Value.cells] using h0
  · refine ⟨some a, len, cap, ?_, fun i hi2 => ?_⟩
    · simpa [Value.cells] using hcs
    · obtain ⟨cs', hc, ht'⟩ := hi i (by rw [hmm]; split <;> omega)
      rw [cellsOf23] at hc
      obtain ⟨_, hcl, hat⟩ := World.cells?_some hc
      obtain ⟨n', qi, vc, va, ef, pa, rfl⟩ := cell_row hcl ht'
      refine ⟨a, n', qi, vc, va, ef, pa, rfl, ?_, fun j v hj => ?_⟩
      · have h1 := World.block_lt_of_cell? w _ (hat 0 (by decide))
        rw [add_block, add_block] at h1
        exact h1
      · have hj6 : j < 6 := by have := (List.getElem?_eq_some_iff.1 hj).1; rw [hcl] at this; exact this
        rw [hat j hj6]
        exact hj
end
end Go.Proofs.YtappnglfmidjoaaGreat.D
