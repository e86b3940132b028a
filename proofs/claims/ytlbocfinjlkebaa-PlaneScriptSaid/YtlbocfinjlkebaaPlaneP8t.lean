/- Tile at samples of type uint8: the sixty-four samples nearest to the places of a block. -/
import Derived.Test.YtlbocfinjlkebaaPlaneP8
import Derived.Test.YtlbocfinjlkebaaTileL
import Derived.Deep.WholeRow
import Derived.Laws.Rows
import Derived.Laws.Tables
namespace Go.Proofs.Ytlbocfinjlkebaa.P8
open Go.RowKit
attribute [local go_sem] run_store_flt

theorem info64 : (Try.prog.info? 95).map (fun i => (i.zero, i.size)) = some (some (.agg (tileC (fun _ => (.int .u8 0)) (.int .u8 0) 0)), 64) := by kernel_rfl
/-- sample k of a tile -/
def tileV (xs : List Value) (W H : Nat) (x y : Int) (k : Nat) : Value := smp xs W (clampI (tileX x k) W) (clampI (tileY y k) H)
set_option maxRecDepth 100000 in
set_option maxHeartbeats 4000000 in
theorem tile_any (b g W H c : Nat) (xs : List Value) (x y : Int) (w : World) (hp : PA w b g W H c xs) (hv0 : ∀ k, ∃ z : Int, tileV xs W H x y k = .int .u8 z) :
    Calls Try.prog 60 #[.pointer (some ⟨b, 0, none⟩), .int .i64 x, .int .i64 y] w fun e w' => e = .returned (.agg (tileC (tileV xs W H x y) (.int .u8 0) 64)) ∧ Below w.heap.size w w' := by
  obtain ⟨hzv, hsz⟩ := zero_of_info info64
  have h1 : ∀ k, (tileV xs W H x y k).oneCell' = true := fun k => by obtain ⟨z, hz⟩ := hv0 k; rw [hz]; rfl
  obtain ⟨X, hX⟩ : ∃ X, IntKind.i64.wrap (8 * x) = X := ⟨_, rfl⟩
  obtain ⟨Y, hY⟩ : ∃ Y, IntKind.i64.wrap (8 * y) = Y := ⟨_, rfl⟩
  have hz0 : tileC (fun _ => (.int .u8 0)) (.int .u8 0) 0 = tileC (tileV xs W H x y) (.int .u8 0) 0 := rfl
  rw [hz0] at hzv
  have HTV : ∀ k, tileV xs W H x y k = smp xs W (clampI (IntKind.i64.wrap (X + ((k % 8 : Nat) : Int))) W) (clampI (IntKind.i64.wrap (Y + ((k / 8 : Nat) : Int))) H) := fun k => by
    unfold tileV tileX tileY
    rw [hX, hY]
  have htv := Lib.hid HTV; clear HTV
  obtain ⟨C0, hC0⟩ : ∃ C0, tileC (tileV xs W H x y) (.int .u8 0) 0 = C0 := ⟨_, rfl⟩
  rw [hC0] at hzv
  have HC0 := Lib.hid hC0; clear hC0
  go_enter Try.func60, Try.ntmps60
  go_wp2_with fail
  have hb0 : Blk ((w.alloc (.cells C0 95)).alloc (.cells C0 95)) (w.heap.size + 1) 95 C0 := heap_alloc2_new w _ _
  have hb1 : Blk ((w.alloc (.cells C0 95)).alloc (.cells C0 95)) w.heap.size 95 C0 := heap_alloc2_old w _ _
  have hb2 : Below w.heap.size w ((w.alloc (.cells C0 95)).alloc (.cells C0 95)) := ((Below.refl _ _).alloc (Nat.le_refl _) _).alloc (by simp) _
  go_loopw [9] (fun i wr => ∃ k : Nat, k ≤ 64 ∧ i = .int .i64 k ∧ Blk wr (w.heap.size + 1) 95 (tileC (tileV xs W H x y) (.int .u8 0) k) ∧ Blk wr w.heap.size 95 C0 ∧ Below w.heap.size w wr) (fun i _ => 64 - (intOf i).toNat)
  case atStart => exact ⟨0, Nat.zero_le _, rfl, by rw [HC0.out]; exact hb0, hb1, hb2⟩
  clear hb0 hb1 hb2
  case round =>
    obtain ⟨k, hk, rfl, q1, q2, hb⟩ := hrel
    by_cases hlt : k < 64
    · have f1 : wr.frozen? ⟨w.heap.size + 1, k, none⟩ = false := q1.frozen k
      have y1 : (k : Int).tmod 8 = ((k % 8 : Nat) : Int) := by rw [Int.tmod_eq_emod_of_nonneg (by omega)]; omega
      have y2 : (k : Int).tdiv 8 = ((k / 8 : Nat) : Int) := by rw [Int.tdiv_eq_ediv_of_nonneg (by omega)]; omega
      have y3 : (k : Int) % 8 = ((k % 8 : Nat) : Int) := by omega
      have y4 : (k : Int) / 8 = ((k / 8 : Nat) : Int) := by omega
      have d1 : wr.cell? ⟨w.heap.size + 1, k, none⟩ = some ((tileC (tileV xs W H x y) (.int .u8 0) k).getD k undef) := by
        rw [q1.cell, Array.getElem?_eq_getElem (by rw [tileC_size _ _ hk]; exact hlt), Array.getD, dif_pos (by rw [tileC_size _ _ hk]; exact hlt)]
        rfl
      obtain ⟨z, hz⟩ := hv0 k
      have hnx := tileC_next (tileV xs W H x y) (.int .u8 0) hlt
      have hv := htv.out k
      rw [hz] at hnx hv
      have HNX := Lib.hid hnx; clear hnx
      have HV := Lib.hid hv; clear hv hz
      obtain ⟨k1, hk1⟩ : ∃ k1, k % 8 = k1 := ⟨_, rfl⟩
      obtain ⟨k2, hk2⟩ : ∃ k2, k / 8 = k2 := ⟨_, rfl⟩
      have b1 : k1 < 8 := by omega
      have b2 : k2 < 8 := by omega
      have HK1 := Lib.hid hk1
      have HK2 := Lib.hid hk2
      rw [hk1] at y1 y3
      rw [hk2] at y2 y4
      clear hk1 hk2
      go_wp2_with fail
      refine (near_any b g W H c xs _ _ _ (hp.below hb)).mono ?_
      rintro e w' ⟨rfl, n1, rfl⟩
      have hvs := HV.out
      rw [HK1.out, HK2.out] at hvs
      rw [IntWalk.i64_left, IntWalk.i64_left] at hvs
      rw [← hvs]
      clear hvs
      go_wp2_with fail
      go_roundw
      case rel => exact ⟨k + 1, by omega, by go_num, by rw [← HNX.out]; exact Blk.set (q1.drewN n1) k _, Blk.far (q2.drewN n1) (by simp) _, (below_drewN hb n1).setCell (by simp) _⟩
      case measure => simp [intOf]; omega
    · have hk64 : k = 64 := by omega
      clear hk hlt
      subst hk64
      have hsz1 : (Try.prog.info? 95).map (·.size) = some (tileC (tileV xs W H x y) (.int .u8 0) 64).size := by rw [tileC_size _ _ (Nat.le_refl _)]; exact hsz
      have hc0 : C0.size = (tileC (tileV xs W H x y) (.int .u8 0) 64).size := by rw [← HC0.out, tileC_size _ _ (Nat.zero_le _), tileC_size _ _ (Nat.le_refl _)]
      have hone := tileC_one (f := tileV xs W H x y) (z := (.int .u8 0)) (k := 64) h1 rfl
      obtain ⟨C, hC⟩ : ∃ C, tileC (tileV xs W H x y) (.int .u8 0) 64 = C := ⟨_, rfl⟩
      rw [hC] at q1 hsz1 hc0 hone
      have HC := Lib.hid hC
      clear hC
      have hu := Try.underlying95
      go_wp2_with (first | (refine wpList_load_row rfl _ _ rfl _ rfl _ _ _ _ q1 hu rfl hsz1 ?_) | (refine wpList_store_row rfl _ _ _ rfl _ _ rfl rfl _ _ q2 hsz1 hc0 hone ?_))
      have hgC : (wr.setRow w.heap.size C).heap[w.heap.size]? = some (.cells C 95 (0, 0)) := setRow_heap wr w.heap.size C0 C 95 (0, 0) q2
      refine bodyPost_ret (results_cell_row rfl _ _ w.heap.size 95 C (0, 0) _ rfl hgC hu rfl hsz1) rfl ?_
      exact ⟨by rw [HC.out], ⟨hb.os, hb.tape, hb.output, by simp; exact hb.size, fun i hi => (setRow_other wr w.heap.size i C (by omega)).trans (hb.block i hi)⟩⟩
end Go.Proofs.Ytlbocfinjlkebaa.P8
