/- Down: a plane of means: the document's walk, and why there is none. -/
import Derived.Test.YtlbocfinjlkebaaSampD
namespace Go.Proofs.Ytlbocfinjlkebaa.Samp
open Go.RowKit

/-- what stands in a cell, as a number from 0 up -/
def natAt (w : World) (a : Addr) : Nat := match w.cell? a with | some v => (intOf v).toNat | none => 0

theorem natAt_of {w : World} {a : Addr} {z : Int} {k : IntKind} (h : w.cell? a = some (.int k z)) : natAt w a = z.toNat := by
  unfold natAt
  rw [h]
  rfl

set_option maxRecDepth 100000 in
set_option maxHeartbeats 8000000 in
theorem rdn_yes (b : Nat) (A : Option Addr) (W H c : Nat) (zs : List Int) (fx fy : Nat) (w : World) (hp : RefAt w b A W H c zs) (hW : 1 ≤ W) (hH : 1 ≤ H) (hsz : W * H ≤ 67108864) (hz : Bytes zs) (e1 : 1 ≤ fx) (e2 : fx ≤ 4) (e3 : 1 ≤ fy) (e4 : fy ≤ 4) :
    Calls Try.prog 19 #[.pointer (some ⟨b, 0, none⟩), .int .i64 fx, .int .i64 fy] w (MadeR w (dnS W fx) (dnS H fy) (gridL (dnS W fx) (dnV zs W H fx fy) (dnS H fy * dnS W fx))) := by
  obtain ⟨i0, hi, hz0, hz1, hz2⟩ := info_parts P8.info
  have bW : W ≤ 67108864 := Nat.le_trans (Nat.le_mul_of_pos_right W hH) hsz
  have bH : H ≤ 67108864 := Nat.le_trans (Nat.le_mul_of_pos_left H hW) hsz
  have c0 := hp.c0
  have c1 := hp.c1
  have HE := Lib.hid (facE_yes (a := fx) (b := fy) (by omega) (by omega) (by omega) (by omega))
  obtain ⟨n, hn⟩ : ∃ n, fx * fy = n := ⟨_, rfl⟩
  have n1 : 1 ≤ n := by rw [← hn]; exact Nat.mul_le_mul e1 e3
  have n2 : n ≤ 16 := by rw [← hn]; exact Nat.mul_le_mul e2 e4
  have hni : (fx : Int) * (fy : Int) = (n : Int) := by rw [← hn, Int.natCast_mul]
  have hni' : (fy : Int) * (fx : Int) = (n : Int) := by rw [Int.mul_comm]; exact hni
  have hdv : ∀ x y, dnV zs W H fx fy x y = meanV (sumV zs W H fx fy x y n) n := by
    intro x y
    unfold dnV
    rw [hn]
  have hby := fun x y => dnV_byte hz W H fx fy x y e1 e3
  obtain ⟨wide, hwd⟩ : ∃ wide, dnS W fx = wide := ⟨_, rfl⟩
  obtain ⟨high, hhg⟩ : ∃ high, dnS H fy = high := ⟨_, rfl⟩
  have bw1 : 1 ≤ wide := by rw [← hwd]; exact dnS_pos hW e1
  have bh1 : 1 ≤ high := by rw [← hhg]; exact dnS_pos hH e3
  have bw2 : wide ≤ W := by rw [← hwd]; exact dnS_le e1
  have bh2 : high ≤ H := by rw [← hhg]; exact dnS_le e3
  have wstep : ∀ k, k * fx < W → k + 1 ≤ wide := fun k h => hwd ▸ dnS_step e1 h
  have wend : ∀ k, ¬ k * fx < W → k ≤ wide → k = wide := fun k h h' => hwd ▸ dnS_end e1 h (hwd.symm ▸ h')
  have hstep : ∀ k, k * fy < H → k + 1 ≤ high := fun k h => hhg ▸ dnS_step e3 h
  have hend : ∀ k, ¬ k * fy < H → k ≤ high → k = high := fun k h h' => hhg ▸ dnS_end e3 h (hhg.symm ▸ h')
  have xin : ∀ x, x < wide → fx * x < W := by
    intro x hx
    rw [← hwd] at hx
    unfold dnS at hx
    have h1 : x + 1 ≤ (W + fx - 1) / fx := hx
    rw [Nat.le_div_iff_mul_le (by omega), Nat.add_mul, Nat.one_mul, Nat.mul_comm] at h1
    omega
  have yin : ∀ y, y < high → fy * y < H := by
    intro y hy
    rw [← hhg] at hy
    unfold dnS at hy
    have h1 : y + 1 ≤ (H + fy - 1) / fy := hy
    rw [Nat.le_div_iff_mul_le (by omega), Nat.add_mul, Nat.one_mul, Nat.mul_comm] at h1
    omega
  rw [hwd, hhg]
  obtain ⟨N, hN⟩ : ∃ N, wide * high = N := ⟨_, rfl⟩
  have hN1 : 1 ≤ N := by rw [← hN]; exact Nat.mul_le_mul bw1 bh1
  have hN2 : N ≤ 67108864 := by rw [← hN]; exact Nat.le_trans (Nat.mul_le_mul bw2 bh2) hsz
  have HN := Lib.hid hN; clear hN
  have HWD := Lib.hid hwd; clear hwd
  have HHG := Lib.hid hhg; clear hhg
  have HDV := Lib.hid hdv; clear hdv
  have HBY := Lib.hid hby; clear hby
  have HXI := Lib.hid xin; clear xin
  have HYI := Lib.hid yin; clear yin
  have HHN := Lib.hid hn; clear hn
  have HW1 := Lib.hid wstep; clear wstep
  have HW2 := Lib.hid wend; clear wend
  have HH1 := Lib.hid hstep; clear hstep
  have HH2 := Lib.hid hend; clear hend
  go_enter Try.func19, Try.ntmps19
  go_wp2_with fail
  refine (rf_some _ fx fy w).mono ?_
  rintro e w' ⟨rfl, rfl⟩
  simp only [HE.out]
  go_wp2_with fail
  have hb0 : Blk (w.alloc (.cells #[.int .i64 0, .int .i64 0, .slice none 0 0] 127)) w.heap.size 127 #[.int .i64 0, .int .i64 0, .slice none 0 0] := Blk.new w _ _
  have w0 : Below w.heap.size w (w.alloc (.cells #[.int .i64 0, .int .i64 0, .slice none 0 0] 127)) := (Below.refl _ _).alloc (Nat.le_refl _) _
  go_loopw [] (fun wr => ∃ k : Nat, k ≤ wide ∧ Blk wr w.heap.size 127 #[.int .i64 k, .int .i64 0, .slice none 0 0] ∧ Below w.heap.size w wr) (fun wr => wide - natAt wr ⟨w.heap.size, 0, none⟩)
  case atStart => exact ⟨0, Nat.zero_le _, hb0, w0⟩
  case round =>
    obtain ⟨k, hk, hq, hb⟩ := hrel
    have d0 : wr.cell? ⟨w.heap.size, 0, none⟩ = some (.int .i64 k) := by rw [hq.cell]; rfl
    have f0 : wr.frozen? ⟨w.heap.size, 0, none⟩ = false := hq.frozen 0
    have p0 := below_cell hb c0
    obtain ⟨a, ha⟩ : ∃ a, k * fx = a := ⟨_, rfl⟩
    have hai : (k : Int) * (fx : Int) = (a : Int) := by rw [← ha, Int.natCast_mul]
    have ba : a ≤ k * 4 := by rw [← ha]; exact Nat.mul_le_mul_left k e2
    have HA := Lib.hid ha; clear ha
    have wa : IntKind.i64.wrap (a : Int) = (a : Int) := wrapN (by omega)
    by_cases hlt : a < W
    · have hkw := HW1.out k (HA.out ▸ hlt)
      go_upto_region 5 with fail
      refine Lex3.wp_region_lex [] (fun u' => u'.cell? ⟨w.heap.size, 0, none⟩ = some (.int .i64 k) ∧ u'.cell? ⟨b, 0, none⟩ = some (.int .i64 W)) (fun u n h => h) ⟨d0, p0⟩ (by kernel_rfl) (by kernel_rfl) ?_
      refine Lex3.run_free (v := ?_) (by rfl) (by rfl) (fun u => ?_) ?_; rotate_left; (go_simp; try with_reducible rfl); simp only [Act.put, List.setIfInBounds_toArray, List.set_cons_zero, List.set_cons_succ]
      refine Lex3.run_free (v := ?_) (by rfl) (by rfl) (fun u => ?_) ?_; rotate_left; (go_simp; try with_reducible rfl); simp only [Act.put, List.setIfInBounds_toArray, List.set_cons_zero, List.set_cons_succ]
      refine Lex3.run_free (v := ?_) (by rfl) (by rfl) (fun u => ?_) ?_; rotate_left; (go_simp; try with_reducible rfl); simp only [Act.put, List.setIfInBounds_toArray, List.set_cons_zero, List.set_cons_succ]
      refine Lex3.run_load (v := ?_) (by rfl) (by rfl) (fun u hu => ?_) ?_; rotate_left; (obtain ⟨hu0, hu1⟩ := hu; go_simp; try with_reducible rfl); simp only [Act.put, List.setIfInBounds_toArray, List.set_cons_zero, List.set_cons_succ]
      refine Lex3.run_free (v := ?_) (by rfl) (by rfl) (fun u => ?_) ?_; rotate_left; (go_simp; try with_reducible rfl); simp only [Act.put, List.setIfInBounds_toArray, List.set_cons_zero, List.set_cons_succ]
      refine Lex3.run_free (v := ?_) (by rfl) (by rfl) (fun u => ?_) ?_; rotate_left; (go_simp; try with_reducible rfl); simp only [Act.put, List.setIfInBounds_toArray, List.set_cons_zero, List.set_cons_succ]
      refine Lex3.run_free (v := ?_) (by rfl) (by rfl) (fun u => ?_) ?_; rotate_left; (go_simp; try with_reducible rfl); simp only [Act.put, List.setIfInBounds_toArray, List.set_cons_zero, List.set_cons_succ]
      refine Lex3.run_free (v := ?_) (by rfl) (by rfl) (fun u => ?_) ?_; rotate_left; (go_simp; try with_reducible rfl); simp only [Act.put, List.setIfInBounds_toArray, List.set_cons_zero, List.set_cons_succ]
      refine Lex3.run_free (v := ?_) (by rfl) (by rfl) (fun u => ?_) ?_; rotate_left; (go_simp; try with_reducible rfl); simp only [Act.put, List.setIfInBounds_toArray, List.set_cons_zero, List.set_cons_succ]
      refine Lex3.run_load (v := ?_) (by rfl) (by rfl) (fun u hu => ?_) ?_; rotate_left; (obtain ⟨hu0, hu1⟩ := hu; go_simp; try with_reducible rfl); simp only [Act.put, List.setIfInBounds_toArray, List.set_cons_zero, List.set_cons_succ]
      refine Lex3.run_free (v := ?_) (by rfl) (by rfl) (fun u => ?_) ?_; rotate_left; (go_simp; try with_reducible rfl); simp only [Act.put, List.setIfInBounds_toArray, List.set_cons_zero, List.set_cons_succ]
      refine Lex3.run_nil (fun n3 => ?_)
      go_wp2_with fail
      go_roundw
      case rel => exact ⟨k + 1, hkw, Blk.set (hq.drewN _) 0 _, (below_drewN hb _).setCell (Nat.le_refl _) _⟩
      case measure =>
        have q1 := natAt_of d0
        have q2 := natAt_of (show ((wr.drewN (1 + n3)).setCell ⟨w.heap.size, 0, none⟩ (.int .i64 ((k : Int) + 1))).cell? ⟨w.heap.size, 0, none⟩ = some (.int .i64 ((k : Int) + 1)) from by rw [(Blk.set (hq.drewN (1 + n3)) 0 _).cell]; rfl)
        omega
    · have hkw := HW2.out k (HA.out ▸ hlt) hk
      subst hkw
      go_upto_region 5 with fail
      refine Lex3.wp_region_lex [] (fun u' => u'.cell? ⟨w.heap.size, 0, none⟩ = some (.int .i64 k) ∧ u'.cell? ⟨b, 0, none⟩ = some (.int .i64 W)) (fun u n h => h) ⟨d0, p0⟩ (by kernel_rfl) (by kernel_rfl) ?_
      refine Lex3.run_free (v := ?_) (by rfl) (by rfl) (fun u => ?_) ?_; rotate_left; (go_simp; try with_reducible rfl); simp only [Act.put, List.setIfInBounds_toArray, List.set_cons_zero, List.set_cons_succ]
      refine Lex3.run_free (v := ?_) (by rfl) (by rfl) (fun u => ?_) ?_; rotate_left; (go_simp; try with_reducible rfl); simp only [Act.put, List.setIfInBounds_toArray, List.set_cons_zero, List.set_cons_succ]
      refine Lex3.run_free (v := ?_) (by rfl) (by rfl) (fun u => ?_) ?_; rotate_left; (go_simp; try with_reducible rfl); simp only [Act.put, List.setIfInBounds_toArray, List.set_cons_zero, List.set_cons_succ]
      refine Lex3.run_load (v := ?_) (by rfl) (by rfl) (fun u hu => ?_) ?_; rotate_left; (obtain ⟨hu0, hu1⟩ := hu; go_simp; try with_reducible rfl); simp only [Act.put, List.setIfInBounds_toArray, List.set_cons_zero, List.set_cons_succ]
      refine Lex3.run_free (v := ?_) (by rfl) (by rfl) (fun u => ?_) ?_; rotate_left; (go_simp; try with_reducible rfl); simp only [Act.put, List.setIfInBounds_toArray, List.set_cons_zero, List.set_cons_succ]
      refine Lex3.run_free (v := ?_) (by rfl) (by rfl) (fun u => ?_) ?_; rotate_left; (go_simp; try with_reducible rfl); simp only [Act.put, List.setIfInBounds_toArray, List.set_cons_zero, List.set_cons_succ]
      refine Lex3.run_free (v := ?_) (by rfl) (by rfl) (fun u => ?_) ?_; rotate_left; (go_simp; try with_reducible rfl); simp only [Act.put, List.setIfInBounds_toArray, List.set_cons_zero, List.set_cons_succ]
      refine Lex3.run_free (v := ?_) (by rfl) (by rfl) (fun u => ?_) ?_; rotate_left; (go_simp; try with_reducible rfl); simp only [Act.put, List.setIfInBounds_toArray, List.set_cons_zero, List.set_cons_succ]
      refine Lex3.run_free (v := ?_) (by rfl) (by rfl) (fun u => ?_) ?_; rotate_left; (go_simp; try with_reducible rfl); simp only [Act.put, List.setIfInBounds_toArray, List.set_cons_zero, List.set_cons_succ]
      refine Lex3.run_load (v := ?_) (by rfl) (by rfl) (fun u hu => ?_) ?_; rotate_left; (obtain ⟨hu0, hu1⟩ := hu; go_simp; try with_reducible rfl); simp only [Act.put, List.setIfInBounds_toArray, List.set_cons_zero, List.set_cons_succ]
      refine Lex3.run_free (v := ?_) (by rfl) (by rfl) (fun u => ?_) ?_; rotate_left; (go_simp; try with_reducible rfl); simp only [Act.put, List.setIfInBounds_toArray, List.set_cons_zero, List.set_cons_succ]
      refine Lex3.run_nil (fun n3 => ?_)
      clear hai ba wa hlt HA p0 d0 f0
      go_wp2_with fail
      go_loopw [] (fun wr => ∃ j : Nat, j ≤ high ∧ Blk wr w.heap.size 127 #[.int .i64 k, .int .i64 j, .slice none 0 0] ∧ Below w.heap.size w wr) (fun wr => high - natAt wr ⟨w.heap.size, 1, none⟩)
      case atStart => exact ⟨0, Nat.zero_le _, (hq.drewN (1 + n3) : Blk (wr.drewN (1 + n3)) _ _ _), below_drewN (⟨hb.os, hb.tape, hb.output, hb.size, hb.block⟩ : Below w.heap.size w wr.drew) n3⟩
      clear hq hb
      case round =>
        obtain ⟨j, hj, hq, hb⟩ := hrel
        have d1 : wr.cell? ⟨w.heap.size, 1, none⟩ = some (.int .i64 j) := by rw [hq.cell]; rfl
        have f1 : wr.frozen? ⟨w.heap.size, 1, none⟩ = false := hq.frozen 1
        have p1 := below_cell hb c1
        obtain ⟨a, ha⟩ : ∃ a, j * fy = a := ⟨_, rfl⟩
        have hai : (j : Int) * (fy : Int) = (a : Int) := by rw [← ha, Int.natCast_mul]
        have ba : a ≤ j * 4 := by rw [← ha]; exact Nat.mul_le_mul_left j e4
        have HA := Lib.hid ha; clear ha
        have wa : IntKind.i64.wrap (a : Int) = (a : Int) := wrapN (by omega)
        by_cases hlt : a < H
        · have hkw := HH1.out j (HA.out ▸ hlt)
          go_upto_region 7 with fail
          refine Lex3.wp_region_lex [] (fun u' => u'.cell? ⟨w.heap.size, 1, none⟩ = some (.int .i64 j) ∧ u'.cell? ⟨b, 1, none⟩ = some (.int .i64 H)) (fun u n h => h) ⟨d1, p1⟩ (by kernel_rfl) (by kernel_rfl) ?_
          refine Lex3.run_free (v := ?_) (by rfl) (by rfl) (fun u => ?_) ?_; rotate_left; (go_simp; try with_reducible rfl); simp only [Act.put, List.setIfInBounds_toArray, List.set_cons_zero, List.set_cons_succ]
          refine Lex3.run_free (v := ?_) (by rfl) (by rfl) (fun u => ?_) ?_; rotate_left; (go_simp; try with_reducible rfl); simp only [Act.put, List.setIfInBounds_toArray, List.set_cons_zero, List.set_cons_succ]
          refine Lex3.run_free (v := ?_) (by rfl) (by rfl) (fun u => ?_) ?_; rotate_left; (go_simp; try with_reducible rfl); simp only [Act.put, List.setIfInBounds_toArray, List.set_cons_zero, List.set_cons_succ]
          refine Lex3.run_load (v := ?_) (by rfl) (by rfl) (fun u hu => ?_) ?_; rotate_left; (obtain ⟨hu0, hu1⟩ := hu; go_simp; try with_reducible rfl); simp only [Act.put, List.setIfInBounds_toArray, List.set_cons_zero, List.set_cons_succ]
          refine Lex3.run_free (v := ?_) (by rfl) (by rfl) (fun u => ?_) ?_; rotate_left; (go_simp; try with_reducible rfl); simp only [Act.put, List.setIfInBounds_toArray, List.set_cons_zero, List.set_cons_succ]
          refine Lex3.run_free (v := ?_) (by rfl) (by rfl) (fun u => ?_) ?_; rotate_left; (go_simp; try with_reducible rfl); simp only [Act.put, List.setIfInBounds_toArray, List.set_cons_zero, List.set_cons_succ]
          refine Lex3.run_free (v := ?_) (by rfl) (by rfl) (fun u => ?_) ?_; rotate_left; (go_simp; try with_reducible rfl); simp only [Act.put, List.setIfInBounds_toArray, List.set_cons_zero, List.set_cons_succ]
          refine Lex3.run_free (v := ?_) (by rfl) (by rfl) (fun u => ?_) ?_; rotate_left; (go_simp; try with_reducible rfl); simp only [Act.put, List.setIfInBounds_toArray, List.set_cons_zero, List.set_cons_succ]
          refine Lex3.run_free (v := ?_) (by rfl) (by rfl) (fun u => ?_) ?_; rotate_left; (go_simp; try with_reducible rfl); simp only [Act.put, List.setIfInBounds_toArray, List.set_cons_zero, List.set_cons_succ]
          refine Lex3.run_load (v := ?_) (by rfl) (by rfl) (fun u hu => ?_) ?_; rotate_left; (obtain ⟨hu0, hu1⟩ := hu; go_simp; try with_reducible rfl); simp only [Act.put, List.setIfInBounds_toArray, List.set_cons_zero, List.set_cons_succ]
          refine Lex3.run_free (v := ?_) (by rfl) (by rfl) (fun u => ?_) ?_; rotate_left; (go_simp; try with_reducible rfl); simp only [Act.put, List.setIfInBounds_toArray, List.set_cons_zero, List.set_cons_succ]
          refine Lex3.run_nil (fun n4 => ?_)
          go_wp2_with fail
          go_roundw
          case rel => exact ⟨j + 1, hkw, Blk.set (hq.drewN _) 1 _, (below_drewN hb _).setCell (Nat.le_refl _) _⟩
          case measure =>
            have q1 := natAt_of d1
            have q2 := natAt_of (show ((wr.drewN (1 + n4)).setCell ⟨w.heap.size, 1, none⟩ (.int .i64 ((j : Int) + 1))).cell? ⟨w.heap.size, 1, none⟩ = some (.int .i64 ((j : Int) + 1)) from by rw [(Blk.set (hq.drewN (1 + n4)) 1 _).cell]; rfl)
            omega
        · have hkw := HH2.out j (HA.out ▸ hlt) hj
          subst hkw
          go_upto_region 7 with fail
          refine Lex3.wp_region_lex [] (fun u' => u'.cell? ⟨w.heap.size, 1, none⟩ = some (.int .i64 j) ∧ u'.cell? ⟨b, 1, none⟩ = some (.int .i64 H)) (fun u n h => h) ⟨d1, p1⟩ (by kernel_rfl) (by kernel_rfl) ?_
          refine Lex3.run_free (v := ?_) (by rfl) (by rfl) (fun u => ?_) ?_; rotate_left; (go_simp; try with_reducible rfl); simp only [Act.put, List.setIfInBounds_toArray, List.set_cons_zero, List.set_cons_succ]
          refine Lex3.run_free (v := ?_) (by rfl) (by rfl) (fun u => ?_) ?_; rotate_left; (go_simp; try with_reducible rfl); simp only [Act.put, List.setIfInBounds_toArray, List.set_cons_zero, List.set_cons_succ]
          refine Lex3.run_free (v := ?_) (by rfl) (by rfl) (fun u => ?_) ?_; rotate_left; (go_simp; try with_reducible rfl); simp only [Act.put, List.setIfInBounds_toArray, List.set_cons_zero, List.set_cons_succ]
          refine Lex3.run_load (v := ?_) (by rfl) (by rfl) (fun u hu => ?_) ?_; rotate_left; (obtain ⟨hu0, hu1⟩ := hu; go_simp; try with_reducible rfl); simp only [Act.put, List.setIfInBounds_toArray, List.set_cons_zero, List.set_cons_succ]
          refine Lex3.run_free (v := ?_) (by rfl) (by rfl) (fun u => ?_) ?_; rotate_left; (go_simp; try with_reducible rfl); simp only [Act.put, List.setIfInBounds_toArray, List.set_cons_zero, List.set_cons_succ]
          refine Lex3.run_free (v := ?_) (by rfl) (by rfl) (fun u => ?_) ?_; rotate_left; (go_simp; try with_reducible rfl); simp only [Act.put, List.setIfInBounds_toArray, List.set_cons_zero, List.set_cons_succ]
          refine Lex3.run_free (v := ?_) (by rfl) (by rfl) (fun u => ?_) ?_; rotate_left; (go_simp; try with_reducible rfl); simp only [Act.put, List.setIfInBounds_toArray, List.set_cons_zero, List.set_cons_succ]
          refine Lex3.run_free (v := ?_) (by rfl) (by rfl) (fun u => ?_) ?_; rotate_left; (go_simp; try with_reducible rfl); simp only [Act.put, List.setIfInBounds_toArray, List.set_cons_zero, List.set_cons_succ]
          refine Lex3.run_free (v := ?_) (by rfl) (by rfl) (fun u => ?_) ?_; rotate_left; (go_simp; try with_reducible rfl); simp only [Act.put, List.setIfInBounds_toArray, List.set_cons_zero, List.set_cons_succ]
          refine Lex3.run_load (v := ?_) (by rfl) (by rfl) (fun u hu => ?_) ?_; rotate_left; (obtain ⟨hu0, hu1⟩ := hu; go_simp; try with_reducible rfl); simp only [Act.put, List.setIfInBounds_toArray, List.set_cons_zero, List.set_cons_succ]
          refine Lex3.run_free (v := ?_) (by rfl) (by rfl) (fun u => ?_) ?_; rotate_left; (go_simp; try with_reducible rfl); simp only [Act.put, List.setIfInBounds_toArray, List.set_cons_zero, List.set_cons_succ]
          refine Lex3.run_nil (fun n4 => ?_)
          clear hai ba wa hlt HA p1 d1 f1
          go_wp2_with fail
          go_loopw [10] (fun i wr => ∃ y n' : Nat, y ≤ j ∧ y * k = n' ∧ i = .int .i64 y ∧ UpI w wr k j w.heap.size n' ((gridL k (dnV zs W H fx fy) n').map (.int .u8))) (fun i _ => j - (intOf i).toNat)
          case atStart => exact ⟨0, 0, Nat.zero_le _, Nat.zero_mul _, rfl, .slice none 0 0, (hq.drewN (1 + n4) : Blk (wr.drewN (1 + n4)) _ _ _), World.ownsRow_nil _ _ _ _, below_drewN (⟨hb.os, hb.tape, hb.output, hb.size, hb.block⟩ : Below w.heap.size w wr.drew) n4, by simp [Value.ownBlock], Nat.le_refl _⟩
          clear hq hb
          case round =>
            obtain ⟨y, n', hy, hn, rfl, hI⟩ := hrel
            have HNN := Lib.hid hn; clear hn
            have HI := hI
            obtain ⟨sv, i1, i2, i3, i4, i5⟩ := hI
            have d1 : wr.cell? ⟨w.heap.size, 1, none⟩ = some (.int .i64 j) := by rw [i1.cell]; rfl
            by_cases hlt : y < j
            · have hyi := HYI.out y hlt
              go_wp2_with fail
              clear d1 i1 i2 i3 i4 i5
              clear sv
              go_loopw [11] (fun i wr => ∃ x m : Nat, x ≤ k ∧ n' + x = m ∧ i = .int .i64 x ∧ UpI w wr k j w.heap.size m ((gridL k (dnV zs W H fx fy) m).map (.int .u8))) (fun i _ => k - (intOf i).toNat)
              case atStart => exact ⟨0, n', Nat.zero_le _, rfl, rfl, HI⟩
              clear HI
              case round =>
                obtain ⟨x, m, hx, hm, rfl, hI⟩ := hrel
                have HI := hI
                obtain ⟨sv, i1, i2, i3, i4, i5⟩ := hI
                have d0 : wr.cell? ⟨w.heap.size, 0, none⟩ = some (.int .i64 k) := by rw [i1.cell]; rfl
                by_cases hxl : x < k
                · have hmN : m < N := by
                    have h1 : (y + 1) * k ≤ j * k := Nat.mul_le_mul_right k hlt
                    rw [Nat.add_mul, Nat.one_mul, HNN.out, Nat.mul_comm j k, HN.out] at h1
                    omega
                  have hxi := HXI.out x hxl
                  obtain ⟨a, ha⟩ : ∃ a, fx * x = a := ⟨_, rfl⟩
                  obtain ⟨e, he⟩ : ∃ e, fy * y = e := ⟨_, rfl⟩
                  have hai : (fx : Int) * (x : Int) = (a : Int) := by rw [← ha, Int.natCast_mul]
                  have hei : (fy : Int) * (y : Int) = (e : Int) := by rw [← he, Int.natCast_mul]
                  rw [ha] at hxi
                  rw [he] at hyi
                  have HA := Lib.hid ha; clear ha
                  have HEE := Lib.hid he; clear he
                  have hpr := hp.below i3
                  have wa : IntKind.i64.wrap (a : Int) = (a : Int) := wrapN (by omega)
                  have we : IntKind.i64.wrap (e : Int) = (e : Int) := wrapN (by omega)
                  go_wp2_with fail
                  go_loopw [12, 13] (fun s i wk => ∃ l q q0 : Nat, l ≤ fy ∧ l * fx = q ∧ s = .int .i64 (sumV zs W H fx fy x y q) ∧ i = .int .i64 l ∧ wk = wr.drewN q0) (fun _ i _ => fy - (intOf i).toNat)
                  case atStart => exact ⟨0, 0, 0, Nat.zero_le _, Nat.zero_mul _, rfl, rfl, rfl⟩
                  case round =>
                    obtain ⟨l, q, q0, hl, hq, rfl, rfl, rfl⟩ := hrel
                    have HQ := Lib.hid hq; clear hq
                    by_cases hll : l < fy
                    · go_wp2_with fail
                      go_loopw [12, 14] (fun s i wk => ∃ o p q1 : Nat, o ≤ fx ∧ q + o = p ∧ s = .int .i64 (sumV zs W H fx fy x y p) ∧ i = .int .i64 o ∧ wk = wr.drewN q1) (fun _ i _ => fx - (intOf i).toNat)
                      case atStart => exact ⟨0, q, q0, Nat.zero_le _, rfl, rfl, rfl, rfl⟩
                      case round =>
                        obtain ⟨o, p, q1, ho, hpo, rfl, rfl, rfl⟩ := hrel
                        by_cases hol : o < fx
                        · have hsb := sumV_bnd hz W H fx fy x y p
                          have hpn : p < n := by
                            have h1 : (l + 1) * fx ≤ fy * fx := Nat.mul_le_mul_right fx hll
                            rw [Nat.add_mul, Nat.one_mul, HQ.out, Nat.mul_comm fy fx, HHN.out] at h1
                            omega
                          have hnx := sumV_next zs W H fx fy x y p
                          have r1 : p % fx = o := by rw [← hpo, ← HQ.out]; exact row_mod hol
                          have r2 : p / fx = l := by rw [← hpo, ← HQ.out]; exact row_div hol
                          have hvb := hz.near W H ((a + o : Nat) : Int) ((e + l : Nat) : Int)
                          rw [r1, r2, HA.out, HEE.out] at hnx
                          clear r1 r2
                          obtain ⟨s, hs⟩ : ∃ s, sumV zs W H fx fy x y p = s := ⟨_, rfl⟩
                          obtain ⟨t, ht⟩ : ∃ t, nearV zs W H ((a + o : Nat) : Int) ((e + l : Nat) : Int) = t := ⟨_, rfl⟩
                          rw [hs] at hnx hsb ⊢
                          rw [ht] at hnx hvb
                          have HT := Lib.hid ht
                          clear hs ht
                          have HNX := Lib.hid hnx; clear hnx
                          have HPO := Lib.hid hpo; clear hpo
                          have y3 : IntKind.i64.wrap t = t := IntWalk.i64_in _ (by omega)
                          have y4 : IntKind.i64.wrap (s + t) = s + t := IntWalk.i64_in _ (by omega)
                          go_wp2_with fail
                          refine (rnear_any b A W H c zs ((a : Int) + (o : Int)) ((e : Int) + (l : Int)) _ (hpr.drewN _) hW hH bW bH hsz).mono ?_
                          rintro e' w' ⟨rfl, q2, rfl⟩
                          rw [show nearV zs W H ((a : Int) + (o : Int)) ((e : Int) + (l : Int)) = t from by rw [← HT.out, Int.natCast_add, Int.natCast_add]]
                          go_wp2_with fail
                          go_roundw
                          case rel => exact ⟨o + 1, p + 1, q1 + q2, by omega, by have := HPO.out; omega, by rw [HNX.out], by go_num, by simp⟩
                          case measure => simp [intOf]; omega
                        · have ho2 : o = fx := by omega
                          clear ho hol
                          subst ho2
                          go_wp2_with fail
                          go_roundw
                          case rel => exact ⟨l + 1, p, q1, by omega, by rw [Nat.add_mul, Nat.one_mul, HQ.out]; exact hpo, rfl, by go_num, rfl⟩
                          case measure => simp [intOf]; omega
                    · have hl2 : l = fy := by omega
                      have hqn : q = n := by rw [← HQ.out, hl2, Nat.mul_comm]; exact HHN.out
                      clear hl2
                      subst hqn
                      have hsb := sumV_bnd hz W H fx fy x y q
                      have hv := HDV.out x y
                      have hvb := HBY.out x y
                      have hnx := gridL_next (dnV zs W H fx fy) hxl (show y * k + x = m by rw [HNN.out, hm])
                      obtain ⟨s, hs⟩ : ∃ s, sumV zs W H fx fy x y q = s := ⟨_, rfl⟩
                      obtain ⟨t, ht⟩ : ∃ t, dnV zs W H fx fy x y = t := ⟨_, rfl⟩
                      rw [hs] at hv hsb ⊢
                      rw [ht] at hv hvb hnx
                      clear hs ht
                      have HNX := Lib.hid hnx; clear hnx
                      rw [mean_step (by omega)] at hv
                      obtain ⟨v, hvq⟩ : ∃ v, s / (q : Int) = v := ⟨_, rfl⟩
                      have v0 : 0 ≤ v := by rw [← hvq]; exact Int.ediv_nonneg (by omega) (by omega)
                      have v1 : v ≤ s := by rw [← hvq]; exact Int.ediv_le_self _ (by omega)
                      have hvm := Int.mul_ediv_add_emod s (q : Int)
                      have hvr := Int.emod_nonneg s (show (q : Int) ≠ 0 by omega)
                      rw [hvq, Int.mul_comm] at hvm
                      rw [hvq] at hv
                      obtain ⟨r, hr⟩ : ∃ r, s % (q : Int) = r := ⟨_, rfl⟩
                      rw [hr] at hvm hvr
                      clear hr
                      have hvqt : s.tdiv (q : Int) = v := by rw [Int.tdiv_eq_ediv_of_nonneg (by omega)]; exact hvq
                      obtain ⟨d, hd⟩ : ∃ d, v * (q : Int) = d := ⟨_, rfl⟩
                      rw [hd] at hv hvm
                      obtain ⟨d1, hd1⟩ : ∃ d1, v * (fx : Int) = d1 := ⟨_, rfl⟩
                      have hd2 : d1 * (fy : Int) = d := by rw [← hd1, ← hd, Int.mul_assoc, hni]
                      have d10 : 0 ≤ d1 := by rw [← hd1]; exact Int.mul_nonneg v0 (by omega)
                      have d11 : d1 ≤ v * 4 := by rw [← hd1]; exact Int.mul_le_mul_of_nonneg_left (by omega) v0
                      have d20 : 0 ≤ d := by rw [← hd2]; exact Int.mul_nonneg d10 (by omega)
                      have d21 : d ≤ s := by omega
                      have wv : IntKind.i64.wrap v = v := IntWalk.i64_in _ (by omega)
                      have z0 : ¬ q = 0 := by omega
                      have d2 : wr.cell? ⟨w.heap.size, 2, none⟩ = some sv := by rw [i1.cell]; rfl
                      have wd1 : IntKind.i64.wrap d1 = d1 := IntWalk.i64_in _ (by omega)
                      have wd : IntKind.i64.wrap d = d := IntWalk.i64_in _ (by omega)
                      have wt : IntKind.u8.wrap t = t := by apply IntWalk.u8_in <;> omega
                      clear hd hvm d0 hai hei
                      by_cases hge : (q : Int) ≤ 2 * (s - d)
                      · have hv1 : v + 1 = t := by rw [hv, if_pos hge]
                        have hm1 : (v + 1) % 256 = t := by omega
                        have HV := Lib.hid hv1
                        clear hv hv1
                        go_wp2_with (at_builtin; refine wpList_append_lies _ rfl (.tmp 127) (.tmp 130) 28 rfl w.heap.size 5 i0 (.int .u8 0) 1 1 Try.underlying28 hi hz0 hz1 hz2 rfl (by decide) sv m _ rfl (show World.ownsRow _ _ _ _ _ _ _ from i2.alloc (.cells #[.int .u8 t] 5)) ⟨wr.heap.size, 0, none⟩ 1 1 [.int .u8 t] rfl rfl (show ∀ i u, _ → World.cell? _ _ = _ from cell_one_new (wr.drewN q0) _ _) (by intro u hu; simp at hu; subst hu; rfl) (by decide) (by unfold maxLen; omega) (by omega) (show w.heap.size ≤ (wr.alloc (.cells #[.int .u8 t] 5)).heap.size by simp; have := i3.size; omega) (wr.heap.size + 1) (show (wr.alloc (.cells #[.int .u8 t] 5)).heap.size = _ by simp) ?_; intro gg cap w1 hown1 hgrow hat hlt1; have hgrow' : ((wr.drewN q0).alloc (.cells #[.int .u8 t] 5)).grownBy w1 sv.ownBlock := ⟨hgrow.os, hgrow.tape, hgrow.output, hgrow.size, hgrow.block⟩; have b1 := ((i1.drewN q0).alloc (.cells #[.int .u8 t] 5)).grown hgrow' (fun h => i4 h.symm); have r2 : w1.cell? ⟨w.heap.size, 2, none⟩ = some sv := (by rw [b1.cell]; rfl); have r3 : w1.frozen? ⟨w.heap.size, 2, none⟩ = false := b1.frozen 2)
                        have hst := UpI.step (i1.drewN q0) (show World.ownsRow (wr.drewN q0) _ _ _ _ _ _ from i2) (below_drewN i3 q0) i4 (Nat.le_refl _) (show w1.ownsRow w.heap.size 5 1 (.slice (some ⟨gg, 0, none⟩) (m + 1) cap) (m + 1) ((gridL k (dnV zs W H fx fy) (m + 1)).map (.int .u8)) from by rw [HNX.out, List.map_append]; exact hown1) hgrow' hat 0 0
                        go_roundw
                        case rel => exact ⟨x + 1, m + 1, by omega, by omega, by go_num, hst⟩
                        case measure => simp [intOf]; omega
                      · have hv1 : v = t := by rw [hv, if_neg hge]
                        have hm1 : (v) % 256 = t := by omega
                        have HV := Lib.hid hv1
                        clear hv hv1
                        go_wp2_with (at_builtin; refine wpList_append_lies _ rfl (.tmp 127) (.tmp 130) 28 rfl w.heap.size 5 i0 (.int .u8 0) 1 1 Try.underlying28 hi hz0 hz1 hz2 rfl (by decide) sv m _ rfl (show World.ownsRow _ _ _ _ _ _ _ from i2.alloc (.cells #[.int .u8 t] 5)) ⟨wr.heap.size, 0, none⟩ 1 1 [.int .u8 t] rfl rfl (show ∀ i u, _ → World.cell? _ _ = _ from cell_one_new (wr.drewN q0) _ _) (by intro u hu; simp at hu; subst hu; rfl) (by decide) (by unfold maxLen; omega) (by omega) (show w.heap.size ≤ (wr.alloc (.cells #[.int .u8 t] 5)).heap.size by simp; have := i3.size; omega) (wr.heap.size + 1) (show (wr.alloc (.cells #[.int .u8 t] 5)).heap.size = _ by simp) ?_; intro gg cap w1 hown1 hgrow hat hlt1; have hgrow' : ((wr.drewN q0).alloc (.cells #[.int .u8 t] 5)).grownBy w1 sv.ownBlock := ⟨hgrow.os, hgrow.tape, hgrow.output, hgrow.size, hgrow.block⟩; have b1 := ((i1.drewN q0).alloc (.cells #[.int .u8 t] 5)).grown hgrow' (fun h => i4 h.symm); have r2 : w1.cell? ⟨w.heap.size, 2, none⟩ = some sv := (by rw [b1.cell]; rfl); have r3 : w1.frozen? ⟨w.heap.size, 2, none⟩ = false := b1.frozen 2)
                        have hst := UpI.step (i1.drewN q0) (show World.ownsRow (wr.drewN q0) _ _ _ _ _ _ from i2) (below_drewN i3 q0) i4 (Nat.le_refl _) (show w1.ownsRow w.heap.size 5 1 (.slice (some ⟨gg, 0, none⟩) (m + 1) cap) (m + 1) ((gridL k (dnV zs W H fx fy) (m + 1)).map (.int .u8)) from by rw [HNX.out, List.map_append]; exact hown1) hgrow' hat 0 0
                        go_roundw
                        case rel => exact ⟨x + 1, m + 1, by omega, by omega, by go_num, hst⟩
                        case measure => simp [intOf]; omega
                · have hxh : x = k := by omega
                  clear i1 i2 i3 i4 i5
                  clear sv
                  go_wp2_with fail
                  go_roundw
                  case rel => exact ⟨y + 1, m, by omega, by rw [Nat.add_mul, Nat.one_mul, HNN.out, ← hm, hxh], by go_num, HI⟩
                  case measure => simp [intOf]; omega
            · have hyh : y = j := by omega
              clear hy hlt
              subst hyh
              have hnN : n' = N := by have := HN.out; have := HNN.out; rw [Nat.mul_comm] at this; omega
              subst hnN
              obtain ⟨g1, cap, rfl, hg0, hg1⟩ := i2.form hN1
              obtain ⟨curg, hgb, hgs, hgt, hgn⟩ := row_of_owns i2
              go_wp2_with fail
              go_ret2
              refine ⟨w.heap.size, g1, cap, rfl, ⟨?_, ?_⟩, Nat.le_refl _, hg0, i3⟩
              · rw [HN.out]
                exact i1
              · rw [HN.out, HNN.out]
                exact Sl.of_blk hgb hgt (by omega)
end Go.Proofs.Ytlbocfinjlkebaa.Samp
