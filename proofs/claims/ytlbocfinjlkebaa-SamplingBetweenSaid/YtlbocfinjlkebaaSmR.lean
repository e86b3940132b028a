/- Smooth: the document's walk. -/
import Derived.Test.YtlbocfinjlkebaaSmS
namespace Go.Proofs.Ytlbocfinjlkebaa.Samp
open Go.RowKit

/-- what the document's Smooth makes -/
def MadeL (w0 : World) (n : Nat) (xs : List Value) (e : Ending) (w : World) : Prop :=
  ∃ g c, e = .returned (.tuple #[.slice (some ⟨g, 0, none⟩) n c, .int .i64 0]) ∧ Sl w (some ⟨g, 0, none⟩) n xs ∧ w0.heap.size ≤ g ∧ g < w.heap.size ∧ n ≤ c ∧ c ≤ maxLen ∧ Below w0.heap.size w0 w
set_option maxRecDepth 100000 in
set_option maxHeartbeats 8000000 in
theorem rsm_yes (b : Nat) (A : Option Addr) (W H c : Nat) (zs : List Int) (fx fy wide high : Nat) (w : World) (hp : RefAt w b A W H c zs) (hW1 : 1 ≤ W) (hH1 : 1 ≤ H) (hWH : W * H ≤ 67108864) (hz : Bytes zs) (he : upE fx fy wide high W H = 0) :
    Calls Try.prog 38 #[.pointer (some ⟨b, 0, none⟩), .int .i64 fx, .int .i64 fy, .int .i64 wide, .int .i64 high] w (MadeL w (high * wide) ((gridL wide (smV zs W H fx fy) (high * wide)).map (.float .f32))) := by
  have hW : W ≤ 67108864 := Nat.le_trans (Nat.le_mul_of_pos_right W hH1) hWH
  have hH : H ≤ 67108864 := Nat.le_trans (Nat.le_mul_of_pos_left H hW1) hWH
  obtain ⟨i0, hi, hz0, hz1, hz2⟩ := info_parts PF.info
  have hE : 1 ≤ fx ∧ fx ≤ 4 ∧ 1 ≤ fy ∧ fy ≤ 4 ∧ 1 ≤ wide ∧ 1 ≤ high ∧ wide ≤ fx * W ∧ high ≤ fy * H ∧ wide * high ≤ 67108864 := by
    unfold upE at he
    split at he
    · omega
    · split at he
      · omega
      · rename_i h1 h2
        have h3 : ¬ (fx : Int) * (W : Int) < wide := fun h => h2 (.inr (.inr (.inl h)))
        have h4 : ¬ (fy : Int) * (H : Int) < high := fun h => h2 (.inr (.inr (.inr (.inl h))))
        have h5 : ¬ 67108864 < (wide : Int) * (high : Int) := fun h => h2 (.inr (.inr (.inr (.inr h))))
        rw [← Int.natCast_mul] at h3 h4 h5
        refine ⟨by omega, by omega, by omega, by omega, by omega, by omega, by omega, by omega, by omega⟩
  obtain ⟨e1, e2, e3, e4, e5, e6, e7, e8, e9⟩ := hE
  obtain ⟨N, hN⟩ : ∃ N, wide * high = N := ⟨_, rfl⟩
  have hNi : (wide : Int) * (high : Int) = (N : Int) := by rw [← hN, Int.natCast_mul]
  have hN1 : 1 ≤ N := by rw [← hN]; exact Nat.mul_le_mul e5 e6
  rw [hN] at e9
  have bw : wide ≤ 67108864 := by have := Nat.le_mul_of_pos_right wide (show 0 < high by omega); omega
  have bh : high ≤ 67108864 := by have := Nat.le_mul_of_pos_left high (show 0 < wide by omega); omega
  have HN := Lib.hid hN; clear hN
  have hsm : ∀ x y, ∃ u v, Mix3 (floatOfInt .f32 (nearV zs W H (Flo.wayI x fx) (Flo.wayI y fy))) (floatOfInt .f32 (nearV zs W H (Flo.wayI x fx + 1) (Flo.wayI y fy))) (Flo.wayS x fx) u ∧
      Mix3 (floatOfInt .f32 (nearV zs W H (Flo.wayI x fx) (Flo.wayI y fy + 1))) (floatOfInt .f32 (nearV zs W H (Flo.wayI x fx + 1) (Flo.wayI y fy + 1))) (Flo.wayS x fx) v ∧ Mix3 u v (Flo.wayS y fy) (smV zs W H fx fy x y) := by
    intro x y
    obtain ⟨u, v, a, b, c, _⟩ := four_ok (lo := 0) (hi := 255) (s := Flo.wayS x fx) (t := Flo.wayS y fy) (by omega) (by omega) (hz.near W H (Flo.wayI x fx) (Flo.wayI y fy)) (hz.near W H (Flo.wayI x fx + 1) (Flo.wayI y fy)) (hz.near W H (Flo.wayI x fx) (Flo.wayI y fy + 1)) (hz.near W H (Flo.wayI x fx + 1) (Flo.wayI y fy + 1)) (Flo.wayS_ok e1 e2).2 (Flo.wayS_ok e3 e4).2
    exact ⟨u, v, a, b, c⟩
  have HSM := Lib.hid hsm; clear hsm
  have HE := Lib.hid he; clear he
  go_enter Try.func38, Try.ntmps38
  go_wp2_with fail
  refine (rlarger_any b A W H c _ fx fy wide high w hp hW hH).mono ?_
  rintro e w' ⟨rfl, n0, rfl⟩
  simp only [HE.out]
  go_wp2_with fail
  have w0 : Below w.heap.size w (w.drewN n0) := below_drewN (Below.refl _ _) n0
  go_loopw [13, 14] (fun s i wr => ∃ y n : Nat, y ≤ high ∧ y * wide = n ∧ i = .int .i64 y ∧ wr.ownsRow w.heap.size 73 1 s n ((gridL wide (smV zs W H fx fy) n).map (.float .f32)) ∧ Below w.heap.size w wr) (fun _ i _ => high - (intOf i).toNat)
  case atStart => exact ⟨0, 0, Nat.zero_le _, Nat.zero_mul _, rfl, World.ownsRow_nil _ _ _ _, w0⟩
  case round =>
    obtain ⟨y, n, hy, hn, rfl, hown, hb⟩ := hrel
    have HNN := Lib.hid hn; clear hn
    by_cases hlt : y < high
    · go_wp2_with fail
      go_loopw [13, 15] (fun s i wr => ∃ x m : Nat, x ≤ wide ∧ n + x = m ∧ i = .int .i64 x ∧ wr.ownsRow w.heap.size 73 1 s m ((gridL wide (smV zs W H fx fy) m).map (.float .f32)) ∧ Below w.heap.size w wr) (fun _ i _ => wide - (intOf i).toNat)
      case atStart => exact ⟨0, n, Nat.zero_le _, rfl, rfl, hown, hb⟩
      case round =>
        obtain ⟨x, m, hx, hm, rfl, hown, hb⟩ := hrel
        by_cases hxl : x < wide
        · have hmN : m < N := by
            have h1 : (y + 1) * wide ≤ high * wide := Nat.mul_le_mul_right wide hlt
            rw [Nat.add_mul, Nat.one_mul, HNN.out, Nat.mul_comm high wide, HN.out] at h1
            omega
          have hnx := gridL_next (smV zs W H fx fy) hxl (show y * wide + x = m by rw [HNN.out, hm])
          obtain ⟨u, v, m1, m2, m3⟩ := HSM.out x y
          have bi := way_bnd (x := x) e1
          have bj := way_bnd (x := y) e3
          obtain ⟨i, hii⟩ : ∃ i, Flo.wayI x fx = i := ⟨_, rfl⟩
          obtain ⟨s, hss⟩ : ∃ s, Flo.wayS x fx = s := ⟨_, rfl⟩
          obtain ⟨j, hjj⟩ : ∃ j, Flo.wayI y fy = j := ⟨_, rfl⟩
          obtain ⟨t, htt⟩ : ∃ t, Flo.wayS y fy = t := ⟨_, rfl⟩
          rw [hii] at bi
          rw [hii, hjj, hss] at m1 m2
          rw [htt] at m3
          rw [hjj] at bj
          obtain ⟨r, hr⟩ : ∃ r, smV zs W H fx fy x y = r := ⟨_, rfl⟩
          obtain ⟨n1, hn1⟩ : ∃ n, nearV zs W H i j = n := ⟨_, rfl⟩
          obtain ⟨n2, hn2⟩ : ∃ n, nearV zs W H (i + 1) j = n := ⟨_, rfl⟩
          obtain ⟨n3, hn3⟩ : ∃ n, nearV zs W H i (j + 1) = n := ⟨_, rfl⟩
          obtain ⟨n4, hn4⟩ : ∃ n, nearV zs W H (i + 1) (j + 1) = n := ⟨_, rfl⟩
          rw [hn1, hn2] at m1
          rw [hn3, hn4] at m2
          rw [hr] at m3 hnx
          have HII := Lib.hid hii; clear hii
          have HSS := Lib.hid hss; clear hss
          have HJJ := Lib.hid hjj; clear hjj
          have HTT := Lib.hid htt; clear htt
          have HNX := Lib.hid hnx; clear hnx hr
          have H1 := Lib.hid hn1; clear hn1
          have H2 := Lib.hid hn2; clear hn2
          have H3 := Lib.hid hn3; clear hn3
          have H4 := Lib.hid hn4; clear hn4
          have M1 := Lib.hid m1; clear m1
          have M2 := Lib.hid m2; clear m2
          have M3 := Lib.hid m3; clear m3
          go_wp2_with fail
          refine (way_any x fx _ (by omega) e1 e2).mono ?_
          rintro e w' ⟨rfl, rfl⟩
          rw [HII.out, HSS.out]
          go_wp2_with fail
          refine (way_any y fy _ (by omega) e3 e4).mono ?_
          rintro e w' ⟨rfl, rfl⟩
          rw [HJJ.out, HTT.out]
          go_wp2_with fail
          refine (rnear_any b A W H c zs i j _ (hp.below hb) hW1 hH1 hW hH hWH).mono ?_
          rintro e w' ⟨rfl, k1, rfl⟩
          rw [H1.out]
          go_wp2_with fail
          refine (rnear_any b A W H c zs (i + 1) j _ ((hp.below hb).drewN _) hW1 hH1 hW hH hWH).mono ?_
          rintro e w' ⟨rfl, k2, rfl⟩
          rw [H2.out]
          go_wp2_with fail
          refine (rmix_m _ M1.out).mono ?_
          rintro e w' ⟨rfl, rfl⟩
          go_wp2_with fail
          refine (rnear_any b A W H c zs i (j + 1) _ ((hp.below hb).drewN _) hW1 hH1 hW hH hWH).mono ?_
          rintro e w' ⟨rfl, k3, rfl⟩
          rw [H3.out]
          go_wp2_with fail
          refine (rnear_any b A W H c zs (i + 1) (j + 1) _ ((hp.below hb).drewN _) hW1 hH1 hW hH hWH).mono ?_
          rintro e w' ⟨rfl, k4, rfl⟩
          rw [H4.out]
          go_wp2_with fail
          refine (rmix_m _ M2.out).mono ?_
          rintro e w' ⟨rfl, rfl⟩
          go_wp2_with fail
          refine (rmix_m _ M3.out).mono ?_
          rintro e w' ⟨rfl, rfl⟩
          obtain ⟨wz, hwz⟩ : ∃ wz : Nat, k1 + k2 + k3 + k4 = wz := ⟨_, rfl⟩
          go_wp2_with (at_builtin; refine wpList_append_lies _ rfl (.tmp 81) (.tmp 86) 65 rfl w.heap.size 73 i0 (.float .f32 0) 1 4 Try.underlying65 hi hz0 hz1 hz2 rfl (by decide) _ m _ rfl (show World.ownsRow _ _ _ _ _ _ _ from hown.alloc (.cells #[.float .f32 r] 73)) ⟨wr.heap.size, 0, none⟩ 1 1 [.float .f32 r] rfl rfl (show ∀ i u, _ → World.cell? _ _ = _ from cell_one_new (wr.drewN (k1 + k2 + k3 + k4)) _ _) (by intro u hu; simp at hu; subst hu; rfl) (by decide) (by unfold maxLen; omega) (by omega) (show w.heap.size ≤ (wr.alloc (.cells #[.float .f32 r] 73)).heap.size by simp; have := hb.size; omega) (wr.heap.size + 1) (show (wr.alloc (.cells #[.float .f32 r] 73)).heap.size = _ by simp) ?_; intro gg cap w1 hown1 hgrow hat hlt1)
          have hb1 : Below w.heap.size w w1 := by
            have h1 : Below w.heap.size w ((wr.drewN (k1 + k2 + k3 + k4)).alloc (.cells #[.float .f32 r] 73)) := (below_drewN hb _).alloc hb.size _
            have h2 : ((wr.drewN (k1 + k2 + k3 + k4)).alloc (.cells #[.float .f32 r] 73)).grownBy w1 (Value.ownBlock _) := ⟨hgrow.os, hgrow.tape, hgrow.output, hgrow.size, hgrow.block⟩
            exact h1.grown h2 h1.size (fun j hj => (hown.lt j hj).1)
          have hown2 : w1.ownsRow w.heap.size 73 1 (.slice (some ⟨gg, 0, none⟩) (m + 1) cap) (m + 1) ((gridL wide (smV zs W H fx fy) (m + 1)).map (.float .f32)) := by
            rw [HNX.out, List.map_append]
            exact hown1
          go_roundw
          case rel => exact ⟨x + 1, m + 1, by omega, by omega, by go_num, hown2, hb1⟩
          case measure => simp [intOf]; omega
        · go_wp2_with fail
          go_roundw
          case rel => exact ⟨y + 1, m, by omega, by rw [Nat.add_mul, Nat.one_mul, HNN.out]; omega, by go_num, hown, hb⟩
          case measure => simp [intOf]; omega
    · have hyh : y = high := by omega
      subst hyh
      have hnN : n = N := by have := HN.out; have := HNN.out; rw [Nat.mul_comm] at this; omega
      subst hnN
      obtain ⟨g1, cap, rfl, hg0, hg1⟩ := hown.form hN1
      obtain ⟨curg, hgb, hgs, hgt, hgn, hgc, hgm⟩ := row_of_owns hown
      go_wp2_with fail
      go_ret2
      refine ⟨g1, cap, by rw [HNN.out]; rfl, ?_, hgn, hgb.lt, by rw [HNN.out]; exact hgc, hgm, hb⟩
      rw [HNN.out]
      exact Sl.of_blk hgb hgt (by omega)
end Go.Proofs.Ytlbocfinjlkebaa.Samp
