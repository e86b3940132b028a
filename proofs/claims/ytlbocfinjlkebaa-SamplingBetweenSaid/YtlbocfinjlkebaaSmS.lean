/- Smooth: straight lines from sample to sample: the program's walk and the document's, and why there is none. -/
import Derived.Test.YtlbocfinjlkebaaSmW
import Derived.Test.YtlbocfinjlkebaaSampDr
import Derived.Test.YtlbocfinjlkebaaPlanePFw
namespace Go.Proofs.Ytlbocfinjlkebaa.Samp
open Go.RowKit

/-- the steps from a to b, each of them a number -/
def Mix3 (a b s r : Nat) : Prop := ∃ d p, Ieee.single.sub b a = some d ∧ Ieee.single.mul d s = some p ∧ Ieee.single.add a p = some r
theorem mix_m {a b s r : Nat} (w : World) (h : Mix3 a b s r) : Calls Try.prog 91 #[.float .f32 a, .float .f32 b, .float .f32 s] w fun e w' => e = .returned (.float .f32 r) ∧ w = w' := by
  obtain ⟨d, p, h1, h2, h3⟩ := h
  exact mix_any a b s d p r w h1 h2 h3
theorem rmix_m {a b s r : Nat} (w : World) (h : Mix3 a b s r) : Calls Try.prog 89 #[.float .f32 a, .float .f32 b, .float .f32 s] w fun e w' => e = .returned (.float .f32 r) ∧ w = w' := by
  obtain ⟨d, p, h1, h2, h3⟩ := h
  exact rmix_any a b s d p r w h1 h2 h3
/-- of four bytes one float -/
def four (n1 n2 n3 n4 : Int) (s t : Nat) : Nat := Flo.mixB (Flo.mixB (floatOfInt .f32 n1) (floatOfInt .f32 n2) s) (Flo.mixB (floatOfInt .f32 n3) (floatOfInt .f32 n4) s) t
/-- a number from lo to hi -/
def In2 (lo hi n : Int) : Prop := lo ≤ n ∧ n ≤ hi
theorem four_ok {n1 n2 n3 n4 lo hi : Int} {s t : Nat} (h0 : 0 ≤ lo) (h255 : hi ≤ 255) (h1 : In2 lo hi n1) (h2 : In2 lo hi n2) (h3 : In2 lo hi n3) (h4 : In2 lo hi n4) (hs : Flo.Part s) (ht : Flo.Part t) :
    ∃ u v, Mix3 (floatOfInt .f32 n1) (floatOfInt .f32 n2) s u ∧ Mix3 (floatOfInt .f32 n3) (floatOfInt .f32 n4) s v ∧ Mix3 u v t (four n1 n2 n3 n4 s t) ∧ Flo.Amid lo hi (four n1 n2 n3 n4 s t) := by
  obtain ⟨d1, p1, a1, a2, a3, a4⟩ := Flo.mix_amid h0 h255 (Flo.byte_amid h0 h255 h1.1 h1.2) (Flo.byte_amid h0 h255 h2.1 h2.2) hs
  obtain ⟨d2, p2, b1, b2, b3, b4⟩ := Flo.mix_amid h0 h255 (Flo.byte_amid h0 h255 h3.1 h3.2) (Flo.byte_amid h0 h255 h4.1 h4.2) hs
  obtain ⟨d3, p3, c1, c2, c3, c4⟩ := Flo.mix_amid h0 h255 a4 b4 ht
  exact ⟨_, _, ⟨d1, p1, a1, a2, a3⟩, ⟨d2, p2, b1, b2, b3⟩, ⟨d3, p3, c1, c2, c3⟩, c4⟩
/-- a sample of the smooth plane -/
def smV (zs : List Int) (W H fx fy x y : Nat) : Nat :=
  four (nearV zs W H (Flo.wayI x fx) (Flo.wayI y fy)) (nearV zs W H (Flo.wayI x fx + 1) (Flo.wayI y fy)) (nearV zs W H (Flo.wayI x fx) (Flo.wayI y fy + 1)) (nearV zs W H (Flo.wayI x fx + 1) (Flo.wayI y fy + 1)) (Flo.wayS x fx) (Flo.wayS y fy)
theorem flts_oneCell (l : List Nat) : ∀ u ∈ l.map (Value.float .f32), u.oneCell' = true := by
  intro u hu
  obtain ⟨n, _, rfl⟩ := List.mem_map.1 hu
  rfl

set_option maxRecDepth 100000 in
set_option maxHeartbeats 8000000 in
theorem sm_yes (b g W H c : Nat) (zs : List Int) (fx fy wide high : Nat) (w : World) (hp : P8.PA w b g W H c (zs.map (.int .u8))) (hz : Bytes zs) (he : upE fx fy wide high W H = 0) :
    Calls Try.prog 39 #[.pointer (some ⟨b, 0, none⟩), .int .i64 fx, .int .i64 fy, .int .i64 wide, .int .i64 high] w (PF.MadeP w wide high ((gridL wide (smV zs W H fx fy) (high * wide)).map (.float .f32))) := by
  have hl : zs.length = W * H := by simpa using hp.len
  have hs := hp.side
  obtain ⟨i0, hi, hz0, hz1, hz2⟩ := info_parts PF.info
  have hE : 1 ≤ fx ∧ fx ≤ 4 ∧ 1 ≤ fy ∧ fy ≤ 4 ∧ 1 ≤ wide ∧ 1 ≤ high ∧ wide ≤ fx * W ∧ high ≤ fy * H ∧ wide * high ≤ 67108864 := by
    unfold upE at he
    split at he
    · omega
    · split at he
      · omega
      · rename_i h1 h2
        have h3 : ¬ (fx : Int) * (W : Int) < wide := fun h => h2 (.inr (.inr (.inl h)))
        have h4 : ¬ (fy : Int) * (H : Int) < high := fun h => h2 (.inr (.inr (.inr (.inl h))))
        have h5 : ¬ 67108864 < (wide : Int) * (high : Int) := fun h => h2 (.inr (.inr (.inr (.inr h))))
        rw [← Int.natCast_mul] at h3 h4 h5
        refine ⟨by omega, by omega, by omega, by omega, by omega, by omega, by omega, by omega, by omega⟩
  obtain ⟨e1, e2, e3, e4, e5, e6, e7, e8, e9⟩ := hE
  obtain ⟨N, hN⟩ : ∃ N, wide * high = N := ⟨_, rfl⟩
  have hNi : (wide : Int) * (high : Int) = (N : Int) := by rw [← hN, Int.natCast_mul]
  have hN1 : 1 ≤ N := by rw [← hN]; exact Nat.mul_le_mul e5 e6
  rw [hN] at e9
  have bw : wide ≤ 67108864 := by have := Nat.le_mul_of_pos_right wide (show 0 < high by omega); omega
  have bh : high ≤ 67108864 := by have := Nat.le_mul_of_pos_left high (show 0 < wide by omega); omega
  have HN := Lib.hid hN; clear hN
  have hsm : ∀ x y, ∃ u v, Mix3 (floatOfInt .f32 (nearV zs W H (Flo.wayI x fx) (Flo.wayI y fy))) (floatOfInt .f32 (nearV zs W H (Flo.wayI x fx + 1) (Flo.wayI y fy))) (Flo.wayS x fx) u ∧
      Mix3 (floatOfInt .f32 (nearV zs W H (Flo.wayI x fx) (Flo.wayI y fy + 1))) (floatOfInt .f32 (nearV zs W H (Flo.wayI x fx + 1) (Flo.wayI y fy + 1))) (Flo.wayS x fx) v ∧ Mix3 u v (Flo.wayS y fy) (smV zs W H fx fy x y) := by
    intro x y
    obtain ⟨u, v, a, b, c, _⟩ := four_ok (lo := 0) (hi := 255) (s := Flo.wayS x fx) (t := Flo.wayS y fy) (by omega) (by omega) (hz.near W H (Flo.wayI x fx) (Flo.wayI y fy)) (hz.near W H (Flo.wayI x fx + 1) (Flo.wayI y fy)) (hz.near W H (Flo.wayI x fx) (Flo.wayI y fy + 1)) (hz.near W H (Flo.wayI x fx + 1) (Flo.wayI y fy + 1)) (Flo.wayS_ok e1 e2).2 (Flo.wayS_ok e3 e4).2
    exact ⟨u, v, a, b, c⟩
  have HSM := Lib.hid hsm; clear hsm
  have fit : fitsB wide high = true := by
    rw [fitsB_iff]
    refine ⟨by omega, by omega, ?_⟩
    rw [hNi]; omega
  have hmk : ∀ u : World, (Instr.makeSlice 65 (.int .i64 0) (.int .i64 (N : Int))).run Try.prog u = .ok (.slice (some ⟨u.heap.size, 0, none⟩) 0 N) (u.alloc (.cells (madeCells (Value.cells (.float .f32 0)) N) 73)) := fun u => by
    have hr := run_make (P := Try.prog) u 65 73 i0 (.float .f32 0) Try.underlying65 hi hz0 .i64 .i64 0 N (by omega) (by omega) (by rw [hz2]; omega) (by omega)
    simpa [hz1] using hr
  have HE := Lib.hid he; clear he
  go_enter Try.func39, Try.ntmps39
  go_wp2_with fail
  refine (larger_any b g W H c _ fx fy wide high w hp).mono ?_
  rintro e w' ⟨rfl, n0, rfl⟩
  simp only [HE.out]
  go_wp2_with fail
  have w0 : Below w.heap.size w (w.drewN n0) := below_drewN (Below.refl _ _) n0
  go_loopw [13, 36] (fun s i wr => ∃ y n : Nat, y ≤ high ∧ y * wide = n ∧ i = .int .i64 y ∧ wr.ownsRow w.heap.size 73 1 s n ((gridL wide (smV zs W H fx fy) n).map (.float .f32)) ∧ Below w.heap.size w wr) (fun _ i _ => high - (intOf i).toNat)
  case atStart =>
    refine ⟨0, 0, Nat.zero_le _, Nat.zero_mul _, rfl, ?_, w0.alloc (by simp) _⟩
    exact World.ownsRow_made (w.drewN n0) (madeCells (Value.cells (.float .f32 0)) N) N (Nat.le_refl _) (by unfold maxLen; omega) (by rw [size_madeCells, Nat.mul_one])
  case round =>
    obtain ⟨y, n, hy, hn, rfl, hown, hb⟩ := hrel
    have HNN := Lib.hid hn; clear hn
    by_cases hlt : y < high
    · have bj := way_bnd (x := y) e3
      obtain ⟨j, hjj⟩ : ∃ j, Flo.wayI y fy = j := ⟨_, rfl⟩
      obtain ⟨t, htt⟩ : ∃ t, Flo.wayS y fy = t := ⟨_, rfl⟩
      rw [hjj] at bj
      have HJJ := Lib.hid hjj; clear hjj
      have HTT := Lib.hid htt; clear htt
      go_wp2_with fail
      refine (between_any y fy _ (by omega) e3 e4).mono ?_
      rintro e w' ⟨rfl, rfl⟩
      rw [HJJ.out, HTT.out]
      go_wp2_with fail
      go_loopw [13, 46] (fun s i wr => ∃ x m : Nat, x ≤ wide ∧ n + x = m ∧ i = .int .i64 x ∧ wr.ownsRow w.heap.size 73 1 s m ((gridL wide (smV zs W H fx fy) m).map (.float .f32)) ∧ Below w.heap.size w wr) (fun _ i _ => wide - (intOf i).toNat)
      case atStart => exact ⟨0, n, Nat.zero_le _, rfl, rfl, hown, hb⟩
      case round =>
        obtain ⟨x, m, hx, hm, rfl, hown, hb⟩ := hrel
        by_cases hxl : x < wide
        · have hjj := HJJ.out
          have htt := HTT.out
          have hmN : m < N := by
            have h1 : (y + 1) * wide ≤ high * wide := Nat.mul_le_mul_right wide hlt
            rw [Nat.add_mul, Nat.one_mul, HNN.out, Nat.mul_comm high wide, HN.out] at h1
            omega
          have hnx := gridL_next (smV zs W H fx fy) hxl (show y * wide + x = m by rw [HNN.out, hm])
          obtain ⟨u, v, m1, m2, m3⟩ := HSM.out x y
          have bi := way_bnd (x := x) e1
          obtain ⟨i, hii⟩ : ∃ i, Flo.wayI x fx = i := ⟨_, rfl⟩
          obtain ⟨s, hss⟩ : ∃ s, Flo.wayS x fx = s := ⟨_, rfl⟩
          rw [hii] at bi
          rw [hii, hjj, hss] at m1 m2
          rw [htt] at m3
          clear hjj htt
          obtain ⟨r, hr⟩ : ∃ r, smV zs W H fx fy x y = r := ⟨_, rfl⟩
          obtain ⟨n1, hn1⟩ : ∃ n, nearV zs W H i j = n := ⟨_, rfl⟩
          obtain ⟨n2, hn2⟩ : ∃ n, nearV zs W H (i + 1) j = n := ⟨_, rfl⟩
          obtain ⟨n3, hn3⟩ : ∃ n, nearV zs W H i (j + 1) = n := ⟨_, rfl⟩
          obtain ⟨n4, hn4⟩ : ∃ n, nearV zs W H (i + 1) (j + 1) = n := ⟨_, rfl⟩
          rw [hn1, hn2] at m1
          rw [hn3, hn4] at m2
          rw [hr] at m3 hnx
          have HII := Lib.hid hii; clear hii
          have HSS := Lib.hid hss; clear hss
          have HNX := Lib.hid hnx; clear hnx hr
          have H1 := Lib.hid hn1; clear hn1
          have H2 := Lib.hid hn2; clear hn2
          have H3 := Lib.hid hn3; clear hn3
          have H4 := Lib.hid hn4; clear hn4
          have M1 := Lib.hid m1; clear m1
          have M2 := Lib.hid m2; clear m2
          have M3 := Lib.hid m3; clear m3
          go_wp2_with fail
          refine (between_any x fx _ (by omega) e1 e2).mono ?_
          rintro e w' ⟨rfl, rfl⟩
          rw [HII.out, HSS.out]
          go_wp2_with fail
          refine (P8.near_any b g W H c _ i j _ (hp.below hb)).mono ?_
          rintro e w' ⟨rfl, k1, rfl⟩
          rw [near_smp _ _ hl hp.wide hp.high, H1.out]
          go_wp2_with fail
          refine (P8.near_any b g W H c _ (i + 1) j _ ((hp.below hb).drewN _)).mono ?_
          rintro e w' ⟨rfl, k2, rfl⟩
          rw [near_smp _ _ hl hp.wide hp.high, H2.out]
          go_wp2_with fail
          refine (mix_m _ M1.out).mono ?_
          rintro e w' ⟨rfl, rfl⟩
          go_wp2_with fail
          refine (P8.near_any b g W H c _ i (j + 1) _ ((hp.below hb).drewN _)).mono ?_
          rintro e w' ⟨rfl, k3, rfl⟩
          rw [near_smp _ _ hl hp.wide hp.high, H3.out]
          go_wp2_with fail
          refine (P8.near_any b g W H c _ (i + 1) (j + 1) _ ((hp.below hb).drewN _)).mono ?_
          rintro e w' ⟨rfl, k4, rfl⟩
          rw [near_smp _ _ hl hp.wide hp.high, H4.out]
          go_wp2_with fail
          refine (mix_m _ M2.out).mono ?_
          rintro e w' ⟨rfl, rfl⟩
          go_wp2_with fail
          refine (mix_m _ M3.out).mono ?_
          rintro e w' ⟨rfl, rfl⟩
          obtain ⟨wz, hwz⟩ : ∃ wz : Nat, k1 + k2 + k3 + k4 = wz := ⟨_, rfl⟩
          go_wp2_with (at_builtin; refine wpList_append_lies _ rfl (.tmp 83) (.tmp 88) 65 rfl w.heap.size 73 i0 (.float .f32 0) 1 4 Try.underlying65 hi hz0 hz1 hz2 rfl (by decide) _ m _ rfl (show World.ownsRow _ _ _ _ _ _ _ from hown.alloc (.cells #[.float .f32 r] 73)) ⟨wr.heap.size, 0, none⟩ 1 1 [.float .f32 r] rfl rfl (show ∀ i u, _ → World.cell? _ _ = _ from cell_one_new (wr.drewN (k1 + k2 + k3 + k4)) _ _) (by intro u hu; simp at hu; subst hu; rfl) (by decide) (by unfold maxLen; omega) (by omega) (show w.heap.size ≤ (wr.alloc (.cells #[.float .f32 r] 73)).heap.size by simp; have := hb.size; omega) (wr.heap.size + 1) (show (wr.alloc (.cells #[.float .f32 r] 73)).heap.size = _ by simp) ?_; intro gg cap w1 hown1 hgrow hat hlt1)
          have hb1 : Below w.heap.size w w1 := by
            have h1 : Below w.heap.size w ((wr.drewN (k1 + k2 + k3 + k4)).alloc (.cells #[.float .f32 r] 73)) := (below_drewN hb _).alloc hb.size _
            have h2 : ((wr.drewN (k1 + k2 + k3 + k4)).alloc (.cells #[.float .f32 r] 73)).grownBy w1 (Value.ownBlock _) := ⟨hgrow.os, hgrow.tape, hgrow.output, hgrow.size, hgrow.block⟩
            exact h1.grown h2 h1.size (fun j hj => (hown.lt j hj).1)
          have hown2 : w1.ownsRow w.heap.size 73 1 (.slice (some ⟨gg, 0, none⟩) (m + 1) cap) (m + 1) ((gridL wide (smV zs W H fx fy) (m + 1)).map (.float .f32)) := by
            rw [HNX.out, List.map_append]
            exact hown1
          go_roundw
          case rel => exact ⟨x + 1, m + 1, by omega, by omega, by go_num, hown2, hb1⟩
          case measure => simp [intOf]; omega
        · go_wp2_with fail
          go_roundw
          case rel => exact ⟨y + 1, m, by omega, by rw [Nat.add_mul, Nat.one_mul, HNN.out]; omega, by go_num, hown, hb⟩
          case measure => simp [intOf]; omega
    · have hyh : y = high := by omega
      subst hyh
      have hnN : n = N := by have := HN.out; have := HNN.out; rw [Nat.mul_comm] at this; omega
      subst hnN
      obtain ⟨g1, cap, rfl, hg0, hg1⟩ := hown.form hN1
      obtain ⟨curg, hgb, hgs, hgt, hgn⟩ := row_of_owns hown
      have sl0 : Sl wr (some ⟨g1, 0, none⟩) (wide * y) ((gridL wide (smV zs W H fx fy) (y * wide)).map (.float .f32)) := by
        rw [HN.out, HNN.out]
        exact Sl.of_blk hgb hgt (by omega)
      clear hown
      go_wp2_with fail
      refine (show Calls Try.prog 44 #[.int .i64 wide, .int .i64 y, .slice (some ⟨g1, 0, none⟩) n cap] _ _ from HN.out ▸ PF.of_yes wide y g1 0 cap _ _ fit sl0 (flts_oneCell _)).mono ?_
      rintro e w2 ⟨p, gp, cp, rfl, hp2, hpn, hgpn, hb2⟩
      go_wp2_with fail
      go_ret2
      exact ⟨p, gp, cp, rfl, hp2, Nat.le_trans hb.size hpn, Nat.le_trans hb.size hgpn, below_then hb hb2⟩
end Go.Proofs.Ytlbocfinjlkebaa.Samp
