/- Up: a plane made larger by repeating: the program's walk. -/
import Derived.Test.YtlbocfinjlkebaaSampL
import Derived.Test.YtlbocfinjlkebaaGrid
import Derived.Test.YtlbocfinjlkebaaLex
import Derived.Deep.AppendLies
namespace Go.Proofs.Ytlbocfinjlkebaa.Samp
open Go.RowKit

/-- a sample of the larger plane -/
def upV (zs : List Int) (W fx fy x y : Nat) : Int := zs.getD (y / fy * W + x / fx) 0
theorem smp_map (zs : List Int) (W x y : Nat) (h : y * W + x < zs.length) : smp (zs.map (.int .u8)) W (x : Int) (y : Int) = .int .u8 (zs.getD (y * W + x) 0) := by
  unfold smp
  simp only [Int.toNat_natCast]
  rw [List.getD_eq_getElem?_getD, List.getElem?_map, List.getElem?_eq_getElem h, List.getD_eq_getElem?_getD, List.getElem?_eq_getElem h]
  rfl
theorem clampI_id {x n : Nat} (h : x < n) : clampI (x : Int) n = x := by unfold clampI; omega
theorem up_smp {zs : List Int} {W H fx fy x y : Nat} (hl : zs.length = W * H) (hx : x / fx < W) (hy : y / fy < H) :
    smp (zs.map (.int .u8)) W (clampI ((x / fx : Nat) : Int) W) (clampI ((y / fy : Nat) : Int) H) = .int .u8 (upV zs W fx fy x y) := by
  rw [clampI_id hx, clampI_id hy]
  exact smp_map zs W _ _ (by
    rw [hl, Nat.mul_comm W H]
    have : (y / fy + 1) * W ≤ H * W := Nat.mul_le_mul_right W hy
    rw [Nat.add_mul, Nat.one_mul] at this
    omega)

theorem MadeP8.from {w wr : World} {W H : Nat} {xs : List Value} {e : Ending} {w' : World} (h : P8.MadeP wr W H xs e w') (hb : Below w.heap.size w wr) : P8.MadeP w W H xs e w' := by
  obtain ⟨p, g, c, he, hp, h1, h2, h3⟩ := h
  exact ⟨p, g, c, he, hp, Nat.le_trans hb.size h1, Nat.le_trans hb.size h2, below_then hb h3⟩

set_option maxRecDepth 100000 in
set_option maxHeartbeats 4000000 in
theorem up_yes (b g W H c : Nat) (zs : List Int) (fx fy wide high : Nat) (w : World) (hp : P8.PA w b g W H c (zs.map (.int .u8))) (he : upE fx fy wide high W H = 0) :
    Calls Try.prog 37 #[.pointer (some ⟨b, 0, none⟩), .int .i64 fx, .int .i64 fy, .int .i64 wide, .int .i64 high] w (P8.MadeP w wide high ((gridL wide (upV zs W fx fy) (high * wide)).map (.int .u8))) := by
  obtain ⟨i0, hi, hz0, hz1, hz2⟩ := info_parts P8.info
  have hl : zs.length = W * H := by simpa using hp.len
  have hs := hp.side
  have hE : 1 ≤ fx ∧ fx ≤ 4 ∧ 1 ≤ fy ∧ fy ≤ 4 ∧ 1 ≤ wide ∧ 1 ≤ high ∧ wide ≤ fx * W ∧ high ≤ fy * H ∧ wide * high ≤ 67108864 := by
    unfold upE at he
    split at he
    · omega
    · split at he
      · omega
      · rename_i h1 h2
        have h3 : ¬ (fx : Int) * (W : Int) < wide := fun h => h2 (.inr (.inr (.inl h)))
        have h4 : ¬ (fy : Int) * (H : Int) < high := fun h => h2 (.inr (.inr (.inr (.inl h))))
        have h5 : ¬ 67108864 < (wide : Int) * (high : Int) := fun h => h2 (.inr (.inr (.inr (.inr h))))
        rw [← Int.natCast_mul] at h3 h4 h5
        refine ⟨by omega, by omega, by omega, by omega, by omega, by omega, by omega, by omega, by omega⟩
  obtain ⟨e1, e2, e3, e4, e5, e6, e7, e8, e9⟩ := hE
  obtain ⟨N, hN⟩ : ∃ N, wide * high = N := ⟨_, rfl⟩
  have hNi : (wide : Int) * (high : Int) = (N : Int) := by rw [← hN, Int.natCast_mul]
  have hN1 : 1 ≤ N := by rw [← hN]; exact Nat.mul_le_mul e5 e6
  rw [hN] at e9
  have bw : wide ≤ 67108864 := by have := Nat.le_mul_of_pos_right wide (show 0 < high by omega); omega
  have bh : high ≤ 67108864 := by have := Nat.le_mul_of_pos_left high (show 0 < wide by omega); omega
  have HN := Lib.hid hN; clear hN
  have fit : fitsB wide high = true := by
    rw [fitsB_iff]
    refine ⟨by omega, by omega, ?_⟩
    rw [hNi]; omega
  have hmk : ∀ u : World, (Instr.makeSlice 28 (.int .i64 0) (.int .i64 (N : Int))).run Try.prog u = .ok (.slice (some ⟨u.heap.size, 0, none⟩) 0 N) (u.alloc (.cells (madeCells (Value.cells (.int .u8 0)) N) 5)) := fun u => by
    have hr := run_make (P := Try.prog) u 28 5 i0 (.int .u8 0) Try.underlying28 hi hz0 .i64 .i64 0 N (by omega) (by omega) (by rw [hz2]; omega) (by omega)
    simpa [hz1] using hr
  have HE := Lib.hid he; clear he
  go_enter Try.func37, Try.ntmps37
  go_wp2_with fail
  refine (larger_any b g W H c _ fx fy wide high w hp).mono ?_
  rintro e w' ⟨rfl, n0, rfl⟩
  simp only [HE.out]
  go_wp2_with fail
  have w0 : Below w.heap.size w (w.drewN n0) := below_drewN (Below.refl _ _) n0
  go_loopw [13, 30] (fun s i wr => ∃ y n : Nat, y ≤ high ∧ y * wide = n ∧ i = .int .i64 y ∧ wr.ownsRow w.heap.size 5 1 s n ((gridL wide (upV zs W fx fy) n).map (.int .u8)) ∧ Below w.heap.size w wr) (fun _ i _ => high - (intOf i).toNat)
  case atStart =>
    refine ⟨0, 0, Nat.zero_le _, Nat.zero_mul _, rfl, ?_, w0.alloc (by simp) _⟩
    exact World.ownsRow_made (w.drewN n0) (madeCells (Value.cells (.int .u8 0)) N) N (Nat.le_refl _) (by unfold maxLen; omega) (by rw [size_madeCells, Nat.mul_one])
  case round =>
    obtain ⟨y, n, hy, hn, rfl, hown, hb⟩ := hrel
    have HNN := Lib.hid hn; clear hn
    by_cases hlt : y < high
    · go_wp2_with fail
      go_loopw [13, 34] (fun s i wr => ∃ x m : Nat, x ≤ wide ∧ n + x = m ∧ i = .int .i64 x ∧ wr.ownsRow w.heap.size 5 1 s m ((gridL wide (upV zs W fx fy) m).map (.int .u8)) ∧ Below w.heap.size w wr) (fun _ i _ => wide - (intOf i).toNat)
      case atStart => exact ⟨0, n, Nat.zero_le _, rfl, rfl, hown, hb⟩
      case round =>
        obtain ⟨x, m, hx, hm, rfl, hown, hb⟩ := hrel
        by_cases hxl : x < wide
        · have hmN : m < N := by
            have h1 : (y + 1) * wide ≤ high * wide := Nat.mul_le_mul_right wide hlt
            rw [Nat.add_mul, Nat.one_mul, HNN.out, Nat.mul_comm high wide, HN.out] at h1
            omega
          have q1 : x / fx < W := Nat.div_lt_of_lt_mul (by omega)
          have q2 : y / fy < H := Nat.div_lt_of_lt_mul (by omega)
          have hsm := up_smp (fx := fx) (fy := fy) (x := x) (y := y) hl q1 q2
          have z1 : ¬ fx = 0 := by omega
          have z2 : ¬ fy = 0 := by omega
          obtain ⟨u, hu⟩ : ∃ u, x / fx = u := ⟨_, rfl⟩
          obtain ⟨v, hv⟩ : ∃ v, y / fy = v := ⟨_, rfl⟩
          have y1 : IntKind.i64.wrap ((x : Int) / (fx : Int)) = (u : Int) := by rw [← hu, ← Int.natCast_ediv]; exact IntWalk.i64_in _ (by have := Nat.div_le_self x fx; omega)
          have y2 : IntKind.i64.wrap ((y : Int) / (fy : Int)) = (v : Int) := by rw [← hv, ← Int.natCast_ediv]; exact IntWalk.i64_in _ (by have := Nat.div_le_self y fy; omega)
          rw [hu, hv] at hsm
          rw [hu] at q1
          rw [hv] at q2
          clear hu hv
          go_upto_region 11 with fail
          refine Lex.wp_region_lex [27] (by kernel_rfl) (by kernel_rfl) ?_
          repeat (first | (refine Lex.run_free (v := ?_) (by rfl) (by rfl) (fun u => ?_) ?_; rotate_left; (go_simp; try with_reducible rfl); simp only [Act.put, List.setIfInBounds_toArray, List.set_cons_zero, List.set_cons_succ]) | (refine Lex.run_load (v := ?_) (by rfl) (by rfl) (fun n => ?_) ?_; rotate_left; (go_simp; try with_reducible rfl); simp only [Act.put, List.setIfInBounds_toArray, List.set_cons_zero, List.set_cons_succ]))
          refine Lex.run_call (v := .int .u8 (upV zs W fx fy x y)) (f := 27) (args := #[.pointer (some ⟨b, 0, none⟩), .int .i64 u, .int .i64 v]) (by rfl) (by rfl) (fun n => ?_) (fun n => ?_) ?_
          · go_simp
          · refine (P8.near_any b g W H c _ u v (wr.drew.drewN n) ((hp.below hb).keep rfl rfl)).mono ?_
            rintro e w' ⟨rfl, k, rfl⟩
            exact ⟨by rw [hsm], k, rfl⟩
          simp only [Act.put, List.setIfInBounds_toArray, List.set_cons_zero, List.set_cons_succ]
          refine Lex.run_eff (by rfl) (by rfl) (fun n' K' hK => ?_)
          go_simp
          refine hK _ _ ?_
          clear hK K'
          refine Lex.run_eff (by rfl) (by rfl) (fun n'' K' hK => ?_)
          refine wp_append_lies _ (.tmp 37) (.tmp 46) 28 rfl w.heap.size 5 i0 (.int .u8 0) 1 1 Try.underlying28 hi hz0 hz1 hz2 rfl (by decide) _ m _ (by rfl) (show World.ownsRow _ _ _ _ _ _ _ from hown.alloc (.cells #[.int .u8 (upV zs W fx fy x y)] 5)) ⟨wr.heap.size, 0, none⟩ 1 1 [.int .u8 (upV zs W fx fy x y)] (by rfl) rfl (show ∀ i u, _ → World.cell? _ _ = _ from cell_one_new wr _ _) (by intro u hu; simp at hu; subst hu; rfl) (by decide) (by unfold maxLen; omega) (by omega) (show w.heap.size ≤ (wr.alloc (.cells #[.int .u8 (upV zs W fx fy x y)] 5)).heap.size by simp; have := hb.size; omega) (wr.heap.size + 1) (show (wr.alloc (.cells #[.int .u8 (upV zs W fx fy x y)] 5)).heap.size = _ by simp) ?_
          intro gg cap w1 hown1 hgrow hat hlt1
          refine hK _ _ ?_
          clear hK K'
          simp only [Act.put, List.setIfInBounds_toArray, List.set_cons_zero, List.set_cons_succ]
          repeat (first | (refine Lex.run_free (v := ?_) (by rfl) (by rfl) (fun u => ?_) ?_; rotate_left; (go_simp; try with_reducible rfl); simp only [Act.put, List.setIfInBounds_toArray, List.set_cons_zero, List.set_cons_succ]))
          refine Lex.run_nil (fun n3 => ?_)
          have hb1 : Below w.heap.size w (w1.drewN n3) := by
            have h1 : Below w.heap.size w (wr.alloc (.cells #[.int .u8 (upV zs W fx fy x y)] 5)) := hb.alloc hb.size _
            have h2 : (wr.alloc (.cells #[.int .u8 (upV zs W fx fy x y)] 5)).grownBy w1 (Value.ownBlock _) := ⟨hgrow.os, hgrow.tape, hgrow.output, hgrow.size, hgrow.block⟩
            exact below_drewN (h1.grown h2 h1.size (fun j hj => (hown.lt j hj).1)) n3
          have hown2 : (w1.drewN n3).ownsRow w.heap.size 5 1 (.slice (some ⟨gg, 0, none⟩) (m + 1) cap) (m + 1) ((gridL wide (upV zs W fx fy) (m + 1)).map (.int .u8)) := by
            rw [gridL_next (upV zs W fx fy) hxl (show y * wide + x = m by rw [HNN.out, hm]), List.map_append]
            exact hown1
          go_wp2_with fail
          go_roundw
          case rel => exact ⟨x + 1, m + 1, by omega, by omega, by go_num, hown2, hb1⟩
          case measure => simp [intOf]; omega
        · go_wp2_with fail
          go_roundw
          case rel => exact ⟨y + 1, m, by omega, by rw [Nat.add_mul, Nat.one_mul, HNN.out]; omega, by go_num, hown, hb⟩
          case measure => simp [intOf]; omega
    · have hyh : y = high := by omega
      subst hyh
      have hnN : n = N := by have := HN.out; have := HNN.out; rw [Nat.mul_comm] at this; omega
      subst hnN
      obtain ⟨g1, cap, rfl, hg0, hg1⟩ := hown.form hN1
      obtain ⟨curg, hgb, hgs, hgt, hgn⟩ := row_of_owns hown
      have sl0 : Sl wr (some ⟨g1, 0, none⟩) (wide * y) ((gridL wide (upV zs W fx fy) (y * wide)).map (.int .u8)) := by
        rw [HN.out, HNN.out]
        exact Sl.of_blk hgb hgt (by omega)
      clear hown
      go_wp2_with fail
      refine (show Calls Try.prog 50 #[.int .i64 wide, .int .i64 y, .slice (some ⟨g1, 0, none⟩) n cap] _ _ from HN.out ▸ P8.of_yes wide y g1 0 cap _ _ fit sl0 (ints_oneCell .u8 _)).mono ?_
      rintro e w2 ⟨p, gp, cp, rfl, hp2, hpn, hgpn, hb2⟩
      go_wp2_with fail
      go_ret2
      exact MadeP8.from ⟨p, gp, cp, rfl, hp2, hpn, hgpn, hb2⟩ hb
end Go.Proofs.Ytlbocfinjlkebaa.Samp
