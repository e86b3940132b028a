/- Between: the walks of low and ends. -/
import Derived.Test.YtlbocfinjlkebaaBetL
import Derived.Test.YtlbocfinjlkebaaBack
namespace Go.Proofs.Ytlbocfinjlkebaa.Samp
open Go.RowKit

set_option maxHeartbeats 1000000 in
theorem low_any (a : Int) (b : Nat) (w : World) (hb : 1 ≤ b) (hb8 : b ≤ 8) (h1 : -1000000000 ≤ a) (h2 : a ≤ 10000000000) :
    Calls Try.prog 70 #[.int .i64 a, .int .i64 b] w fun e w' => e = .returned (.int .i64 (a / (b : Int))) ∧ w = w' := by
  have hr : a.tmod (b : Int) < 0 ∧ a / (b : Int) = a.tdiv (b : Int) - 1 ∨ 0 ≤ a.tmod (b : Int) ∧ a / (b : Int) = a.tdiv (b : Int) := by
    by_cases h : 0 ≤ a
    · refine .inr ⟨Int.tmod_nonneg _ h, (Int.tdiv_eq_ediv_of_nonneg h).symm⟩
    · obtain ⟨m, hm⟩ : ∃ m, -a = m := ⟨_, rfl⟩
      have ha : a = -m := by omega
      subst ha
      rw [Int.neg_tmod, Int.neg_tdiv, Int.tmod_eq_emod_of_nonneg (by omega), Int.tdiv_eq_ediv_of_nonneg (by omega)]
      have e1 := Int.mul_ediv_add_emod m (b : Int)
      have e2 := Int.emod_nonneg m (show (b : Int) ≠ 0 by omega)
      have e3 := Int.emod_lt_of_pos m (show 0 < (b : Int) by omega)
      obtain ⟨q, hq⟩ : ∃ q, m / (b : Int) = q := ⟨_, rfl⟩
      obtain ⟨r, hr⟩ : ∃ r, m % (b : Int) = r := ⟨_, rfl⟩
      rw [hq, hr] at e1
      rw [hr] at e2 e3
      rw [hq, hr]
      by_cases hr0 : r = 0
      · refine .inr ⟨by omega, ?_⟩
        rw [show -m = (-q) * (b : Int) by rw [Int.neg_mul, Int.mul_comm]; omega]
        exact Int.mul_ediv_cancel _ (by omega)
      · refine .inl ⟨by omega, ?_⟩
        rw [show -m = ((b : Int) - r) + (-q - 1) * (b : Int) by rw [Int.sub_mul, Int.neg_mul, Int.mul_comm q]; omega, Int.add_mul_ediv_right _ _ (by omega), Int.ediv_eq_zero_of_lt (by omega) (by omega)]
        omega
  have hqb : -1000000001 ≤ a / (b : Int) ∧ a / (b : Int) ≤ 10000000000 := by
    constructor
    · rw [Int.le_ediv_iff_mul_le (by omega)]
      have : (b : Int) * 1000000001 ≥ 1 * 1000000001 := Int.mul_le_mul_of_nonneg_right (by omega) (by omega)
      rw [Int.mul_comm]
      omega
    · have : a / (b : Int) < 10000000001 := by
        rw [Int.ediv_lt_iff_lt_mul (by omega)]
        have : (b : Int) * 10000000001 ≥ 1 * 10000000001 := Int.mul_le_mul_of_nonneg_right (by omega) (by omega)
        rw [Int.mul_comm]
        omega
      omega
  obtain ⟨f, hf⟩ : ∃ f, a / (b : Int) = f := ⟨_, rfl⟩
  obtain ⟨r, hrr⟩ : ∃ r, a.tmod (b : Int) = r := ⟨_, rfl⟩
  obtain ⟨q, hqq⟩ : ∃ q, a.tdiv (b : Int) = q := ⟨_, rfl⟩
  rw [hf] at hr hqb ⊢
  rw [hrr, hqq] at hr
  clear hf
  have b0 : ¬ b = 0 := by omega
  have wr : -10 ≤ r ∧ r ≤ 10 := by
    rw [← hrr]
    have e1 : (a.tmod (b : Int)).natAbs < (b : Int).natAbs := by
      rw [Int.natAbs_tmod]
      exact Nat.mod_lt _ (by omega)
    omega
  have w1 : IntKind.i64.wrap r = r := IntWalk.i64_in _ (by omega)
  rcases hr with ⟨h3, h4⟩ | ⟨h3, h4⟩
  · have hq2 : q = f + 1 := by omega
    clear h4
    subst hq2
    have w2 : IntKind.i64.wrap (f + 1) = f + 1 := IntWalk.i64_in _ (by omega)
    have w3 : f + 1 - 1 = f := by omega
    have w4 : IntKind.i64.wrap f = f := IntWalk.i64_in _ (by omega)
    go_enter Try.func70, Try.ntmps70
    go_wp2_with fail
    go_ret
    exact ⟨rfl, rfl⟩
  · subst h4
    have w2 : IntKind.i64.wrap f = f := IntWalk.i64_in _ (by omega)
    go_enter Try.func70, Try.ntmps70
    go_wp2_with fail
    go_ret
    exact ⟨rfl, rfl⟩

/-- the least and the greatest of a rectangle's samples -/
def EndsS (w : World) (zs : List Int) (W H : Nat) (x y tx ty : Int) (e : Ending) (w' : World) : Prop :=
  ∃ lo hi : Int, e = .returned (.tuple #[.int .u8 lo, .int .u8 hi]) ∧ 0 ≤ lo ∧ lo ≤ 255 ∧ 0 ≤ hi ∧ hi ≤ 255 ∧ (∀ i j : Int, x ≤ i → i ≤ tx → y ≤ j → j ≤ ty → In2 lo hi (nearV zs W H i j)) ∧ ∃ k, w' = w.drewN k
set_option maxRecDepth 100000 in
set_option maxHeartbeats 4000000 in
theorem ends_of (b g W H c : Nat) (zs : List Int) (x y tx ty : Int) (w : World) (hp : P8.PA w b g W H c (zs.map (.int .u8))) (hz : Bytes zs) (bx : -1000000000 ≤ x) (by' : -1000000000 ≤ y) (bx2 : x ≤ 1000000000) (by2 : y ≤ 1000000000) (btx : tx ≤ 1000000000) (bty : ty ≤ 1000000000) :
    Calls Try.prog 71 #[.pointer (some ⟨b, 0, none⟩), .int .i64 x, .int .i64 y, .int .i64 tx, .int .i64 ty] w (EndsS w zs W H x y tx ty) := by
  have hl : zs.length = W * H := by simpa using hp.len
  have HL := Lib.hid hl; clear hl
  go_enter Try.func71, Try.ntmps71
  go_wp2_with fail
  go_loopw [12, 13, 14] (fun l m jj wr => ∃ (lo hi j : Int) (q : Nat), l = .int .u8 lo ∧ m = .int .u8 hi ∧ jj = .int .i64 j ∧ y ≤ j ∧ j ≤ 1000000001 ∧ 0 ≤ lo ∧ lo ≤ 255 ∧ 0 ≤ hi ∧ hi ≤ 255 ∧ (∀ i k : Int, x ≤ i → i ≤ tx → y ≤ k → k < j → In2 lo hi (nearV zs W H i k)) ∧ wr = w.drewN q) (fun _ _ jj _ => (ty + 1 - intOf jj).toNat)
  case atStart => exact ⟨255, 0, y, 0, rfl, rfl, rfl, by omega, by omega, by omega, by omega, by omega, by omega, fun i k _ _ h1 h2 => by omega, rfl⟩
  case round =>
    obtain ⟨lo, hi, j, q, rfl, rfl, rfl, j1, j2, l1, l2, l3, l4, hall, rfl⟩ := hrel
    have HALL := Lib.hid hall; clear hall
    by_cases hj : j ≤ ty
    · go_wp2_with fail
      go_loopw [12, 13, 15] (fun l m ii wr => ∃ (lo' hi' i : Int) (q : Nat), l = .int .u8 lo' ∧ m = .int .u8 hi' ∧ ii = .int .i64 i ∧ x ≤ i ∧ i ≤ 1000000001 ∧ 0 ≤ lo' ∧ lo' ≤ 255 ∧ 0 ≤ hi' ∧ hi' ≤ 255 ∧ lo' ≤ lo ∧ hi ≤ hi' ∧ (∀ k : Int, x ≤ k → k < i → In2 lo' hi' (nearV zs W H k j)) ∧ wr = w.drewN q) (fun _ _ ii _ => (tx + 1 - intOf ii).toNat)
      case atStart => exact ⟨lo, hi, x, q, rfl, rfl, rfl, by omega, by omega, by omega, by omega, by omega, by omega, by omega, by omega, fun k h1 h2 => by omega, rfl⟩
      case round =>
        obtain ⟨lo', hi', i, q, rfl, rfl, rfl, i1, i2, m1, m2, m3, m4, m5, m6, hrow, rfl⟩ := hrel
        have HROW := Lib.hid hrow; clear hrow
        by_cases hi2 : i ≤ tx
        · have hv := hz.near W H i j
          obtain ⟨v, hv'⟩ : ∃ v, nearV zs W H i j = v := ⟨_, rfl⟩
          rw [hv'] at hv
          have HV := Lib.hid hv'; clear hv'
          have wi : IntKind.i64.wrap (i + 1) = i + 1 := IntWalk.i64_in _ (by omega)
          have hnext : ∀ lo2 hi2 : Int, lo2 ≤ lo' → hi' ≤ hi2 → lo2 ≤ v → v ≤ hi2 → ∀ k : Int, x ≤ k → k < i + 1 → In2 lo2 hi2 (nearV zs W H k j) := by
            intro lo2 hi2 a1 a2 a3 a4 k k1 k2
            by_cases hk : k < i
            · have := HROW.out k k1 hk
              exact ⟨Int.le_trans a1 this.1, Int.le_trans this.2 a2⟩
            · obtain rfl : k = i := by omega
              rw [HV.out]
              exact ⟨a3, a4⟩
          have HN := Lib.hid hnext; clear hnext
          by_cases c1 : v < lo'
          · by_cases c2 : hi' < v
            · go_wp2_with fail
              refine (P8.near_any b g W H c _ i j _ (hp.drewN _)).mono ?_
              rintro e w' ⟨rfl, k, rfl⟩
              rw [near_smp _ _ HL.out hp.wide hp.high, HV.out]
              go_wp2_with fail
              go_roundw
              case rel => exact ⟨v, v, i + 1, _, rfl, rfl, rfl, by omega, by omega, by omega, by omega, by omega, by omega, by omega, by omega, HN.out _ _ (by omega) (by omega) (by omega) (by omega), rfl⟩
              case measure => simp [intOf]; omega
            · go_wp2_with fail
              refine (P8.near_any b g W H c _ i j _ (hp.drewN _)).mono ?_
              rintro e w' ⟨rfl, k, rfl⟩
              rw [near_smp _ _ HL.out hp.wide hp.high, HV.out]
              go_wp2_with fail
              go_roundw
              case rel => exact ⟨v, hi', i + 1, _, rfl, rfl, rfl, by omega, by omega, by omega, by omega, by omega, by omega, by omega, by omega, HN.out _ _ (by omega) (by omega) (by omega) (by omega), rfl⟩
              case measure => simp [intOf]; omega
          · by_cases c2 : hi' < v
            · go_wp2_with fail
              refine (P8.near_any b g W H c _ i j _ (hp.drewN _)).mono ?_
              rintro e w' ⟨rfl, k, rfl⟩
              rw [near_smp _ _ HL.out hp.wide hp.high, HV.out]
              go_wp2_with fail
              go_roundw
              case rel => exact ⟨lo', v, i + 1, _, rfl, rfl, rfl, by omega, by omega, by omega, by omega, by omega, by omega, by omega, by omega, HN.out _ _ (by omega) (by omega) (by omega) (by omega), rfl⟩
              case measure => simp [intOf]; omega
            · go_wp2_with fail
              refine (P8.near_any b g W H c _ i j _ (hp.drewN _)).mono ?_
              rintro e w' ⟨rfl, k, rfl⟩
              rw [near_smp _ _ HL.out hp.wide hp.high, HV.out]
              go_wp2_with fail
              go_roundw
              case rel => exact ⟨lo', hi', i + 1, _, rfl, rfl, rfl, by omega, by omega, by omega, by omega, by omega, by omega, by omega, by omega, HN.out _ _ (by omega) (by omega) (by omega) (by omega), rfl⟩
              case measure => simp [intOf]; omega
        · have wj : IntKind.i64.wrap (j + 1) = j + 1 := IntWalk.i64_in _ (by omega)
          go_wp2_with fail
          go_roundw
          case rel =>
            refine ⟨lo', hi', j + 1, q, rfl, rfl, rfl, by omega, by omega, by omega, by omega, by omega, by omega, fun a k a1 a2 k1 k2 => ?_, rfl⟩
            by_cases hk : k < j
            · have := HALL.out a k a1 a2 k1 hk
              exact ⟨Int.le_trans m5 this.1, Int.le_trans this.2 m6⟩
            · obtain rfl : k = j := by omega
              exact HROW.out a a1 (by omega)
          case measure => simp [intOf]; omega
    · go_wp2_with fail
      go_ret2
      exact ⟨lo, hi, rfl, l1, l2, l3, l4, fun i k a1 a2 k1 k2 => HALL.out i k a1 a2 k1 (by omega), q, rfl⟩
end Go.Proofs.Ytlbocfinjlkebaa.Samp
