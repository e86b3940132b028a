/- A plane written over. -/
import Derived.Test.YtlbocfinjlkebaaPlaneP8w
namespace Go.Proofs.Ytlbocfinjlkebaa.Samp
open Go.RowKit

theorem over_next {xs : List Value} {v : Value} {n : Nat} (h : n < xs.length) : (List.replicate n v ++ xs.drop n).set n v = List.replicate (n + 1) v ++ xs.drop (n + 1) := by
  rw [List.set_append_right _ _ (by simp)]
  simp only [List.length_replicate, Nat.sub_self]
  rw [List.drop_eq_getElem_cons h, List.set_cons_zero, List.replicate_succ', List.append_assoc]
  rfl

/-- every sample is v -/
def Spoilt (w : World) (b g W H c : Nat) (v : Int) (e : Ending) (w' : World) : Prop :=
  e = .returned (.tuple #[]) ∧ P8.PA w' b g W H c ((List.replicate (W * H) v).map (.int .u8)) ∧ w.grownBy w' (some g)

theorem spoilt_nil (v : Int) (w : World) : Calls Try.prog 22 #[.pointer none, .int .u8 v] w fun e w' => e = .returned (.tuple #[]) ∧ w = w' := by
  go_enter Try.func22, Try.ntmps22
  go_wp2_with fail
  refine bodyPost_ret (results_none rfl _ _ _) rfl ?_
  exact ⟨rfl, rfl⟩

set_option maxHeartbeats 2000000 in
theorem spoilt_any (b g W H c : Nat) (xs : List Value) (v : Int) (w : World) (hp : P8.PA w b g W H c xs) :
    Calls Try.prog 22 #[.pointer (some ⟨b, 0, none⟩), .int .u8 v] w (Spoilt w b g W H c v) := by
  have hs := hp.side
  have hsz := hp.size
  have hlen := hp.len
  obtain ⟨N, hN⟩ : ∃ N, W * H = N := ⟨_, rfl⟩
  rw [hN] at hlen
  have HN := Lib.hid hN; clear hN
  go_enter Try.func22, Try.ntmps22
  go_wp2_with fail
  refine (P8.size_any b g W H c _ w hp).mono ?_
  rintro e w' ⟨rfl, n0, rfl⟩
  go_wp2_with fail
  go_loopw [6] (fun i wr => ∃ y n : Nat, y ≤ H ∧ y * W = n ∧ i = .int .i64 y ∧ P8.PA wr b g W H c (List.replicate n (.int .u8 v) ++ xs.drop n) ∧ w.grownBy wr (some g)) (fun i _ => H - (intOf i).toNat)
  case atStart => exact ⟨0, 0, Nat.zero_le _, Nat.zero_mul _, rfl, by simpa using hp.drewN n0, grown_drewN (World.grownBy.refl _ _) _⟩
  case round =>
    obtain ⟨y, n, hy, hn, rfl, hpr, hgr⟩ := hrel
    have HNN := Lib.hid hn; clear hn
    by_cases hlt : y < H
    · go_wp2_with fail
      go_loopw [7] (fun i wr => ∃ x m : Nat, x ≤ W ∧ n + x = m ∧ i = .int .i64 x ∧ P8.PA wr b g W H c (List.replicate m (.int .u8 v) ++ xs.drop m) ∧ w.grownBy wr (some g)) (fun i _ => W - (intOf i).toNat)
      case atStart => exact ⟨0, n, Nat.zero_le _, rfl, rfl, hpr, hgr⟩
      case round =>
        obtain ⟨x, m, hx, hm, rfl, hpr, hgr⟩ := hrel
        by_cases hxl : x < W
        · have hmN : m < N := by
            have h1 : (y + 1) * W ≤ H * W := Nat.mul_le_mul_right W hlt
            rw [Nat.add_mul, Nat.one_mul, HNN.out, Nat.mul_comm H W, HN.out] at h1
            omega
          go_wp2_with fail
          refine (P8.set_in b g W H c _ x y v _ hpr (by omega) (by omega) (by omega) (by omega)).mono ?_
          rintro e w1 ⟨rfl, hp1, hg1⟩
          have e1 : (List.replicate m (Value.int .u8 v) ++ xs.drop m).set ((y : Int).toNat * W + (x : Int).toNat) (.int .u8 v) = List.replicate (m + 1) (.int .u8 v) ++ xs.drop (m + 1) := by
            have e2 : (y : Int).toNat * W + (x : Int).toNat = m := by simp only [Int.toNat_natCast]; rw [HNN.out, hm]
            rw [e2]
            exact over_next (by omega)
          rw [e1] at hp1
          have hg2 := grown_then hgr hg1
          clear e1
          go_wp2_with fail
          go_roundw
          case rel => exact ⟨x + 1, m + 1, by omega, by omega, by go_num, hp1, hg2⟩
          case measure => simp [intOf]; omega
        · go_wp2_with fail
          go_roundw
          case rel => exact ⟨y + 1, m, by omega, by rw [Nat.add_mul, Nat.one_mul, HNN.out]; omega, by go_num, hpr, hgr⟩
          case measure => simp [intOf]; omega
    · have hyh : y = H := by omega
      subst hyh
      have hnN : n = N := by have := HN.out; have := HNN.out; rw [Nat.mul_comm] at this; omega
      subst hnN
      go_wp2_with fail
      refine bodyPost_ret (results_none rfl _ _ _) rfl ?_
      refine ⟨rfl, ?_, hgr⟩
      rw [List.drop_of_length_le (by omega), List.append_nil] at hpr
      rw [HN.out, List.map_replicate]
      exact hpr
end Go.Proofs.Ytlbocfinjlkebaa.Samp
