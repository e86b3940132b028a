/- PlaneFull: the greatest planes may be, and one more may not: the closed law answers true. -/
import Derived.Test.YtlbocfinjlkebaaAwake
import Derived.Test.YtlbocfinjlkebaaPlaneP8w
namespace Go.Proofs.Ytlbocfinjlkebaa.PlaneFull
open Go.RowKit

theorem smp_rep (n W : Nat) (z : Value) (x y : Int) (h : y.toNat * W + x.toNat < n) : smp (List.replicate n z) W x y = z := by
  unfold smp
  rw [List.getD_eq_getElem?_getD, List.getElem?_replicate, if_pos h]
  rfl
theorem smp_set (xs : List Value) (W : Nat) (v : Value) (x y : Int) (h : y.toNat * W + x.toNat < xs.length) : smp (xs.set (y.toNat * W + x.toNat) v) W x y = v := by
  unfold smp
  rw [List.getD_eq_getElem?_getD, List.getElem?_set_self h]
  rfl

set_option maxRecDepth 100000 in
set_option maxHeartbeats 4000000 in
theorem full_any (w : World) : Calls Try.prog 5 #[] w (TrueB w) := by
  have f0 : fitsB 8192 8192 = true := by decide
  have f1 : fitsB 8192 8193 = false := by decide
  have f2 : fitsB 67108865 1 = false := by decide
  have f3 : fitsB 4294967296 4294967296 = false := by decide
  have f4 : fitsB 3 6148914691236517206 = false := by decide
  have f5 : fitsB 6148914691236517206 3 = false := by decide
  have F0 := Lib.hid f0; clear f0
  have F1 := Lib.hid f1; clear f1
  have F2 := Lib.hid f2; clear f2
  have F3 := Lib.hid f3; clear f3
  have F4 := Lib.hid f4; clear f4
  have F5 := Lib.hid f5; clear f5
  go_enter Try.func5, Try.ntmps5
  go_wp2_with fail
  refine (awake_any _).mono ?_
  rintro e w1 ⟨rfl, b1⟩
  go_wp2_with fail
  refine (show Calls Try.prog 25 #[.int .i64 8192, .int .i64 8192] _ _ from P8.new_yes 8192 8192 _ F0.out).mono ?_
  rintro e w2 ⟨rfl, hp, b2⟩
  have hlen : (List.replicate (8192 * 8192) (Value.int .u8 0)).length = 8192 * 8192 := List.length_replicate
  have hz := smp_rep (8192 * 8192) 8192 (.int .u8 0) 8191 8191 (by decide)
  generalize List.replicate (8192 * 8192) (Value.int .u8 0) = xs at hp hlen hz
  have HL := Lib.hid hlen; clear hlen
  have HZ := Lib.hid hz; clear hz
  go_wp2_with fail
  refine (P8.new_no _ _ _ F1.out).mono ?_
  rintro e w' ⟨rfl, rfl⟩
  go_wp2_with fail
  refine (P8.new_no _ _ _ F2.out).mono ?_
  rintro e w' ⟨rfl, rfl⟩
  go_wp2_with fail
  refine (P8.new_no _ _ _ F3.out).mono ?_
  rintro e w' ⟨rfl, rfl⟩
  go_wp2_with fail
  refine (P8.new_no _ _ _ F4.out).mono ?_
  rintro e w' ⟨rfl, rfl⟩
  go_wp2_with fail
  refine (P8.new_no _ _ _ F5.out).mono ?_
  rintro e w' ⟨rfl, rfl⟩
  go_wp2_with fail
  refine (P8.at_in _ _ 8192 8192 _ xs 8191 8191 _ hp (by decide) (by decide) (by decide) (by decide)).mono ?_
  rintro e w3 ⟨he, k, rfl⟩
  rw [HZ.out] at he
  subst he
  go_wp2_with fail
  have hp3 := hp.drewN k
  refine (P8.set_in _ _ 8192 8192 _ xs 8191 8191 9 _ hp3 (by decide) (by decide) (by decide) (by decide)).mono ?_
  rintro e w4 ⟨rfl, hp4, hg4⟩
  have hz4 : smp (xs.set ((8191 : Int).toNat * 8192 + (8191 : Int).toNat) (.int .u8 9)) 8192 (clampI 1073741824 8192) (clampI 1073741824 8192) = .int .u8 9 := by
    have e1 : clampI 1073741824 8192 = 8191 := by decide
    rw [e1]
    exact smp_set xs 8192 _ 8191 8191 (by rw [HL.out]; decide)
  have HZ4 := Lib.hid hz4; clear hz4
  go_wp2_with fail
  refine (P8.near_any _ _ 8192 8192 _ _ 1073741824 1073741824 _ hp4).mono ?_
  rintro e w5 ⟨he, k5, rfl⟩
  rw [HZ4.out] at he
  subst he
  go_wp2_with fail
  go_ret
  have a2 := b1.trans (b2.mono b1.size)
  have a4 := (below_drewN a2 k).grown hg4 (by simpa using a2.size) (fun j hj => by injection hj with hj; rw [← hj]; exact b1.size)
  exact ⟨rfl, below_drewN a4 _⟩
end Go.Proofs.Ytlbocfinjlkebaa.PlaneFull
