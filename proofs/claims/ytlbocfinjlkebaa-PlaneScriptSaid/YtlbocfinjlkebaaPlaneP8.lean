/- The plane's functions at samples of type uint8: what each returns and what becomes of memory. -/
import Derived.Test.YtlbocfinjlkebaaPlaneDef
import Derived.Test.YtlbocfinjlkebaaProg
namespace Go.Proofs.Ytlbocfinjlkebaa.P8
open Go.RowKit

abbrev PA (w : World) (b g W H c : Nat) (xs : List Value) : Prop := PlaneAt 132 5 w b g W H c xs

set_option maxHeartbeats 1000000 in
theorem in_any (b g W H c : Nat) (xs : List Value) (x y : Int) (w : World) (hp : PA w b g W H c xs) :
    Calls Try.prog 81 #[.pointer (some ⟨b, 0, none⟩), .int .i64 x, .int .i64 y] w fun e w' => e = .returned (.bool (inB x y W H)) ∧ w = w' := by
  have c0 := hp.c0
  have c1 := hp.c1
  unfold inB
  by_cases h1 : x < 0
  · go_enter Try.func81, Try.ntmps81
    go_wp2
    go_ret
    exact ⟨by simp; try omega, rfl⟩
  by_cases h2 : (W : Int) ≤ x
  · go_enter Try.func81, Try.ntmps81
    go_wp2
    go_ret
    exact ⟨by simp; try omega, rfl⟩
  by_cases h3 : y < 0
  · go_enter Try.func81, Try.ntmps81
    go_wp2
    go_ret
    exact ⟨by simp; try omega, rfl⟩
  by_cases h4 : (H : Int) ≤ y
  · go_enter Try.func81, Try.ntmps81
    go_wp2
    go_ret
    exact ⟨by simp; try omega, rfl⟩
  go_enter Try.func81, Try.ntmps81
  go_wp2
  go_ret
  exact ⟨by simp; try omega, rfl⟩

set_option maxHeartbeats 1000000 in
theorem at_in (b g W H c : Nat) (xs : List Value) (x y : Int) (w : World) (hp : PA w b g W H c xs) (hx : 0 ≤ x) (hx' : x < W) (hy : 0 ≤ y) (hy' : y < H) :
    Calls Try.prog 23 #[.pointer (some ⟨b, 0, none⟩), .int .i64 x, .int .i64 y] w fun e w' => e = .returned (.tuple #[smp xs W x y, .bool true]) ∧ ∃ k, w' = w.drewN k := by
  have c0 := hp.c0
  have c1 := hp.c1
  have c2 := hp.c2
  obtain ⟨m, hm, hm', hlt, hlt'⟩ := hp.place hx hx' hy hy'
  have hs := hp.size
  have hc := hp.cellAt hlt'
  have e1 : smp xs W x y = xs.getD (m + x.toNat) undef := by unfold smp; rw [hm']
  have hb : inB x y W H = true := by unfold inB; simp; omega
  rw [e1]
  obtain ⟨i, rfl⟩ := Int.eq_ofNat_of_zero_le hx
  simp only [Int.toNat_natCast] at hc hlt' ⊢
  generalize xs.getD (m + i) undef = v at *
  clear e1
  have HI := Lib.hid hb; clear hb
  have HM := Lib.hid hm'; clear hm'
  go_enter Try.func23, Try.ntmps23
  go_wp2_with (go_at_call 81; refine (in_any b g W H c xs _ _ _ hp).mono ?_; rw [HI.out]; rintro e w' ⟨rfl, rfl⟩)
  go_quiet (fail)
  go_wp2
  go_ret2
  exact ⟨rfl, _, rfl⟩

set_option maxHeartbeats 1000000 in
theorem at_out (b g W H c : Nat) (xs : List Value) (x y : Int) (w : World) (hp : PA w b g W H c xs) (hb : inB x y W H = false) :
    Calls Try.prog 23 #[.pointer (some ⟨b, 0, none⟩), .int .i64 x, .int .i64 y] w fun e w' => e = .returned (.tuple #[(.int .u8 0), .bool false]) ∧ w = w' := by
  have HI := Lib.hid hb; clear hb
  go_enter Try.func23, Try.ntmps23
  go_wp2_with (go_at_call 81; refine (in_any b g W H c xs _ _ _ hp).mono ?_; rw [HI.out]; rintro e w' ⟨rfl, rfl⟩)
  go_ret2
  exact ⟨rfl, rfl⟩

set_option maxHeartbeats 1000000 in
theorem size_any (b g W H c : Nat) (xs : List Value) (w : World) (hp : PA w b g W H c xs) :
    Calls Try.prog 72 #[.pointer (some ⟨b, 0, none⟩)] w fun e w' => e = .returned (.tuple #[.int .i64 W, .int .i64 H]) ∧ ∃ k, w' = w.drewN k := by
  have c0 := hp.c0
  have c1 := hp.c1
  go_enter Try.func72, Try.ntmps72
  go_wp2
  go_quiet (fail)
  go_wp2
  go_ret2
  exact ⟨rfl, _, rfl⟩

set_option maxHeartbeats 1000000 in
theorem near_any (b g W H c : Nat) (xs : List Value) (x y : Int) (w : World) (hp : PA w b g W H c xs) :
    Calls Try.prog 27 #[.pointer (some ⟨b, 0, none⟩), .int .i64 x, .int .i64 y] w fun e w' => e = .returned (smp xs W (clampI x W) (clampI y H)) ∧ ∃ k, w' = w.drewN k := by
  have c0 := hp.c0
  have c1 := hp.c1
  have c2 := hp.c2
  have hw := hp.wide
  have hh := hp.high
  obtain ⟨x0, x1⟩ := clampI_in x hw
  obtain ⟨y0, y1⟩ := clampI_in y hh
  obtain ⟨m, hm, hm', hlt, hlt'⟩ := hp.place x0 x1 y0 y1
  have hs := hp.size
  have hd := hp.side
  have hc := hp.cellAt hlt'
  have e1 : smp xs W (clampI x W) (clampI y H) = xs.getD (m + (clampI x W).toNat) undef := by unfold smp; rw [hm']
  rw [e1]
  obtain ⟨i, hi⟩ := Int.eq_ofNat_of_zero_le x0
  obtain ⟨j, hj⟩ := Int.eq_ofNat_of_zero_le y0
  rw [hi] at hlt hlt' hc x1 ⊢
  rw [hj] at hm y1
  simp only [Int.toNat_natCast] at hc hlt' ⊢
  generalize xs.getD (m + i) undef = v at *
  obtain ⟨a, ha⟩ : ∃ a : Int, (if (0 : Int) > x then 0 else x) = a := ⟨_, rfl⟩
  obtain ⟨d, hd'⟩ : ∃ d : Int, (if (0 : Int) > y then 0 else y) = d := ⟨_, rfl⟩
  have EX : (if (W : Int) - 1 < a then (W : Int) - 1 else a) = (i : Int) := by rw [← hi, ← ha]; unfold clampI; omega
  have EY : (if (H : Int) - 1 < d then (H : Int) - 1 else d) = (j : Int) := by rw [← hj, ← hd']; unfold clampI; omega
  clear e1 hm' hi hj x0 y0
  go_enter Try.func27, Try.ntmps27
  go_wp2
  go_quiet (fail)
  go_wp2
  go_ret
  exact ⟨rfl, _, rfl⟩
end Go.Proofs.Ytlbocfinjlkebaa.P8
