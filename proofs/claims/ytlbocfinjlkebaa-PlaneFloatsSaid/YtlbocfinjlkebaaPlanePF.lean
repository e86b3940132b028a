/- The plane's functions at samples of type float32: what each returns and what becomes of memory. -/
import Derived.Test.YtlbocfinjlkebaaPlaneDef
import Derived.Test.YtlbocfinjlkebaaProg
namespace Go.Proofs.Ytlbocfinjlkebaa.PF
open Go.RowKit

abbrev PA (w : World) (b g W H c : Nat) (xs : List Value) : Prop := PlaneAt 142 73 w b g W H c xs

set_option maxHeartbeats 1000000 in
theorem in_any (b g W H c : Nat) (xs : List Value) (x y : Int) (w : World) (hp : PA w b g W H c xs) :
    Calls Try.prog 93 #[.pointer (some ⟨b, 0, none⟩), .int .i64 x, .int .i64 y] w fun e w' => e = .returned (.bool (inB x y W H)) ∧ w = w' := by
  have c0 := hp.c0
  have c1 := hp.c1
  unfold inB
  by_cases h1 : x < 0
  · go_enter Try.func93, Try.ntmps93
    go_wp2
    go_ret
    exact ⟨by simp; try omega, rfl⟩
  by_cases h2 : (W : Int) ≤ x
  · go_enter Try.func93, Try.ntmps93
    go_wp2
    go_ret
    exact ⟨by simp; try omega, rfl⟩
  by_cases h3 : y < 0
  · go_enter Try.func93, Try.ntmps93
    go_wp2
    go_ret
    exact ⟨by simp; try omega, rfl⟩
  by_cases h4 : (H : Int) ≤ y
  · go_enter Try.func93, Try.ntmps93
    go_wp2
    go_ret
    exact ⟨by simp; try omega, rfl⟩
  go_enter Try.func93, Try.ntmps93
  go_wp2
  go_ret
  exact ⟨by simp; try omega, rfl⟩

set_option maxHeartbeats 1000000 in
theorem at_in (b g W H c : Nat) (xs : List Value) (x y : Int) (w : World) (hp : PA w b g W H c xs) (hx : 0 ≤ x) (hx' : x < W) (hy : 0 ≤ y) (hy' : y < H) :
    Calls Try.prog 43 #[.pointer (some ⟨b, 0, none⟩), .int .i64 x, .int .i64 y] w fun e w' => e = .returned (.tuple #[smp xs W x y, .bool true]) ∧ ∃ k, w' = w.drewN k := by
  have c0 := hp.c0
  have c1 := hp.c1
  have c2 := hp.c2
  obtain ⟨m, hm, hm', hlt, hlt'⟩ := hp.place hx hx' hy hy'
  have hs := hp.size
  have hc := hp.cellAt hlt'
  have e1 : smp xs W x y = xs.getD (m + x.toNat) undef := by unfold smp; rw [hm']
  have hb : inB x y W H = true := by unfold inB; simp; omega
  rw [e1]
  obtain ⟨i, rfl⟩ := Int.eq_ofNat_of_zero_le hx
  simp only [Int.toNat_natCast] at hc hlt' ⊢
  generalize xs.getD (m + i) undef = v at *
  clear e1
  have HI := Lib.hid hb; clear hb
  have HM := Lib.hid hm'; clear hm'
  go_enter Try.func43, Try.ntmps43
  go_wp2_with (go_at_call 93; refine (in_any b g W H c xs _ _ _ hp).mono ?_; rw [HI.out]; rintro e w' ⟨rfl, rfl⟩)
  go_quiet (fail)
  go_wp2
  go_ret2
  exact ⟨rfl, _, rfl⟩

set_option maxHeartbeats 1000000 in
theorem at_out (b g W H c : Nat) (xs : List Value) (x y : Int) (w : World) (hp : PA w b g W H c xs) (hb : inB x y W H = false) :
    Calls Try.prog 43 #[.pointer (some ⟨b, 0, none⟩), .int .i64 x, .int .i64 y] w fun e w' => e = .returned (.tuple #[(.float .f32 0), .bool false]) ∧ w = w' := by
  have HI := Lib.hid hb; clear hb
  go_enter Try.func43, Try.ntmps43
  go_wp2_with (go_at_call 93; refine (in_any b g W H c xs _ _ _ hp).mono ?_; rw [HI.out]; rintro e w' ⟨rfl, rfl⟩)
  go_ret2
  exact ⟨rfl, rfl⟩

set_option maxHeartbeats 1000000 in
theorem size_any (b g W H c : Nat) (xs : List Value) (w : World) (hp : PA w b g W H c xs) :
    Calls Try.prog 40 #[.pointer (some ⟨b, 0, none⟩)] w fun e w' => e = .returned (.tuple #[.int .i64 W, .int .i64 H]) ∧ ∃ k, w' = w.drewN k := by
  have c0 := hp.c0
  have c1 := hp.c1
  go_enter Try.func40, Try.ntmps40
  go_wp2
  go_quiet (fail)
  go_wp2
  go_ret2
  exact ⟨rfl, _, rfl⟩

end Go.Proofs.Ytlbocfinjlkebaa.PF
