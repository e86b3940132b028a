/- On a straight line, at its beginning. Plain Lean. -/
import Derived.Test.YtlbocfinjlkebaaSmS
namespace Go.Proofs.Ytlbocfinjlkebaa.Flo
open Ieee

theorem mix_zero {a b s : Nat} {lo hi : Int} (h0 : 0 ≤ lo) (h255 : hi ≤ 255) (ha : Amid lo hi a) (hb : Amid lo hi b) (hs : Part s) (hz : V s = 0) : V (mixB a b s) = V a := by
  have p0 : 0 < (P 0 : Int) := by have := P_pos 0; omega
  have b0 : 0 ≤ lo * (P 0 : Int) := Int.mul_nonneg h0 (by omega)
  have b255 : hi * (P 0 : Int) ≤ 255 * (P 0 : Int) := Int.mul_le_mul_of_nonneg_right h255 (by omega)
  have a1 := ha.from_
  have a2 := ha.to_
  have b1 := hb.from_
  have b2 := hb.to_
  have big : 510 * P 0 ≤ P 100 := by
    rw [P100, Nat.mul_comm]
    exact Nat.mul_le_mul_left _ (by decide)
  obtain ⟨d, hd, rd⟩ := sub_rd hb.fin ha.fin (by omega)
  obtain ⟨p, v, hp, hv, rp⟩ := mul_rd rd.1 hs.fin (by rw [hz, Int.mul_zero]; exact Nat.zero_le _)
  have v0 : v = 0 := by
    rw [hz, Int.mul_zero] at hv
    rcases Int.mul_eq_zero.1 hv with h | h
    · exact h
    · omega
  have hp0 : V p = 0 := by
    rw [v0] at rp
    exact rp.exact rep_zero
  obtain ⟨r, hr, rr⟩ := add_rd ha.fin rp.1 (by omega)
  have hmix : mixB a b s = r := by
    unfold mixB
    rw [hd]
    simp only [Option.getD_some]
    rw [hp]
    simp only [Option.getD_some]
    rw [hr]
    rfl
  rw [hmix]
  rw [hp0, Int.add_zero] at rr
  exact rr.exact (rep_of_fin ha.fin)
def zeroB (f : Nat) : Bool := match single.div (floatOfInt .f32 0) (floatOfInt .f32 ((2 * f : Nat) : Int)) with
  | some q => decide (V q = 0)
  | none => false
theorem zero_all : ∀ f, f < 5 → 1 ≤ f → zeroB f = true := by decide +kernel
theorem wayS_zero {x f : Nat} (h : 1 ≤ f) (h4 : f ≤ 4) (hr : wayR x f = 0) : V (wayS x f) = 0 := by
  have h1 := (wayS_ok (x := x) h h4).1
  have h2 := zero_all f (by omega) h
  unfold zeroB at h2
  rw [hr] at h1
  rw [show ((0 : Nat) : Int) = 0 from rfl] at h1
  rw [h1] at h2
  simpa using h2
end Go.Proofs.Ytlbocfinjlkebaa.Flo
namespace Go.Proofs.Ytlbocfinjlkebaa.Samp
theorem four_zero {n1 n2 n3 n4 lo hi : Int} {s t : Nat} (h0 : 0 ≤ lo) (h255 : hi ≤ 255) (h1 : In2 lo hi n1) (h2 : In2 lo hi n2) (h3 : In2 lo hi n3) (h4 : In2 lo hi n4) (hs : Flo.Part s) (ht : Flo.Part t) (hs0 : Flo.V s = 0) (ht0 : Flo.V t = 0) :
    Flo.V (four n1 n2 n3 n4 s t) = n1 * (Flo.P 0 : Int) := by
  obtain ⟨d1, p1, a1, a2, a3, a4⟩ := Flo.mix_amid h0 h255 (Flo.byte_amid h0 h255 h1.1 h1.2) (Flo.byte_amid h0 h255 h2.1 h2.2) hs
  obtain ⟨d2, p2, b1, b2, b3, b4⟩ := Flo.mix_amid h0 h255 (Flo.byte_amid h0 h255 h3.1 h3.2) (Flo.byte_amid h0 h255 h4.1 h4.2) hs
  unfold four
  rw [Flo.mix_zero h0 h255 a4 b4 ht ht0, Flo.mix_zero h0 h255 (Flo.byte_amid h0 h255 h1.1 h1.2) (Flo.byte_amid h0 h255 h2.1 h2.2) hs hs0]
  have := h1.1
  have := h1.2
  exact (Flo.int_fin n1 (by omega)).2
/-- how far the samples of a smooth plane may be -/
theorem smV_amid {zs : List Int} {W H fx fy x y : Nat} {lo hi : Int} (h0 : 0 ≤ lo) (h255 : hi ≤ 255) (e1 : 1 ≤ fx) (e2 : fx ≤ 4) (e3 : 1 ≤ fy) (e4 : fy ≤ 4)
    (h1 : In2 lo hi (nearV zs W H (Flo.wayI x fx) (Flo.wayI y fy))) (h2 : In2 lo hi (nearV zs W H (Flo.wayI x fx + 1) (Flo.wayI y fy))) (h3 : In2 lo hi (nearV zs W H (Flo.wayI x fx) (Flo.wayI y fy + 1))) (h4 : In2 lo hi (nearV zs W H (Flo.wayI x fx + 1) (Flo.wayI y fy + 1))) :
    Flo.Amid lo hi (smV zs W H fx fy x y) := by
  obtain ⟨u, v, a, b, c, d⟩ := four_ok h0 h255 h1 h2 h3 h4 (Flo.wayS_ok (x := x) e1 e2).2 (Flo.wayS_ok (x := y) e3 e4).2
  exact d
/-- where a place lies upon a sample -/
theorem smV_mid {zs : List Int} (hz : Bytes zs) {W H fx fy x y : Nat} (e1 : 1 ≤ fx) (e2 : fx ≤ 4) (e3 : 1 ≤ fy) (e4 : fy ≤ 4) (hx : Flo.wayR x fx = 0) (hy : Flo.wayR y fy = 0) :
    Flo.V (smV zs W H fx fy x y) = nearV zs W H (Flo.wayI x fx) (Flo.wayI y fy) * (Flo.P 0 : Int) :=
  four_zero (lo := 0) (hi := 255) (by omega) (by omega) (hz.near W H _ _) (hz.near W H _ _) (hz.near W H _ _) (hz.near W H _ _) (Flo.wayS_ok e1 e2).2 (Flo.wayS_ok e3 e4).2 (Flo.wayS_zero e1 e2 hx) (Flo.wayS_zero e3 e4 hy)
theorem order_eq {a b : Nat} (ha : Flo.Fin a) (hb : Flo.Fin b) (h : Flo.V a = Flo.V b) : Ieee.single.order a b = some .eq := by
  rw [Flo.order_fin ha hb, h]
  simp [compare, compareOfLessAndEq]
end Go.Proofs.Ytlbocfinjlkebaa.Samp
