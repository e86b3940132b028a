/- SamplingBack: made larger and smaller again it is the plane: the walk. -/
import Derived.Test.YtlbocfinjlkebaaBackL
import Derived.Test.YtlbocfinjlkebaaAlive
import Derived.OwnWalk
namespace Go.Proofs.Ytlbocfinjlkebaa.Samp
open Go.RowKit

set_option maxHeartbeats 1000000 in
theorem factor_any (n : Int) (w : World) (h1 : -9223372036854775808 ≤ n) (h2 : n ≤ 9223372036854775807) :
    Calls Try.prog 67 #[.int .i64 n] w fun e w' => e = .returned (.int .i64 (n % 4 + 1)) ∧ w = w' := by
  have ht : n.tmod 4 = if 0 ≤ n then n % 4 else -((-n) % 4) := by
    by_cases h : 0 ≤ n
    · rw [if_pos h, Int.tmod_eq_emod_of_nonneg h]
    · rw [if_neg h, ← Int.tmod_eq_emod_of_nonneg (show 0 ≤ -n by omega), Int.neg_tmod, Int.neg_neg]
  obtain ⟨r, hr⟩ : ∃ r, n.tmod 4 = r := ⟨_, rfl⟩
  rw [hr] at ht
  have hb : -3 ≤ r ∧ r ≤ 3 := by split at ht <;> omega
  have wr : IntKind.i64.wrap r = r := IntWalk.i64_in _ (by omega)
  have he : n % 4 = if r < 0 then r + 4 else r := by split at ht <;> split <;> omega
  clear ht
  by_cases h : r < 0
  · rw [he, if_pos h]
    clear he
    go_enter Try.func67, Try.ntmps67
    go_wp2_with fail
    go_ret
    exact ⟨rfl, rfl⟩
  · rw [he, if_neg h]
    clear he
    go_enter Try.func67, Try.ntmps67
    go_wp2_with fail
    go_ret
    exact ⟨rfl, rfl⟩
theorem whole_no (wide : Int) (A : Option Addr) (n c : Nat) (w : World) (hn : n ≤ maxLen) (hs : shaped wide n = false) :
    Calls Try.prog 68 #[.agg #[.int .i64 wide, .slice A n c]] w fun e w' => e = .returned (.tuple #[.pointer none, .int .i64 0, .int .i64 0]) ∧ Below w.heap.size w w' := by
  go_enter Try.func68, Try.ntmps68
  go_wp2_with fail
  refine (made_no wide A n c _ hn hs).mono ?_
  rintro e w1 ⟨rfl, b1⟩
  go_wp2_with fail
  go_ret3
  exact ⟨rfl, below_then ((Below.refl _ _).alloc (Nat.le_refl _) _) b1⟩
/-- the plane of a shape, and its sides -/
def WholeS (w : World) (W H : Nat) (zs : List Int) (e : Ending) (w' : World) : Prop :=
  ∃ p g cp, e = .returned (.tuple #[.pointer (some ⟨p, 0, none⟩), .int .i64 W, .int .i64 H]) ∧ P8.PA w' p g W H cp (zs.map (.int .u8)) ∧ w.heap.size ≤ p ∧ w.heap.size ≤ g ∧ Below w.heap.size w w'
theorem whole_yes (W : Nat) (A : Option Addr) (n c : Nat) (zs : List Int) (w : World) (hnc : n ≤ c) (hc : c ≤ maxLen) (hsl : Sl w A n (zs.map (.int .u8))) (h1 : 1 ≤ W) (h2 : W ≤ n) (h3 : n ≤ 67108864) :
    Calls Try.prog 68 #[.agg #[.int .i64 W, .slice A n c]] w (WholeS w W (n / W) (zs.take (W * (n / W)))) := by
  obtain ⟨H, hH⟩ : ∃ H, n / W = H := ⟨_, rfl⟩
  have HH := Lib.hid hH; clear hH
  rw [HH.out]
  go_enter Try.func68, Try.ntmps68
  go_wp2_with fail
  refine (made_yes W A n c zs _ hnc hc (hsl.alloc _) h1 h2 h3).mono ?_
  rintro e w1 ⟨r, p, g, cp, rfl, hr1, hp1, k1, k2, k3, k4, k5, b1⟩
  simp only [HH.out] at hr1 hp1
  go_wp2_with fail
  refine (P8.size_any p g W H cp _ _ hp1).mono ?_
  rintro e w' ⟨rfl, n1, rfl⟩
  go_wp2_with fail
  go_ret3
  simp only [World.size_alloc] at k2 k3
  exact ⟨p, g, cp, rfl, hp1.drewN _, by omega, by omega, below_drewN (below_then ((Below.refl _ _).alloc (Nat.le_refl _) _) b1) _⟩
set_option maxHeartbeats 1000000 in
theorem small_any (a b : Nat) (w : World) (ha : a ≤ 1000000000) (hb : b ≤ 1000000000) :
    Calls Try.prog 69 #[.int .i64 a, .int .i64 b] w fun e w' => e = .returned (.bool (decide (a * b ≤ 4000000))) ∧ w = w' := by
  obtain ⟨m, hm⟩ : ∃ m, a * b = m := ⟨_, rfl⟩
  have hmi : (a : Int) * (b : Int) = (m : Int) := by rw [← hm, Int.natCast_mul]
  have hmb : m ≤ 1000000000 * 1000000000 := by rw [← hm]; exact Nat.mul_le_mul ha hb
  have wm : IntKind.i64.wrap (m : Int) = (m : Int) := IntWalk.i64_in _ (by omega)
  rw [hm]
  clear hm
  go_enter Try.func69, Try.ntmps69
  go_wp2_with fail
  go_ret
  refine ⟨?_, rfl⟩
  by_cases h : m ≤ 4000000
  · simp [h]; omega
  · simp [h]; omega

theorem sameB_self (W H : Nat) (zs : List Int) : P8.sameB W H W H zs zs = true := by simp [P8.sameB, eqL_self]

set_option maxRecDepth 100000 in
set_option maxHeartbeats 4000000 in
theorem lawBack_none (wd : Int) (A : Option Addr) (n c : Nat) (x y : Int) (w : World) (hn : n ≤ maxLen) (hs : shaped wd n = false) (hx1 : -9223372036854775808 ≤ x) (hx2 : x ≤ 9223372036854775807) (hy1 : -9223372036854775808 ≤ y) (hy2 : y ≤ 9223372036854775807) :
    Calls Try.prog 14 #[.agg #[.int .i64 wd, .slice A n c], .int .i64 x, .int .i64 y] w (TrueB w) := by
  have bx := Blk.new w 30 #[.int .i64 wd, .slice A n c]
  go_enter Try.func14, Try.ntmps14
  go_wp2_with fail
  refine (alive_any _).mono ?_
  rintro e w1 ⟨rfl, b1⟩
  have bx1 := bx.kept b1
  have x0 : w1.cell? ⟨w.heap.size, 0, none⟩ = some (.int .i64 wd) := by rw [bx1.cell]; rfl
  have x1 : w1.cell? ⟨w.heap.size, 1, none⟩ = some (.slice A n c) := by rw [bx1.cell]; rfl
  have a1 : Below w.heap.size w w1 := below_then ((Below.refl _ _).alloc (Nat.le_refl _) _) b1
  go_wp2_with fail
  refine (factor_any x _ hx1 hx2).mono ?_
  rintro e w' ⟨rfl, rfl⟩
  go_wp2_with fail
  refine (factor_any y _ hy1 hy2).mono ?_
  rintro e w' ⟨rfl, rfl⟩
  go_wp2_with fail
  refine (whole_no wd A n c _ hn hs).mono ?_
  rintro e w2 ⟨rfl, b2⟩
  go_wp2_with fail
  go_ret
  exact ⟨rfl, below_then a1 b2⟩

set_option maxRecDepth 100000 in
set_option maxHeartbeats 8000000 in
theorem lawBack_some (W : Nat) (A : Option Addr) (n c : Nat) (zs : List Int) (x y : Int) (w : World) (hnc : n ≤ c) (hc : c ≤ maxLen) (hsl : Sl w A n (zs.map (.int .u8))) (hz : Bytes zs) (h1 : 1 ≤ W) (h2 : W ≤ n) (h3 : n ≤ 67108864)
    (hx1 : -9223372036854775808 ≤ x) (hx2 : x ≤ 9223372036854775807) (hy1 : -9223372036854775808 ≤ y) (hy2 : y ≤ 9223372036854775807) :
    Calls Try.prog 14 #[.agg #[.int .i64 W, .slice A n c], .int .i64 x, .int .i64 y] w (TrueB w) := by
  have hWH : W * (n / W) ≤ 67108864 := Nat.le_trans (Nat.mul_div_le n W) h3
  obtain ⟨H, hH⟩ : ∃ H, n / W = H := ⟨_, rfl⟩
  have hH1 : 1 ≤ H := by rw [← hH]; exact (Nat.le_div_iff_mul_le (by omega)).2 (by omega)
  have hbH : H ≤ 67108864 := by rw [← hH]; exact Nat.le_trans (Nat.div_le_self n W) h3
  rw [hH] at hWH
  obtain ⟨fx, hfx⟩ : ∃ fx : Nat, x % 4 + 1 = (fx : Int) := ⟨(x % 4 + 1).toNat, by omega⟩
  obtain ⟨fy, hfy⟩ : ∃ fy : Nat, y % 4 + 1 = (fy : Int) := ⟨(y % 4 + 1).toNat, by omega⟩
  have e1 : 1 ≤ fx ∧ fx ≤ 4 := by omega
  have e2 : 1 ≤ fy ∧ fy ≤ 4 := by omega
  obtain ⟨P, hP⟩ : ∃ P, fx * W = P := ⟨_, rfl⟩
  obtain ⟨Q, hQ⟩ : ∃ Q, fy * H = Q := ⟨_, rfl⟩
  have hPi : (fx : Int) * (W : Int) = (P : Int) := by rw [← hP, Int.natCast_mul]
  have hQi : (fy : Int) * (H : Int) = (Q : Int) := by rw [← hQ, Int.natCast_mul]
  have P1 : 1 ≤ P := by rw [← hP]; exact Nat.mul_le_mul e1.1 h1
  have Q1 : 1 ≤ Q := by rw [← hQ]; exact Nat.mul_le_mul e2.1 hH1
  have bP : P ≤ 4 * 67108864 := by rw [← hP]; exact Nat.mul_le_mul e1.2 (by omega)
  have bQ : Q ≤ 4 * 67108864 := by rw [← hQ]; exact Nat.mul_le_mul e2.2 (by omega)
  have wP : IntKind.i64.wrap (P : Int) = (P : Int) := IntWalk.i64_in _ (by omega)
  have wQ : IntKind.i64.wrap (Q : Int) = (Q : Int) := IntWalk.i64_in _ (by omega)
  have HFX := Lib.hid hfx; clear hfx
  have HFY := Lib.hid hfy; clear hfy
  have HP := Lib.hid hP; clear hP
  have HQ := Lib.hid hQ; clear hQ
  have HH := Lib.hid hH; clear hH
  have HZT := Lib.hid (hz.take (W * H))
  have bx := Blk.new w 30 #[.int .i64 W, .slice A n c]
  go_enter Try.func14, Try.ntmps14
  go_wp2_with fail
  refine (alive_any _).mono ?_
  rintro e w1 ⟨rfl, b1⟩
  have bx1 := bx.kept b1
  have x0 : w1.cell? ⟨w.heap.size, 0, none⟩ = some (.int .i64 W) := by rw [bx1.cell]; rfl
  have x1 : w1.cell? ⟨w.heap.size, 1, none⟩ = some (.slice A n c) := by rw [bx1.cell]; rfl
  have a1 : Below w.heap.size w w1 := below_then ((Below.refl _ _).alloc (Nat.le_refl _) _) b1
  have hsl1 := (hsl.alloc (.cells #[.int .i64 W, .slice A n c] 30)).below b1
  go_wp2_with fail
  refine (factor_any x _ hx1 hx2).mono ?_
  rintro e w' ⟨rfl, rfl⟩
  rw [HFX.out]
  go_wp2_with fail
  refine (factor_any y _ hy1 hy2).mono ?_
  rintro e w' ⟨rfl, rfl⟩
  rw [HFY.out]
  go_wp2_with fail
  refine (whole_yes W A n c zs _ hnc hc hsl1 h1 h2 h3).mono ?_
  rintro e w2 ⟨p, g, cp, rfl, hp2, k1, k2, b2⟩
  simp only [HH.out] at hp2 ⊢
  generalize zs.take (W * H) = ys at *
  have hyl : ys.length = W * H := by simpa using hp2.len
  have a2 := below_then a1 b2
  by_cases hsm : P * Q ≤ 4000000
  · have dsm : decide (P * Q ≤ 4000000) = true := by simpa using hsm
    have he : upE fx fy P Q W H = 0 := by
      unfold upE
      rw [if_neg (by omega), if_neg]
      rintro (h | h | h | h | h)
      · omega
      · omega
      · rw [hPi] at h; omega
      · rw [hQi] at h; omega
      · rw [← Int.natCast_mul] at h; omega
    have HE := Lib.hid he; clear he
    have HS := Lib.hid hsm; clear hsm
    have DS := Lib.hid dsm; clear dsm
    go_wp2_with fail
    refine (small_any P Q _ (by omega) (by omega)).mono ?_
    rintro e w' ⟨rfl, rfl⟩
    rw [DS.out]
    go_wp2_with fail
    refine (up_yes p g W H cp _ fx fy P Q _ hp2 HE.out).mono ?_
    rintro e w3 ⟨pa, ga, ca, rfl, ha3, m1, m2, b3⟩
    have hp3 := hp2.below b3
    have hby := up_bytes HZT.out W fx fy P (Q * P)
    have hback := dn_up (fx := fx) (fy := fy) hyl e1.1 e2.1
    rw [HP.out, HQ.out] at hback
    have dw : dnS P fx = W := by rw [← HP.out]; exact dnS_mul e1.1
    have dh : dnS Q fy = H := by rw [← HQ.out]; exact dnS_mul e2.1
    generalize gridL P (upV ys W fx fy) (Q * P) = us at *
    have HB := Lib.hid hback; clear hback
    have DW := Lib.hid dw; clear dw
    have DH := Lib.hid dh; clear dh
    have HBY := Lib.hid hby; clear hby
    go_wp2_with fail
    refine (dn_yes pa ga P Q ca us fx fy _ ha3 HBY.out e1.1 e1.2 e2.1 e2.2).mono ?_
    rintro e w4 ⟨pb, gb, cb, rfl, hb4, m3, m4, b4⟩
    simp only [DW.out, DH.out, HB.out] at hb4
    have hp4 := hp3.below b4
    go_wp2_with fail
    refine (P8.same_any pb gb W H cb p g W H cp ys ys _ hb4 hp4).mono ?_
    rintro e w' ⟨rfl, n1, rfl⟩
    rw [sameB_self]
    go_wp2_with fail
    refine (P8.same_any p g W H cp pb gb W H cb ys ys _ (hp4.drewN _) (hb4.drewN _)).mono ?_
    rintro e w' ⟨rfl, n2, rfl⟩
    rw [sameB_self]
    go_wp2_with fail
    go_ret
    exact ⟨rfl, below_drewN (below_then (below_then a2 b3) b4) _⟩
  · have dsm : decide (P * Q ≤ 4000000) = false := by simpa using hsm
    have DS := Lib.hid dsm; clear dsm hsm
    go_wp2_with fail
    refine (small_any P Q _ (by omega) (by omega)).mono ?_
    rintro e w' ⟨rfl, rfl⟩
    rw [DS.out]
    go_wp2_with fail
    go_ret
    exact ⟨rfl, a2⟩
end Go.Proofs.Ytlbocfinjlkebaa.Samp
