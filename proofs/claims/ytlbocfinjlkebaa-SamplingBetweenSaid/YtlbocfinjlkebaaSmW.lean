/- Smooth: where a place lies, and the number on the line between two: the program's walks and the document's. -/
import Derived.Test.YtlbocfinjlkebaaFloM
import Derived.Test.YtlbocfinjlkebaaSampN
namespace Go.Proofs.Ytlbocfinjlkebaa.Samp
open Go.RowKit

theorem q_sub {a b d : Nat} (h : Ieee.single.sub a b = some d) (u : World) : (binOp .sub 73 (.float .f32 a) (.float .f32 b)).run Try.prog u = .ok (.float .f32 d) u := run_float_arith u .sub _ _ _ _ _ (show floatBits .sub .f32 a b = some d from h)
theorem q_add {a b d : Nat} (h : Ieee.single.add a b = some d) (u : World) : (binOp .add 73 (.float .f32 a) (.float .f32 b)).run Try.prog u = .ok (.float .f32 d) u := run_float_arith u .add _ _ _ _ _ (show floatBits .add .f32 a b = some d from h)
theorem q_mul {a b d : Nat} (h : Ieee.single.mul a b = some d) (u : World) : (binOp .mul 73 (.float .f32 a) (.float .f32 b)).run Try.prog u = .ok (.float .f32 d) u := run_float_arith u .mul _ _ _ _ _ (show floatBits .mul .f32 a b = some d from h)
theorem q_quo {a b d : Nat} (h : Ieee.single.div a b = some d) (u : World) : (binOp .quo 73 (.float .f32 a) (.float .f32 b)).run Try.prog u = .ok (.float .f32 d) u := run_float_arith u .quo _ _ _ _ _ (show floatBits .quo .f32 a b = some d from h)
set_option maxHeartbeats 1000000 in
theorem mix_any (a b s d p r : Nat) (w : World) (h1 : Ieee.single.sub b a = some d) (h2 : Ieee.single.mul d s = some p) (h3 : Ieee.single.add a p = some r) :
    Calls Try.prog 91 #[.float .f32 a, .float .f32 b, .float .f32 s] w fun e w' => e = .returned (.float .f32 r) ∧ w = w' := by
  have q1 : ∀ u : World, (binOp .sub 73 (.float .f32 b) (.float .f32 a)).run Try.prog u = .ok (.float .f32 d) u := q_sub h1
  have q2 : ∀ u : World, (binOp .mul 73 (.float .f32 d) (.float .f32 s)).run Try.prog u = .ok (.float .f32 p) u := q_mul h2
  have q3 : ∀ u : World, (binOp .add 73 (.float .f32 a) (.float .f32 p)).run Try.prog u = .ok (.float .f32 r) u := q_add h3
  clear h1 h2 h3
  go_enter Try.func91, Try.ntmps91
  go_wp2_with fail
  go_ret
  exact ⟨rfl, rfl⟩
set_option maxHeartbeats 1000000 in
theorem rmix_any (a b s d p r : Nat) (w : World) (h1 : Ieee.single.sub b a = some d) (h2 : Ieee.single.mul d s = some p) (h3 : Ieee.single.add a p = some r) :
    Calls Try.prog 89 #[.float .f32 a, .float .f32 b, .float .f32 s] w fun e w' => e = .returned (.float .f32 r) ∧ w = w' := by
  have q1 : ∀ u : World, (binOp .sub 73 (.float .f32 b) (.float .f32 a)).run Try.prog u = .ok (.float .f32 d) u := q_sub h1
  have q2 : ∀ u : World, (binOp .mul 73 (.float .f32 d) (.float .f32 s)).run Try.prog u = .ok (.float .f32 p) u := q_mul h2
  have q3 : ∀ u : World, (binOp .add 73 (.float .f32 a) (.float .f32 p)).run Try.prog u = .ok (.float .f32 r) u := q_add h3
  clear h1 h2 h3
  go_enter Try.func89, Try.ntmps89
  go_wp2_with fail
  go_ret
  exact ⟨rfl, rfl⟩

/-- rounded down, by way of a quotient that is cut towards zero -/
theorem way_neg {x f : Nat} (h1 : 1 ≤ f) (h4 : f ≤ 4) (h : 2 * (x : Int) + 1 - f < 0) : -((-(2 * (x : Int) + 1 - f) + 2 * (f : Int) - 1).tdiv (2 * (f : Int))) = Flo.wayI x f := by
  rw [Int.tdiv_eq_ediv_of_nonneg (by omega)]
  unfold Flo.wayI
  have hf : f = 1 ∨ f = 2 ∨ f = 3 ∨ f = 4 := by omega
  rcases hf with rfl | rfl | rfl | rfl <;> omega
theorem way_bnd {x f : Nat} (h1 : 1 ≤ f) : -2 ≤ Flo.wayI x f ∧ Flo.wayI x f ≤ x := by
  unfold Flo.wayI
  constructor
  · exact (Int.le_ediv_iff_mul_le (by omega)).2 (by omega)
  · have : (2 * (x : Int) + 1 - f) / (2 * (f : Int)) < x + 1 := (Int.ediv_lt_iff_lt_mul (by omega)).2 (by
      have : ((x : Int) + 1) * 1 ≤ (x + 1) * (f : Int) := Int.mul_le_mul_of_nonneg_left (by omega) (by omega)
      rw [Int.mul_left_comm]
      omega)
    omega

set_option maxHeartbeats 2000000 in
theorem between_any (x f : Nat) (w : World) (hx : x ≤ 1000000000) (h1 : 1 ≤ f) (h4 : f ≤ 4) :
    Calls Try.prog 90 #[.int .i64 x, .int .i64 f] w fun e w' => e = .returned (.tuple #[.int .i64 (Flo.wayI x f), .float .f32 (Flo.wayS x f)]) ∧ w = w' := by
  have hq := (Flo.wayS_ok (x := x) h1 h4).1
  have he := Flo.way_eq (x := x) h1
  have hng := way_neg (x := x) h1 h4
  have hbi := way_bnd (x := x) h1
  have hpos : 0 ≤ 2 * (x : Int) + 1 - f → (2 * (x : Int) + 1 - f).tdiv (2 * (f : Int)) = Flo.wayI x f := fun h => by
    rw [Int.tdiv_eq_ediv_of_nonneg h]
    rfl
  have hr := Flo.wayR_lt (x := x) h1
  obtain ⟨r, hr'⟩ : ∃ r, Flo.wayR x f = r := ⟨_, rfl⟩
  obtain ⟨i, hi⟩ : ∃ i, Flo.wayI x f = i := ⟨_, rfl⟩
  obtain ⟨s, hs⟩ : ∃ s, Flo.wayS x f = s := ⟨_, rfl⟩
  obtain ⟨F, hF⟩ : ∃ F, 2 * f = F := ⟨_, rfl⟩
  have hFi : 2 * (f : Int) = (F : Int) := by omega
  rw [hr', hs, hF] at hq
  rw [hr', hi, hFi] at he
  rw [hi, hFi] at hng hpos
  rw [hi] at hbi
  rw [hr', hF] at hr
  rw [hi, hs]
  have hdiv : ∀ u : World, (binOp .quo 73 (.float .f32 (floatOfInt .f32 (r : Int))) (.float .f32 (floatOfInt .f32 (F : Int)))).run Try.prog u = .ok (.float .f32 s) u := q_quo hq
  clear hq hr' hi hs
  obtain ⟨n, hn⟩ : ∃ n, 2 * (x : Int) + 1 - (f : Int) = n := ⟨_, rfl⟩
  rw [hn] at he hng hpos
  have hnb : -4 ≤ n ∧ n ≤ 2000000001 := by omega
  obtain ⟨c, hc⟩ : ∃ c, (F : Int) * i = c := ⟨_, rfl⟩
  rw [hc] at he
  have hcr : n - c = (r : Int) := he
  have wi : IntKind.i64.wrap i = i := IntWalk.i64_in _ (by omega)
  have wc : IntKind.i64.wrap c = c := IntWalk.i64_in _ (by omega)
  have wn : IntKind.i64.wrap n = n := IntWalk.i64_in _ (by omega)
  have wF : IntKind.i64.wrap (F : Int) = (F : Int) := IntWalk.i64_in _ (by omega)
  have wr : IntKind.i64.wrap (r : Int) = (r : Int) := IntWalk.i64_in _ (by omega)
  have F0 : ¬ F = 0 := by omega
  have hFl : F ≤ 8 := by omega
  have x1 : IntKind.i64.wrap (2 * (x : Int)) = 2 * (x : Int) := IntWalk.i64_in _ (by omega)
  have x2 : IntKind.i64.wrap (2 * (x : Int) + 1) = 2 * (x : Int) + 1 := IntWalk.i64_in _ (by omega)
  clear he hF
  by_cases h : n < 0
  · have ht := hng h
    have y1 : IntKind.i64.wrap (-n) = -n := IntWalk.i64_in _ (by omega)
    have y2 : IntKind.i64.wrap (-n + (F : Int)) = -n + (F : Int) := IntWalk.i64_in _ (by omega)
    have y3 : IntKind.i64.wrap (-n + (F : Int) - 1) = -n + (F : Int) - 1 := IntWalk.i64_in _ (by omega)
    have ht2 : (-n + (F : Int) - 1).tdiv (F : Int) = -i := by omega
    have y4 : IntKind.i64.wrap (-i) = -i := IntWalk.i64_in _ (by omega)
    obtain ⟨j, hj⟩ : ∃ j, n.tdiv (F : Int) = j := ⟨_, rfl⟩
    clear hng hpos ht
    go_enter Try.func90, Try.ntmps90
    go_wp2_with fail
    go_ret2
    exact ⟨rfl, rfl⟩
  · have ht := hpos (by omega)
    clear hng hpos
    go_enter Try.func90, Try.ntmps90
    go_wp2_with fail
    go_ret2
    exact ⟨rfl, rfl⟩

set_option maxHeartbeats 4000000 in
theorem way_any (x f : Nat) (w : World) (hx : x ≤ 1000000000) (h1 : 1 ≤ f) (h4 : f ≤ 4) :
    Calls Try.prog 88 #[.int .i64 x, .int .i64 f] w fun e w' => e = .returned (.tuple #[.int .i64 (Flo.wayI x f), .float .f32 (Flo.wayS x f)]) ∧ w = w' := by
  have hq := (Flo.wayS_ok (x := x) h1 h4).1
  have he := Flo.way_eq (x := x) h1
  have hbi := way_bnd (x := x) h1
  have hlt : ∀ z : Int, 2 * (x : Int) + 1 - f < 2 * (f : Int) * z ↔ Flo.wayI x f < z := fun z => by
    unfold Flo.wayI
    rw [Int.ediv_lt_iff_lt_mul (by omega), Int.mul_comm z]
  have hr := Flo.wayR_lt (x := x) h1
  obtain ⟨r, hr'⟩ : ∃ r, Flo.wayR x f = r := ⟨_, rfl⟩
  obtain ⟨i, hi⟩ : ∃ i, Flo.wayI x f = i := ⟨_, rfl⟩
  obtain ⟨s, hs⟩ : ∃ s, Flo.wayS x f = s := ⟨_, rfl⟩
  obtain ⟨F, hF⟩ : ∃ F, 2 * f = F := ⟨_, rfl⟩
  have hFi : 2 * (f : Int) = (F : Int) := by omega
  rw [hr', hs, hF] at hq
  rw [hr', hi, hFi] at he
  rw [hi, hFi] at hlt
  rw [hi] at hbi
  rw [hr', hF] at hr
  rw [hi, hs]
  have hdiv : ∀ u : World, (binOp .quo 73 (.float .f32 (floatOfInt .f32 (r : Int))) (.float .f32 (floatOfInt .f32 (F : Int)))).run Try.prog u = .ok (.float .f32 s) u := q_quo hq
  clear hq hr' hi hs
  obtain ⟨n, hn⟩ : ∃ n, 2 * (x : Int) + 1 - (f : Int) = n := ⟨_, rfl⟩
  rw [hn] at he
  have hlt' : ∀ z : Int, n < (F : Int) * z ↔ i < z := fun z => by rw [← hlt z, ← hn]
  have HLT := Lib.hid hlt'; clear hlt hlt'
  have hnb : -4 ≤ n ∧ n ≤ 2000000001 := by omega
  have wn : IntKind.i64.wrap n = n := IntWalk.i64_in _ (by omega)
  have wF : IntKind.i64.wrap (F : Int) = (F : Int) := IntWalk.i64_in _ (by omega)
  have wr : IntKind.i64.wrap (r : Int) = (r : Int) := IntWalk.i64_in _ (by omega)
  have hFl : F ≤ 8 := by omega
  have x1 : IntKind.i64.wrap (2 * (x : Int)) = 2 * (x : Int) := IntWalk.i64_in _ (by omega)
  have x2 : IntKind.i64.wrap (2 * (x : Int) + 1) = 2 * (x : Int) + 1 := IntWalk.i64_in _ (by omega)
  clear hF
  have HFE := Lib.hid he; clear he
  have hF0 : 2 ≤ F := by omega
  go_enter Try.func88, Try.ntmps88
  go_wp2_with fail
  go_loopw [7] (fun z wr => ∃ k : Int, z = .int .i64 k ∧ -2 ≤ k ∧ k ≤ 0 ∧ (k = 0 ∨ i ≤ k) ∧ w = wr) (fun z _ => (intOf z + 2).toNat)
  case atStart => exact ⟨0, rfl, by omega, by omega, .inl rfl, rfl⟩
  case round =>
    obtain ⟨k, rfl, k1, k2, k3, rfl⟩ := hrel
    obtain ⟨c, hc⟩ : ∃ c, (F : Int) * k = c := ⟨_, rfl⟩
    have hck := HLT.out k
    rw [hc] at hck
    have cb1 : c ≤ 0 := by rw [← hc]; exact Int.mul_nonpos_of_nonneg_of_nonpos (by omega) k2
    have cb2 : -16 ≤ c := by
      have : (F : Int) * (-2) ≤ F * k := Int.mul_le_mul_of_nonneg_left k1 (by omega)
      omega
    have wc : IntKind.i64.wrap c = c := IntWalk.i64_in _ (by omega)
    by_cases hl : n < c
    · have hik := hck.1 hl
      clear hck
      have wk : IntKind.i64.wrap (k - 1) = k - 1 := IntWalk.i64_in _ (by omega)
      go_wp2_with fail
      go_roundw
      case rel => exact ⟨k - 1, rfl, by omega, by omega, .inr (by omega), by trivial⟩
      case measure => simp [intOf]; omega
    · have hik : k ≤ i := by
        have := fun h => hl (hck.2 h)
        omega
      clear hck
      go_wp2_with fail
      clear hc wc hl cb1 cb2
      go_loopw [7] (fun z wr => ∃ k : Int, z = .int .i64 k ∧ -2 ≤ k ∧ k ≤ i ∧ w = wr) (fun z _ => (i - intOf z).toNat)
      case atStart => exact ⟨k, rfl, by omega, hik, rfl⟩
      clear k1 k2 k3 hik
      case round =>
        obtain ⟨k, rfl, k1, k2, rfl⟩ := hrel
        have wk : IntKind.i64.wrap (k + 1) = k + 1 := IntWalk.i64_in _ (by omega)
        obtain ⟨c, hc⟩ : ∃ c, (F : Int) * (k + 1) = c := ⟨_, rfl⟩
        have hck := HLT.out (k + 1)
        rw [hc] at hck
        have cb1 : c ≤ 8 * (x + 1) := by
          by_cases hk : 0 ≤ k + 1
          · have : (F : Int) * (k + 1) ≤ 8 * (x + 1) := Int.mul_le_mul (by omega) (by omega) hk (by omega)
            omega
          · have : (F : Int) * (k + 1) ≤ 0 := Int.mul_nonpos_of_nonneg_of_nonpos (by omega) (by omega)
            omega
        have cb2 : -16 ≤ c := by
          have : (F : Int) * (-2) ≤ F * (k + 1) := Int.mul_le_mul_of_nonneg_left (by omega) (by omega)
          omega
        have wc : IntKind.i64.wrap c = c := IntWalk.i64_in _ (by omega)
        by_cases hl : c ≤ n
        · have hik : k + 1 ≤ i := by
            have := fun h => (show ¬ n < c by omega) (hck.2 h)
            omega
          clear hck
          go_wp2_with fail
          go_roundw
          case rel => exact ⟨k + 1, rfl, by omega, by omega, by trivial⟩
          case measure => simp [intOf]; omega
        · have hik := hck.1 (by omega)
          have hki : k = i := by omega
          clear hck
          subst hki
          obtain ⟨d, hd⟩ : ∃ d, (F : Int) * k = d := ⟨_, rfl⟩
          have hcr : n - d = (r : Int) := by rw [← hd]; exact HFE.out
          have db : d ≤ n := by omega
          have wd : IntKind.i64.wrap d = d := IntWalk.i64_in _ (by omega)
          go_wp2_with fail
          go_ret2
          exact ⟨rfl, rfl⟩
end Go.Proofs.Ytlbocfinjlkebaa.Samp
