/- The sizes of a larger plane, the document's side. -/
import Derived.Test.YtlbocfinjlkebaaSampL
namespace Go.Proofs.Ytlbocfinjlkebaa.Samp
open Go.RowKit

set_option maxHeartbeats 2000000 in
theorem rlarger_any (b : Nat) (A : Option Addr) (W H c : Nat) (zs : List Int) (fx fy wide high : Int) (w : World) (hp : RefAt w b A W H c zs) (hW : W ≤ 67108864) (hH : H ≤ 67108864) :
    Calls Try.prog 86 #[.pointer (some ⟨b, 0, none⟩), .int .i64 fx, .int .i64 fy, .int .i64 wide, .int .i64 high] w fun e w' => e = .returned (.int .i64 (upE fx fy wide high W H)) ∧ ∃ k, w' = w.drewN k := by
  have c0 := hp.c0
  have c1 := hp.c1
  by_cases hf : fx < 1 ∨ 4 < fx ∨ fy < 1 ∨ 4 < fy
  · have e1 : facE false fx fy = 130 := by unfold facE; rw [if_neg (by simp), if_pos hf]
    go_enter Try.func86, Try.ntmps86
    go_wp2_with fail
    refine (rf_some _ fx fy w).mono ?_
    rintro e w' ⟨rfl, rfl⟩
    rw [e1]
    go_wp2_with fail
    go_ret
    exact ⟨ret_int (by unfold upE; rw [if_pos hf]), 0, rfl⟩
  · have e1 : facE false fx fy = 0 := by unfold facE; rw [if_neg (by simp), if_neg hf]
    obtain ⟨m, hm⟩ : ∃ m, fx * (W : Int) = m := ⟨_, rfl⟩
    obtain ⟨k, hk⟩ : ∃ k, fy * (H : Int) = k := ⟨_, rfl⟩
    have bm : m ≤ 4 * (W : Int) := by rw [← hm]; exact Int.mul_le_mul_of_nonneg_right (by omega) (by omega)
    have bk : k ≤ 4 * (H : Int) := by rw [← hk]; exact Int.mul_le_mul_of_nonneg_right (by omega) (by omega)
    have bm0 : 0 ≤ m := by rw [← hm]; exact Int.mul_nonneg (by omega) (by omega)
    have bk0 : 0 ≤ k := by rw [← hk]; exact Int.mul_nonneg (by omega) (by omega)
    by_cases h1 : wide < 1
    · go_enter Try.func86, Try.ntmps86
      go_wp2_with fail
      refine (rf_some _ fx fy w).mono ?_
      rintro e w' ⟨rfl, rfl⟩
      rw [e1]
      go_wp2_with fail
      go_ret
      exact ⟨ret_int (by unfold upE; rw [if_neg hf, if_pos (.inl h1)]), 0, rfl⟩
    by_cases h3 : high < 1
    · go_enter Try.func86, Try.ntmps86
      go_wp2_with fail
      refine (rf_some _ fx fy w).mono ?_
      rintro e w' ⟨rfl, rfl⟩
      rw [e1]
      go_wp2_with fail
      go_ret
      exact ⟨ret_int (by unfold upE; rw [if_neg hf, if_pos (.inr (.inl h3))]), 0, rfl⟩
    by_cases h2 : m < wide
    · go_enter Try.func86, Try.ntmps86
      go_wp2_with fail
      refine (rf_some _ fx fy w).mono ?_
      rintro e w' ⟨rfl, rfl⟩
      rw [e1]
      go_wp2_with fail
      go_ret
      exact ⟨ret_int (by unfold upE; rw [if_neg hf, if_pos (.inr (.inr (.inl (by omega))))]), 0, rfl⟩
    by_cases h4 : k < high
    · go_enter Try.func86, Try.ntmps86
      go_wp2_with fail
      refine (rf_some _ fx fy w).mono ?_
      rintro e w' ⟨rfl, rfl⟩
      rw [e1]
      go_wp2_with fail
      go_ret
      exact ⟨ret_int (by unfold upE; rw [if_neg hf, if_pos (.inr (.inr (.inr (.inl (by omega)))))]), 0, rfl⟩
    obtain ⟨q, hq⟩ : ∃ q, wide * high = q := ⟨_, rfl⟩
    have bq0 : 0 ≤ q := by rw [← hq]; exact Int.mul_nonneg (by omega) (by omega)
    have bq : q ≤ 268435456 * 268435456 := by
      rw [← hq]
      exact Int.mul_le_mul (by omega) (by omega) (by omega) (by decide)
    by_cases h5 : 67108864 < q
    · go_enter Try.func86, Try.ntmps86
      go_wp2_with fail
      refine (rf_some _ fx fy w).mono ?_
      rintro e w' ⟨rfl, rfl⟩
      rw [e1]
      go_wp2_with fail
      go_ret
      exact ⟨ret_int (by unfold upE; rw [if_neg hf, if_pos (.inr (.inr (.inr (.inr (by omega)))))]), 0, rfl⟩
    · go_enter Try.func86, Try.ntmps86
      go_wp2_with fail
      refine (rf_some _ fx fy w).mono ?_
      rintro e w' ⟨rfl, rfl⟩
      rw [e1]
      go_wp2_with fail
      go_ret
      exact ⟨ret_int (by unfold upE; rw [if_neg hf, if_neg (by omega)]), 0, rfl⟩

set_option maxHeartbeats 2000000 in
theorem rlarger_nil (fx fy wide high : Int) (w : World) :
    Calls Try.prog 86 #[.pointer none, .int .i64 fx, .int .i64 fy, .int .i64 wide, .int .i64 high] w fun e w' => e = .returned (.int .i64 2) ∧ w = w' := by
  go_enter Try.func86, Try.ntmps86
  go_wp2_with fail
  refine (rf_nil fx fy w).mono ?_
  rintro e w' ⟨rfl, rfl⟩
  go_wp2_with fail
  go_ret
  exact ⟨rfl, rfl⟩
end Go.Proofs.Ytlbocfinjlkebaa.Samp
