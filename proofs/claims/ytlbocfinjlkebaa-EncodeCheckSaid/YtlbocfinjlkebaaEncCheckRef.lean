/- The document's check of options gives the same number as the program's, whatever the options: nothing that was there is written. -/
import Derived.Test.YtlbocfinjlkebaaEncCheckWalk
namespace Go.Proofs.Ytlbocfinjlkebaa.EncCheck
open Go.RowKit

set_option maxHeartbeats 4000000 in
theorem ref_any (q : Nat) (h v r : Int) (b s : Bool) (w : World) :
    Calls Try.prog 17 #[.agg #[.float .f64 q, .int .u8 h, .int .u8 v, .int .i64 r, .bool b, .bool s]] w fun e w' => e = .returned (.int .i64 (chk q h v r)) ∧ Below w.heap.size w w' := by
  rcases hA : FloatKind.f64.format.order q 4607182418800017408 with _ | (_ | _ | _)
  any_goals rcases hB : FloatKind.f64.format.order q 4636737291354636288 with _ | (_ | _ | _)
  all_goals
    by_cases h1 : h = 1
    · subst h1
      by_cases v1 : v = 1
      · subst v1
        by_cases r1 : r < 0
        · go_enter Try.func17, Try.ntmps17
          go_wp2
          go_ret
          exact ⟨ret_int (by rw [chk, hA, hB]; simp; try omega), (Below.refl _ _).alloc (Nat.le_refl _) _⟩
        by_cases r2 : 65535 < r
        · go_enter Try.func17, Try.ntmps17
          go_wp2
          go_ret
          exact ⟨ret_int (by rw [chk, hA, hB]; simp; try omega), (Below.refl _ _).alloc (Nat.le_refl _) _⟩
        go_enter Try.func17, Try.ntmps17
        go_wp2
        go_ret
        exact ⟨ret_int (by rw [chk, hA, hB]; simp; try omega), (Below.refl _ _).alloc (Nat.le_refl _) _⟩
      by_cases v2 : v = 2
      · subst v2
        by_cases r1 : r < 0
        · go_enter Try.func17, Try.ntmps17
          go_wp2
          go_ret
          exact ⟨ret_int (by rw [chk, hA, hB]; simp; try omega), (Below.refl _ _).alloc (Nat.le_refl _) _⟩
        by_cases r2 : 65535 < r
        · go_enter Try.func17, Try.ntmps17
          go_wp2
          go_ret
          exact ⟨ret_int (by rw [chk, hA, hB]; simp; try omega), (Below.refl _ _).alloc (Nat.le_refl _) _⟩
        go_enter Try.func17, Try.ntmps17
        go_wp2
        go_ret
        exact ⟨ret_int (by rw [chk, hA, hB]; simp; try omega), (Below.refl _ _).alloc (Nat.le_refl _) _⟩
      go_enter Try.func17, Try.ntmps17
      go_wp2
      go_ret
      exact ⟨ret_int (by rw [chk, hA, hB]; simp; try omega), (Below.refl _ _).alloc (Nat.le_refl _) _⟩
    by_cases h2 : h = 2
    · subst h2
      by_cases v1 : v = 1
      · subst v1
        by_cases r1 : r < 0
        · go_enter Try.func17, Try.ntmps17
          go_wp2
          go_ret
          exact ⟨ret_int (by rw [chk, hA, hB]; simp; try omega), (Below.refl _ _).alloc (Nat.le_refl _) _⟩
        by_cases r2 : 65535 < r
        · go_enter Try.func17, Try.ntmps17
          go_wp2
          go_ret
          exact ⟨ret_int (by rw [chk, hA, hB]; simp; try omega), (Below.refl _ _).alloc (Nat.le_refl _) _⟩
        go_enter Try.func17, Try.ntmps17
        go_wp2
        go_ret
        exact ⟨ret_int (by rw [chk, hA, hB]; simp; try omega), (Below.refl _ _).alloc (Nat.le_refl _) _⟩
      by_cases v2 : v = 2
      · subst v2
        by_cases r1 : r < 0
        · go_enter Try.func17, Try.ntmps17
          go_wp2
          go_ret
          exact ⟨ret_int (by rw [chk, hA, hB]; simp; try omega), (Below.refl _ _).alloc (Nat.le_refl _) _⟩
        by_cases r2 : 65535 < r
        · go_enter Try.func17, Try.ntmps17
          go_wp2
          go_ret
          exact ⟨ret_int (by rw [chk, hA, hB]; simp; try omega), (Below.refl _ _).alloc (Nat.le_refl _) _⟩
        go_enter Try.func17, Try.ntmps17
        go_wp2
        go_ret
        exact ⟨ret_int (by rw [chk, hA, hB]; simp; try omega), (Below.refl _ _).alloc (Nat.le_refl _) _⟩
      go_enter Try.func17, Try.ntmps17
      go_wp2
      go_ret
      exact ⟨ret_int (by rw [chk, hA, hB]; simp; try omega), (Below.refl _ _).alloc (Nat.le_refl _) _⟩
    go_enter Try.func17, Try.ntmps17
    go_wp2
    go_ret
    exact ⟨ret_int (by rw [chk, hA, hB]; simp; try omega), (Below.refl _ _).alloc (Nat.le_refl _) _⟩
end Go.Proofs.Ytlbocfinjlkebaa.EncCheck
