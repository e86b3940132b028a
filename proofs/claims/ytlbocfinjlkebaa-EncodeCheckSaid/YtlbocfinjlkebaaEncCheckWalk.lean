/- The two checks of options (the program's and the document's) give one and the same number, whatever the options: nothing that was there is written. -/
import Derived.Test.YtlbocfinjlkebaaProg
import Derived.WalkKit
import Derived.WalkSpells
import Derived.WalkLawsBesides
import Derived.Deep.QuietTactic
import Derived.BigQuiet
import Derived.Lib.Hide
namespace Go.Proofs.Ytlbocfinjlkebaa.EncCheck
open Go.RowKit

/-- the answer of both -/
def chk (q : Nat) (h v r : Int) : Int :=
  if ((FloatKind.f64.format.order q 4607182418800017408 == some .gt || FloatKind.f64.format.order q 4607182418800017408 == some .eq) &&
    (FloatKind.f64.format.order q 4636737291354636288 == some .lt || FloatKind.f64.format.order q 4636737291354636288 == some .eq)) = true ∧ 1 ≤ h ∧ h ≤ 2 ∧ 1 ≤ v ∧ v ≤ 2 ∧ 0 ≤ r ∧ r ≤ 65535 then 0 else 250

theorem ret_int {k : IntKind} {a b : Int} (h : a = b) : Ending.returned (.int k a) = .returned (.int k b) := by rw [h]

set_option maxHeartbeats 4000000 in
theorem prog_any (q : Nat) (h v r : Int) (b s : Bool) (w : World) :
    Calls Try.prog 16 #[.agg #[.float .f64 q, .int .u8 h, .int .u8 v, .int .i64 r, .bool b, .bool s]] w fun e w' => e = .returned (.int .i64 (chk q h v r)) ∧ Below w.heap.size w w' := by
  rcases hA : FloatKind.f64.format.order q 4607182418800017408 with _ | (_ | _ | _) <;> rcases hB : FloatKind.f64.format.order q 4636737291354636288 with _ | (_ | _ | _)
  all_goals
    by_cases h1 : h < 1
    · go_enter Try.func16, Try.ntmps16
      go_wp2
      go_ret
      exact ⟨ret_int (by rw [chk, hA, hB, if_neg (by omega)]), (Below.refl _ _).alloc (Nat.le_refl _) _⟩
    by_cases h2 : 2 < h
    · go_enter Try.func16, Try.ntmps16
      go_wp2
      go_ret
      exact ⟨ret_int (by rw [chk, hA, hB, if_neg (by omega)]), (Below.refl _ _).alloc (Nat.le_refl _) _⟩
    by_cases h3 : v < 1
    · go_enter Try.func16, Try.ntmps16
      go_wp2
      go_ret
      exact ⟨ret_int (by rw [chk, hA, hB, if_neg (by omega)]), (Below.refl _ _).alloc (Nat.le_refl _) _⟩
    by_cases h4 : 2 < v
    · go_enter Try.func16, Try.ntmps16
      go_wp2
      go_ret
      exact ⟨ret_int (by rw [chk, hA, hB, if_neg (by omega)]), (Below.refl _ _).alloc (Nat.le_refl _) _⟩
    by_cases h5 : r < 0
    · go_enter Try.func16, Try.ntmps16
      go_wp2
      go_ret
      exact ⟨ret_int (by rw [chk, hA, hB, if_neg (by omega)]), (Below.refl _ _).alloc (Nat.le_refl _) _⟩
    by_cases h6 : 65535 < r
    · go_enter Try.func16, Try.ntmps16
      go_wp2
      go_ret
      exact ⟨ret_int (by rw [chk, hA, hB, if_neg (by omega)]), (Below.refl _ _).alloc (Nat.le_refl _) _⟩
    go_enter Try.func16, Try.ntmps16
    go_wp2
    go_ret
    exact ⟨ret_int (by rw [chk, hA, hB]; simp; try omega), (Below.refl _ _).alloc (Nat.le_refl _) _⟩
end Go.Proofs.Ytlbocfinjlkebaa.EncCheck
