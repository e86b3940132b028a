/- The factors and the sizes: the program and the document refuse the same ones, with the same numbers. -/
import Derived.Test.YtlbocfinjlkebaaPlaneP8w
namespace Go.Proofs.Ytlbocfinjlkebaa.Samp
open Go.RowKit

/-- why factors may not be -/
def facE (none_ : Bool) (fx fy : Int) : Int := if none_ = true then 2 else if fx < 1 ∨ 4 < fx ∨ fy < 1 ∨ 4 < fy then 130 else 0
theorem ret_int {k : IntKind} {a b : Int} (h : a = b) : Ending.returned (.int k a) = .returned (.int k b) := by rw [h]

set_option maxHeartbeats 1000000 in
theorem pf_nil (fx fy : Int) (w : World) : Calls Try.prog 79 #[.pointer none, .int .i64 fx, .int .i64 fy] w fun e w' => e = .returned (.int .i64 2) ∧ w = w' := by
  go_enter Try.func79, Try.ntmps79
  go_wp2
  go_ret
  exact ⟨rfl, rfl⟩
set_option maxHeartbeats 1000000 in
theorem pf_some (a : Addr) (fx fy : Int) (w : World) : Calls Try.prog 79 #[.pointer (some a), .int .i64 fx, .int .i64 fy] w fun e w' => e = .returned (.int .i64 (facE false fx fy)) ∧ w = w' := by
  by_cases q0 : fx < 1
  · go_enter Try.func79, Try.ntmps79
    go_wp2
    go_ret
    exact ⟨ret_int (by unfold facE; rw [if_neg (by simp)]; first | rw [if_pos (by omega)] | rw [if_neg (by omega)]), rfl⟩
  by_cases q1 : 4 < fx
  · go_enter Try.func79, Try.ntmps79
    go_wp2
    go_ret
    exact ⟨ret_int (by unfold facE; rw [if_neg (by simp)]; first | rw [if_pos (by omega)] | rw [if_neg (by omega)]), rfl⟩
  by_cases q2 : fy < 1
  · go_enter Try.func79, Try.ntmps79
    go_wp2
    go_ret
    exact ⟨ret_int (by unfold facE; rw [if_neg (by simp)]; first | rw [if_pos (by omega)] | rw [if_neg (by omega)]), rfl⟩
  by_cases q3 : 4 < fy
  · go_enter Try.func79, Try.ntmps79
    go_wp2
    go_ret
    exact ⟨ret_int (by unfold facE; rw [if_neg (by simp)]; first | rw [if_pos (by omega)] | rw [if_neg (by omega)]), rfl⟩
  go_enter Try.func79, Try.ntmps79
  go_wp2
  go_ret
  exact ⟨ret_int (by unfold facE; rw [if_neg (by simp)]; first | rw [if_pos (by omega)] | rw [if_neg (by omega)]), rfl⟩

set_option maxHeartbeats 1000000 in
theorem rf_nil (fx fy : Int) (w : World) : Calls Try.prog 77 #[.pointer none, .int .i64 fx, .int .i64 fy] w fun e w' => e = .returned (.int .i64 2) ∧ w = w' := by
  go_enter Try.func77, Try.ntmps77
  go_wp2
  go_ret
  exact ⟨rfl, rfl⟩
set_option maxHeartbeats 1000000 in
theorem rf_some (a : Addr) (fx fy : Int) (w : World) : Calls Try.prog 77 #[.pointer (some a), .int .i64 fx, .int .i64 fy] w fun e w' => e = .returned (.int .i64 (facE false fx fy)) ∧ w = w' := by
  by_cases q0 : fx < 1
  · go_enter Try.func77, Try.ntmps77
    go_wp2
    go_ret
    exact ⟨ret_int (by unfold facE; rw [if_neg (by simp)]; first | rw [if_pos (by omega)] | rw [if_neg (by omega)]), rfl⟩
  by_cases q1 : 4 < fx
  · go_enter Try.func77, Try.ntmps77
    go_wp2
    go_ret
    exact ⟨ret_int (by unfold facE; rw [if_neg (by simp)]; first | rw [if_pos (by omega)] | rw [if_neg (by omega)]), rfl⟩
  by_cases q2 : fy < 1
  · go_enter Try.func77, Try.ntmps77
    go_wp2
    go_ret
    exact ⟨ret_int (by unfold facE; rw [if_neg (by simp)]; first | rw [if_pos (by omega)] | rw [if_neg (by omega)]), rfl⟩
  by_cases q3 : 4 < fy
  · go_enter Try.func77, Try.ntmps77
    go_wp2
    go_ret
    exact ⟨ret_int (by unfold facE; rw [if_neg (by simp)]; first | rw [if_pos (by omega)] | rw [if_neg (by omega)]), rfl⟩
  go_enter Try.func77, Try.ntmps77
  go_wp2
  go_ret
  exact ⟨ret_int (by unfold facE; rw [if_neg (by simp)]; first | rw [if_pos (by omega)] | rw [if_neg (by omega)]), rfl⟩

end Go.Proofs.Ytlbocfinjlkebaa.Samp
