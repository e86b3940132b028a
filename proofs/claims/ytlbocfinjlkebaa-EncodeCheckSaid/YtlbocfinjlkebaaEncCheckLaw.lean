/- The law's own call: whatever the options, the two checks agree; nothing that was there is written. -/
import Derived.Test.YtlbocfinjlkebaaEncCheckRef
import Derived.RegionCalls
import Derived.Deep.RegionWith
import Derived.Deep.RegionHeld3
namespace Go.Proofs.Ytlbocfinjlkebaa.EncCheck
open Go.RowKit

theorem below_keep {w w' : World} (hb : Below w.heap.size w w') {p : Addr} {v : Value} (h : w.cell? p = some v) : w'.cell? p = some v :=
  (hb.cell (World.block_lt_of_cell? w p h)).trans h

set_option maxHeartbeats 1000000 in
theorem law_any (q : Nat) (h v r : Int) (b s : Bool) (w : World) :
    Calls Try.prog 3 #[.agg #[.float .f64 q, .int .u8 h, .int .u8 v, .int .i64 r, .bool b, .bool s]] w fun e w' => e = .returned (.bool true) ∧ Below w.heap.size w w' := by
  go_enter Try.func3, Try.ntmps3
  go_wp2
  go_region_held3 (fun w' => w'.cell? ⟨w.heap.size, 0, none⟩ = some (.float .f64 q) ∧ w'.cell? ⟨w.heap.size, 1, none⟩ = some (.int .u8 h) ∧ w'.cell? ⟨w.heap.size, 2, none⟩ = some (.int .u8 v) ∧ w'.cell? ⟨w.heap.size, 3, none⟩ = some (.int .i64 r) ∧ w'.cell? ⟨w.heap.size, 4, none⟩ = some (.bool b) ∧ w'.cell? ⟨w.heap.size, 5, none⟩ = some (.bool s)) (first | (go_split_ands; refine ⟨?_, ?_, ?_, ?_, ?_, ?_⟩ <;> (refine below_keep hb ?_; first | assumption | (go_keep; done)); done) | (go_keep; done))
    (first | (go_at_call 16; refine (prog_any _ _ _ _ _ _ _).mono ?_; rintro e w' ⟨rfl, hb⟩) | (go_at_call 17; refine (ref_any _ _ _ _ _ _ _).mono ?_; rintro e w' ⟨rfl, hb⟩))
  all_goals go_wp2
  go_ret
  have b1 : Below w.heap.size w (w.alloc (Obj.cells #[Value.float .f64 q, Value.int .u8 h, Value.int .u8 v, Value.int .i64 r, Value.bool b, Value.bool s] 24)).drew := ((Below.refl _ _).alloc (Nat.le_refl _) _).drew
  rename_i w1 hb1 _
  have b2 : Below w.heap.size w w1 := b1.trans (hb1.mono (by simp))
  exact ⟨rfl, b2.trans (hb.mono b2.size)⟩
end Go.Proofs.Ytlbocfinjlkebaa.EncCheck
