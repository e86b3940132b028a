/- The document's way to fail. -/
import Derived.Test.YtjfgfoeenajneaaGreatDoorGC6
namespace Go.Proofs.YtjfgfoeenajneaaGreatDoor.Sg
open Go.RowKit

theorem size2V : (Tryz.prog.info? 34).map (·.size) = some 2 := by kernel_rfl
set_option maxRecDepth 100000 in
set_option maxHeartbeats 8000000 in
theorem fault15_any (code p : Int) (w : World) :
    Calls Tryz.prog 20 #[.int .i64 code, .int .i64 p] w fun e w' => e = .returned (.tuple #[.agg (segC SegM.none_ nilS nilS nilS nilS nilS), .agg #[.int .i64 code, .int .i64 p]]) ∧ Below w.heap.size w w' := by
  go_enter Tryz.func20, Tryz.ntmps20
  go_wp2_with fail
  have h1 : Blk ((w.alloc (.cells #[.int .u8 0, .int .i64 0, .int .i64 0, .slice none 0 0, .slice none 0 0, .int .u8 0, .int .i64 0, .int .i64 0, .slice none 0 0, .slice none 0 0, .slice none 0 0, .int .i64 0, .string (ByteArray.mk #[])] 31)).alloc (.cells #[.int .i64 code, .int .i64 p] 34)) w.heap.size 31 (segC SegM.none_ nilS nilS nilS nilS nilS) := (Blk.new w 31 #[.int .u8 0, .int .i64 0, .int .i64 0, .slice none 0 0, .slice none 0 0, .int .u8 0, .int .i64 0, .int .i64 0, .slice none 0 0, .slice none 0 0, .slice none 0 0, .int .i64 0, .string (ByteArray.mk #[])]).alloc _
  have h2 : Blk ((w.alloc (.cells #[.int .u8 0, .int .i64 0, .int .i64 0, .slice none 0 0, .slice none 0 0, .int .u8 0, .int .i64 0, .int .i64 0, .slice none 0 0, .slice none 0 0, .slice none 0 0, .int .i64 0, .string (ByteArray.mk #[])] 31)).alloc (.cells #[.int .i64 code, .int .i64 p] 34)) (w.heap.size + 1) 34 #[.int .i64 code, .int .i64 p] := by
    have h := Blk.new (w.alloc (.cells #[.int .u8 0, .int .i64 0, .int .i64 0, .slice none 0 0, .slice none 0 0, .int .u8 0, .int .i64 0, .int .i64 0, .slice none 0 0, .slice none 0 0, .slice none 0 0, .int .i64 0, .string (ByteArray.mk #[])] 31)) 34 #[.int .i64 code, .int .i64 p]
    rw [show (w.alloc (.cells #[.int .u8 0, .int .i64 0, .int .i64 0, .slice none 0 0, .slice none 0 0, .int .u8 0, .int .i64 0, .int .i64 0, .slice none 0 0, .slice none 0 0, .slice none 0 0, .int .i64 0, .string (ByteArray.mk #[])] 31)).heap.size = w.heap.size + 1 by simp] at h
    exact h
  refine bodyPost_ret (results_cells (by rfl) _ _ w.heap.size (w.heap.size + 1) 31 34 _ _ _ _ _ _ (by rfl) (by rfl) h1 h2 Tryz.underlying31 rfl size13R Tryz.underlying34 rfl size2V) (by rfl) ?_
  exact ⟨rfl, ((Below.refl _ _).alloc (Nat.le_refl _) _).alloc (by simp) _⟩
end Go.Proofs.YtjfgfoeenajneaaGreatDoor.Sg
