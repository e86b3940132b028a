/- The document's way to fail. -/
import Derived.Test.YtjfgfoeenajneaaDoorGC6
namespace Go.Proofs.YtjfgfoeenajneaaDoor.Sg
open Go.RowKit

theorem size2V : (Tryd.prog.info? 44).map (·.size) = some 2 := by kernel_rfl
set_option maxRecDepth 100000 in
set_option maxHeartbeats 8000000 in
theorem fault15_any (code p : Int) (w : World) :
    Calls Tryd.prog 50 #[.int .i64 code, .int .i64 p] w fun e w' => e = .returned (.tuple #[.agg (segC SegM.none_ nilS nilS nilS nilS nilS), .agg #[.int .i64 code, .int .i64 p]]) ∧ Below w.heap.size w w' := by
  go_enter Tryd.func50, Tryd.ntmps50
  go_wp2_with fail
  have h1 : Blk ((w.alloc (.cells #[.int .u8 0, .int .i64 0, .int .i64 0, .slice none 0 0, .slice none 0 0, .int .u8 0, .int .i64 0, .int .i64 0, .slice none 0 0, .slice none 0 0, .slice none 0 0, .int .i64 0, .string (ByteArray.mk #[])] 30)).alloc (.cells #[.int .i64 code, .int .i64 p] 44)) w.heap.size 30 (segC SegM.none_ nilS nilS nilS nilS nilS) := (Blk.new w 30 #[.int .u8 0, .int .i64 0, .int .i64 0, .slice none 0 0, .slice none 0 0, .int .u8 0, .int .i64 0, .int .i64 0, .slice none 0 0, .slice none 0 0, .slice none 0 0, .int .i64 0, .string (ByteArray.mk #[])]).alloc _
  have h2 : Blk ((w.alloc (.cells #[.int .u8 0, .int .i64 0, .int .i64 0, .slice none 0 0, .slice none 0 0, .int .u8 0, .int .i64 0, .int .i64 0, .slice none 0 0, .slice none 0 0, .slice none 0 0, .int .i64 0, .string (ByteArray.mk #[])] 30)).alloc (.cells #[.int .i64 code, .int .i64 p] 44)) (w.heap.size + 1) 44 #[.int .i64 code, .int .i64 p] := by
    have h := Blk.new (w.alloc (.cells #[.int .u8 0, .int .i64 0, .int .i64 0, .slice none 0 0, .slice none 0 0, .int .u8 0, .int .i64 0, .int .i64 0, .slice none 0 0, .slice none 0 0, .slice none 0 0, .int .i64 0, .string (ByteArray.mk #[])] 30)) 44 #[.int .i64 code, .int .i64 p]
    rw [show (w.alloc (.cells #[.int .u8 0, .int .i64 0, .int .i64 0, .slice none 0 0, .slice none 0 0, .int .u8 0, .int .i64 0, .int .i64 0, .slice none 0 0, .slice none 0 0, .slice none 0 0, .int .i64 0, .string (ByteArray.mk #[])] 30)).heap.size = w.heap.size + 1 by simp] at h
    exact h
  refine bodyPost_ret (results_cells (by rfl) _ _ w.heap.size (w.heap.size + 1) 30 44 _ _ _ _ _ _ (by rfl) (by rfl) h1 h2 Tryd.underlying30 rfl size13R Tryd.underlying44 rfl size2V) (by rfl) ?_
  exact ⟨rfl, ((Below.refl _ _).alloc (Nat.le_refl _) _).alloc (by simp) _⟩
end Go.Proofs.YtjfgfoeenajneaaDoor.Sg
