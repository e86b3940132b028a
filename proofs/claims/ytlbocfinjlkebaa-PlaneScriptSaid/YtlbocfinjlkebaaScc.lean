/- PlaneScript: keep. -/
import Derived.Test.YtlbocfinjlkebaaScb
namespace Go.Proofs.Ytlbocfinjlkebaa.Scr
open Go.RowKit Go.Proofs.Ytlbocfinjlkebaa.Byt Go.Proofs.Ytlbocfinjlkebaa.R12

set_option maxHeartbeats 2000000 in
theorem keep_no (base B : Nat) (r : Nat → Nat) (vp vq : Value) (ps qs : List Value) (es : List Ent) (x : Int) (w : World) (h : Book base w B r vp vq ps qs es) :
    Calls Try.prog 101 #[.pointer (some ⟨B, 0, none⟩), .pointer none, .int .i64 x, .pointer none, .int .i64 x] w fun e w' => e = .returned (.tuple #[]) ∧ Below base w w' ∧ Book base w' B r vp vq ps qs es ∧ Fr r r w w' := by
  have c2 := h.p2
  have f2 := h.frozen 2
  go_enter Try.func101, Try.ntmps101
  go_upto_region 1 with fail
  have h1 := h.mark
  have hb1 := h.markB (Below.refl base w)
  have hf1 := h.markF
  generalize (w.setCell ⟨B, 2, none⟩ (.bool true)) = w2 at h1 hb1 hf1 ⊢
  clear c2 f2
  have c2 := h1.p2
  have f2 := h1.frozen 2
  go_wp2_with fail
  go_end0
  exact ⟨rfl, hb1, h1, hf1⟩

/-- what keep does -/
def KeptP (base B : Nat) (ps qs : List Value) (es : List Ent) (bp bq : Nat) (r : Nat → Nat) (w : World) (e : Ending) (w' : World) : Prop :=
  e = .returned (.tuple #[]) ∧ Below base w w' ∧ ∃ r' vp vq, Book base w' B r' vp vq (ps ++ [.pointer (some ⟨bp, 0, none⟩)]) (qs ++ [.pointer (some ⟨bq, 0, none⟩)]) es ∧ Fr r r' w w'
set_option maxRecDepth 100000 in
set_option maxHeartbeats 4000000 in
theorem keep_yes (base B n bp bq : Nat) (r : Nat → Nat) (vp vq : Value) (ps qs : List Value) (es : List Ent) (w : World) (h : Book base w B r vp vq ps qs es) (hn : ps.length = n) (hn' : qs.length = n) (hm : n ≤ 16777216) :
    Calls Try.prog 101 #[.pointer (some ⟨B, 0, none⟩), .pointer (some ⟨bp, 0, none⟩), .int .i64 0, .pointer (some ⟨bq, 0, none⟩), .int .i64 0] w (KeptP base B ps qs es bp bq r w) := by
  obtain ⟨i0, i0h, i0z, i0s, i0b⟩ := info_parts infoP
  obtain ⟨i1, i1h, i1z, i1s, i1b⟩ := info_parts infoQ
  have c2 := h.p2
  have f2 := h.frozen 2
  go_enter Try.func101, Try.ntmps101
  go_upto_region 1 with fail
  have hw2 := h.mark
  have hb1 := h.markB (Below.refl base w)
  have hf1 := h.markF
  generalize (w.setCell ⟨B, 2, none⟩ (.bool true)) = w2 at hw2 hb1 hf1 ⊢
  clear c2 f2
  have c2 := hw2.p2
  have f2 := hw2.frozen 2
  have c0 := hw2.p0
  have hrow := hw2.rowp
  rw [hn] at hrow
  go_upto_region 3 with (at_builtin; refine wpList_append_lies _ rfl (.tmp 35) (.tmp 37) 113 rfl base 51 i0 (.pointer none) 1 8 Try.underlying113 i0h i0z i0s i0b rfl (by decide) vp n _ rfl (show World.ownsRow _ _ _ _ _ _ _ from hrow.alloc (.cells #[.pointer (some ⟨bp, 0, none⟩)] 51)) ⟨w2.heap.size, 0, none⟩ 1 1 [.pointer (some ⟨bp, 0, none⟩)] rfl rfl (show ∀ i u, _ → World.cell? _ _ = _ from cell_one_new w2 _ _) (by intro u hu; simp at hu; subst hu; rfl) (by decide) (by unfold maxLen; omega) (by omega) (show base ≤ (w2.alloc (.cells #[.pointer (some ⟨bp, 0, none⟩)] 51)).heap.size by simp; have := hw2.le; omega) (w2.heap.size + 1) (show (w2.alloc (.cells #[.pointer (some ⟨bp, 0, none⟩)] 51)).heap.size = _ by simp) ?_; intro gg cap w1 hown hgrow hat hlt1; have b1 := (hw2.bk.alloc (.cells #[.pointer (some ⟨bp, 0, none⟩)] 51)).grown hgrow (fun e => hw2.offB.1 e.symm); have r2 : w1.cell? ⟨B, 0, none⟩ = some vp := (by rw [b1.cell]; rfl); have r3 : w1.frozen? ⟨B, 0, none⟩ = false := b1.frozen 0)
  obtain ⟨hw3, hb3, hf3⟩ := hw2.pushP (v := .pointer (some ⟨bp, 0, none⟩)) hn hown hgrow hat
  have hb3' := hb1.trans hb3
  have hf3' := hf1.trans hf3
  generalize (w1.setCell ⟨B, 0, none⟩ (.slice (some ⟨gg, 0, none⟩) (n + 1) cap)) = w3 at hw3 hb3' hf3' ⊢
  clear c2 f2 c0 hrow r2 r3 b1 hown hgrow hat hlt1 hb3 hb1 hf3 hf1
  clear w1
  generalize (fun x => if x = gg then 1 else r x) = r1 at hw3 hf3'
  generalize (Value.slice (some ⟨gg, 0, none⟩) (n + 1) cap) = vp1 at hw3 ⊢
  have c1 := hw3.p1
  have hrow := hw3.rowq
  rw [hn'] at hrow
  go_wp2_with (at_builtin; refine wpList_append_lies _ rfl (.tmp 45) (.tmp 47) 114 rfl base 123 i1 (.pointer none) 1 8 Try.underlying114 i1h i1z i1s i1b rfl (by decide) vq n _ rfl (show World.ownsRow _ _ _ _ _ _ _ from hrow.alloc (.cells #[.pointer (some ⟨bq, 0, none⟩)] 123)) ⟨w3.heap.size, 0, none⟩ 1 1 [.pointer (some ⟨bq, 0, none⟩)] rfl rfl (show ∀ i u, _ → World.cell? _ _ = _ from cell_one_new w3 _ _) (by intro u hu; simp at hu; subst hu; rfl) (by decide) (by unfold maxLen; omega) (by omega) (show base ≤ (w3.alloc (.cells #[.pointer (some ⟨bq, 0, none⟩)] 123)).heap.size by simp; have := hw3.le; omega) (w3.heap.size + 1) (show (w3.alloc (.cells #[.pointer (some ⟨bq, 0, none⟩)] 123)).heap.size = _ by simp) ?_; intro gg cap w1 hown hgrow hat hlt1; have b1 := (hw3.bk.alloc (.cells #[.pointer (some ⟨bq, 0, none⟩)] 123)).grown hgrow (fun e => hw3.offB.2 e.symm); have r2 : w1.cell? ⟨B, 1, none⟩ = some vq := (by rw [b1.cell]; rfl); have r3 : w1.frozen? ⟨B, 1, none⟩ = false := b1.frozen 1)
  obtain ⟨hw4, hb4, hf4⟩ := hw3.pushQ (v := .pointer (some ⟨bq, 0, none⟩)) hn' hown hgrow hat
  go_end0
  exact ⟨rfl, hb3'.trans hb4, _, _, _, hw4, hf3'.trans hf4⟩
end Go.Proofs.Ytlbocfinjlkebaa.Scr
