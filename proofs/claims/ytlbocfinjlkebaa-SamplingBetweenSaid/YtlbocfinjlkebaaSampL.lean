/- The sizes of a larger plane: the program and the document refuse the same ones, with the same numbers; a document's plane in memory. -/
import Derived.Test.YtlbocfinjlkebaaSampF
namespace Go.Proofs.Ytlbocfinjlkebaa.Samp
open Go.RowKit

/-- why a plane can't be made so large -/
def upE (fx fy wide high : Int) (W H : Nat) : Int :=
  if fx < 1 ∨ 4 < fx ∨ fy < 1 ∨ 4 < fy then 130 else if wide < 1 ∨ high < 1 ∨ fx * W < wide ∨ fy * H < high ∨ 67108864 < wide * high then 120 else 0

theorem over_iff {a b : Int} (hb : 1 ≤ b) : 67108864 / b < a ↔ 67108864 < a * b := by
  rw [Int.ediv_lt_iff_lt_mul (by omega)]

/-- a plane of the document: its record at a pointer, its samples at a slice -/
structure RefAt (w : World) (b : Nat) (A : Option Addr) (W H c : Nat) (zs : List Int) : Prop where
  blk : Blk w b 127 #[.int .i64 W, .int .i64 H, .slice A (W * H) c]
  sl : Sl w A (W * H) (zs.map (.int .u8))
section
variable {w w' : World} {b W H c : Nat} {A : Option Addr} {zs : List Int}
theorem RefAt.c0 (h : RefAt w b A W H c zs) : w.cell? ⟨b, 0, none⟩ = some (.int .i64 W) := by rw [h.blk.cell]; rfl
theorem RefAt.c1 (h : RefAt w b A W H c zs) : w.cell? ⟨b, 1, none⟩ = some (.int .i64 H) := by rw [h.blk.cell]; rfl
theorem RefAt.c2 (h : RefAt w b A W H c zs) : w.cell? ⟨b, 2, none⟩ = some (.slice A (W * H) c) := by rw [h.blk.cell]; rfl
theorem RefAt.blt (h : RefAt w b A W H c zs) : b < w.heap.size := h.blk.lt
theorem RefAt.below (h : RefAt w b A W H c zs) (hb : Below w.heap.size w w') : RefAt w' b A W H c zs := ⟨h.blk.kept hb, h.sl.below hb⟩
theorem RefAt.drewN (h : RefAt w b A W H c zs) (n : Nat) : RefAt (w.drewN n) b A W H c zs := ⟨h.blk.drewN n, h.sl.drewN n⟩
theorem RefAt.len (h : RefAt w b A W H c zs) : zs.length = W * H := by simpa using h.sl.1
end

set_option maxHeartbeats 2000000 in
theorem larger_any (b g W H c : Nat) (xs : List Value) (fx fy wide high : Int) (w : World) (hp : P8.PA w b g W H c xs) :
    Calls Try.prog 87 #[.pointer (some ⟨b, 0, none⟩), .int .i64 fx, .int .i64 fy, .int .i64 wide, .int .i64 high] w fun e w' => e = .returned (.int .i64 (upE fx fy wide high W H)) ∧ ∃ k, w' = w.drewN k := by
  have hs := hp.side
  by_cases hf : fx < 1 ∨ 4 < fx ∨ fy < 1 ∨ 4 < fy
  · have e1 : facE false fx fy = 130 := by unfold facE; rw [if_neg (by simp), if_pos hf]
    go_enter Try.func87, Try.ntmps87
    go_wp2_with fail
    refine (pf_some _ fx fy w).mono ?_
    rintro e w' ⟨rfl, rfl⟩
    rw [e1]
    go_wp2_with fail
    go_ret
    exact ⟨ret_int (by unfold upE; rw [if_pos hf]), 0, rfl⟩
  · have e1 : facE false fx fy = 0 := by unfold facE; rw [if_neg (by simp), if_neg hf]
    obtain ⟨m, hm⟩ : ∃ m, fx * (W : Int) = m := ⟨_, rfl⟩
    obtain ⟨k, hk⟩ : ∃ k, fy * (H : Int) = k := ⟨_, rfl⟩
    have bm : m ≤ 4 * (W : Int) := by rw [← hm]; exact Int.mul_le_mul_of_nonneg_right (by omega) (by omega)
    have bk : k ≤ 4 * (H : Int) := by rw [← hk]; exact Int.mul_le_mul_of_nonneg_right (by omega) (by omega)
    have bm0 : 0 ≤ m := by rw [← hm]; exact Int.mul_nonneg (by omega) (by omega)
    have bk0 : 0 ≤ k := by rw [← hk]; exact Int.mul_nonneg (by omega) (by omega)
    go_enter Try.func87, Try.ntmps87
    go_wp2_with fail
    refine (pf_some _ fx fy w).mono ?_
    rintro e w' ⟨rfl, rfl⟩
    rw [e1]
    go_wp2_with fail
    refine (P8.size_any b g W H c xs _ hp).mono ?_
    rintro e w' ⟨rfl, n, rfl⟩
    by_cases h1 : wide < 1
    · go_wp2_with fail
      go_ret
      exact ⟨ret_int (by unfold upE; rw [if_neg hf, if_pos (.inl h1)]), n, rfl⟩
    by_cases h2 : m < wide
    · go_wp2_with fail
      go_ret
      exact ⟨ret_int (by unfold upE; rw [if_neg hf, if_pos (.inr (.inr (.inl (by omega))))]), n, rfl⟩
    by_cases h3 : high < 1
    · go_wp2_with fail
      go_ret
      exact ⟨ret_int (by unfold upE; rw [if_neg hf, if_pos (.inr (.inl h3))]), n, rfl⟩
    by_cases h4 : k < high
    · go_wp2_with fail
      go_ret
      exact ⟨ret_int (by unfold upE; rw [if_neg hf, if_pos (.inr (.inr (.inr (.inl (by omega)))))]), n, rfl⟩
    by_cases h5 : 67108864 / high < wide
    · have h6 := (over_iff (by omega)).1 h5
      go_wp2_with fail
      go_ret
      exact ⟨ret_int (by unfold upE; rw [if_neg hf, if_pos (.inr (.inr (.inr (.inr h6))))]), n, rfl⟩
    · have h6 := fun h => h5 ((over_iff (by omega)).2 h)
      go_wp2_with fail
      go_ret
      exact ⟨ret_int (by unfold upE; rw [if_neg hf, if_neg (by rintro (h | h | h | h | h) <;> first | omega | exact h6 h)]), n, rfl⟩

set_option maxHeartbeats 2000000 in
theorem larger_nil (fx fy wide high : Int) (w : World) :
    Calls Try.prog 87 #[.pointer none, .int .i64 fx, .int .i64 fy, .int .i64 wide, .int .i64 high] w fun e w' => e = .returned (.int .i64 2) ∧ w = w' := by
  go_enter Try.func87, Try.ntmps87
  go_wp2_with fail
  refine (pf_nil fx fy w).mono ?_
  rintro e w' ⟨rfl, rfl⟩
  go_wp2_with fail
  go_ret
  exact ⟨rfl, rfl⟩
end Go.Proofs.Ytlbocfinjlkebaa.Samp
