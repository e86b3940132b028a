/- What a plane is in memory, and what its samples are, in plain words. -/
import Derived.Test.YtlbocfinjlkebaaMem
namespace Go.Proofs.Ytlbocfinjlkebaa
open Go.RowKit

/-- may a plane have that size? -/
def fitsB (W H : Int) : Bool := decide (1 ≤ W ∧ 1 ≤ H ∧ W ≤ 67108864 ∧ H ≤ 67108864 / W)
/-- is there a sample at a place? -/
def inB (x y W H : Int) : Bool := decide (0 ≤ x ∧ x < W ∧ 0 ≤ y ∧ y < H)

theorem fitsB_iff (W H : Int) : fitsB W H = true ↔ 1 ≤ W ∧ 1 ≤ H ∧ W * H ≤ 67108864 := by
  unfold fitsB
  simp only [decide_eq_true_eq]
  constructor
  · rintro ⟨a, b, c, d⟩
    exact ⟨a, b, by rw [Int.mul_comm]; exact (Int.le_ediv_iff_mul_le (by omega)).1 d⟩
  · rintro ⟨a, b, c⟩
    refine ⟨a, b, ?_, (Int.le_ediv_iff_mul_le (by omega)).2 (by rw [Int.mul_comm]; exact c)⟩
    have : W * 1 ≤ W * H := Int.mul_le_mul_of_nonneg_left b (by omega)
    omega

/-- a plane at block b, its samples in block g -/
structure PlaneAt (tp te : TypeId) (w : World) (b g : Nat) (W H : Nat) (c : Nat) (xs : List Value) : Prop where
  blk : Blk w b tp #[.int .i64 W, .int .i64 H, .slice (some ⟨g, 0, none⟩) (W * H) c]
  row : ∃ cur : Array Value, Blk w g te cur ∧ cur.size = c ∧ cur.toList.take (W * H) = xs
  ne : b ≠ g
  wide : 1 ≤ W
  high : 1 ≤ H
  size : W * H ≤ 67108864
  cap : W * H ≤ c
  most : c ≤ maxLen

section
variable {tp te : TypeId} {w w' : World} {b g W H c : Nat} {xs : List Value}
theorem PlaneAt.len (h : PlaneAt tp te w b g W H c xs) : xs.length = W * H := by
  obtain ⟨cur, _, hs, rfl⟩ := h.row
  rw [List.length_take]
  have := h.cap
  simp; omega
theorem PlaneAt.c0 (h : PlaneAt tp te w b g W H c xs) : w.cell? ⟨b, 0, none⟩ = some (.int .i64 W) := by rw [h.blk.cell]; rfl
theorem PlaneAt.c1 (h : PlaneAt tp te w b g W H c xs) : w.cell? ⟨b, 1, none⟩ = some (.int .i64 H) := by rw [h.blk.cell]; rfl
theorem PlaneAt.c2 (h : PlaneAt tp te w b g W H c xs) : w.cell? ⟨b, 2, none⟩ = some (.slice (some ⟨g, 0, none⟩) (W * H) c) := by rw [h.blk.cell]; rfl
theorem PlaneAt.cellAt (h : PlaneAt tp te w b g W H c xs) {j : Nat} (hj : j < W * H) : w.cell? ⟨g, j, none⟩ = some (xs.getD j undef) := by
  have hl := h.len
  obtain ⟨cur, hb, hs, rfl⟩ := h.row
  have hjc : j < cur.size := by have := h.cap; omega
  rw [hb.cell j, List.getD_eq_getElem?_getD, List.getElem?_take, if_pos hj]
  simp [hjc]
theorem PlaneAt.frozenAt (h : PlaneAt tp te w b g W H c xs) (j : Nat) : w.frozen? ⟨g, j, none⟩ = false := by
  obtain ⟨cur, hb, _⟩ := h.row
  exact hb.frozen j
theorem PlaneAt.side (h : PlaneAt tp te w b g W H c xs) : W ≤ 67108864 ∧ H ≤ 67108864 := by
  have h1 := h.wide; have h2 := h.high; have h3 := h.size
  exact ⟨Nat.le_trans (Nat.le_mul_of_pos_right W h2) h3, Nat.le_trans (Nat.le_mul_of_pos_left H h1) h3⟩
theorem PlaneAt.blt (h : PlaneAt tp te w b g W H c xs) : b < w.heap.size := h.blk.lt
theorem PlaneAt.glt (h : PlaneAt tp te w b g W H c xs) : g < w.heap.size := by obtain ⟨cur, hb, _⟩ := h.row; exact hb.lt
theorem PlaneAt.keep (h : PlaneAt tp te w b g W H c xs) (hb : w'.heap[b]? = w.heap[b]?) (hg : w'.heap[g]? = w.heap[g]?) : PlaneAt tp te w' b g W H c xs :=
  ⟨hb.trans h.blk, by obtain ⟨cur, k, r⟩ := h.row; exact ⟨cur, hg.trans k, r⟩, h.ne, h.wide, h.high, h.size, h.cap, h.most⟩
theorem PlaneAt.below (h : PlaneAt tp te w b g W H c xs) (hb : Below w.heap.size w w') : PlaneAt tp te w' b g W H c xs := h.keep (hb.block b h.blt) (hb.block g h.glt)
theorem PlaneAt.drewN (h : PlaneAt tp te w b g W H c xs) (n : Nat) : PlaneAt tp te (w.drewN n) b g W H c xs := h.keep rfl rfl
theorem PlaneAt.grown (h : PlaneAt tp te w b g W H c xs) {r : Option Nat} (hg : w.grownBy w' r) (h1 : some b ≠ r) (h2 : some g ≠ r) : PlaneAt tp te w' b g W H c xs :=
  h.keep (hg.block b h.blt h1) (hg.block g h.glt h2)
theorem PlaneAt.set (h : PlaneAt tp te w b g W H c xs) (j : Nat) (u : Value) : PlaneAt tp te (w.setCell ⟨g, j, none⟩ u) b g W H c (xs.set j u) := by
  refine ⟨h.blk.far h.ne u, ?_, h.ne, h.wide, h.high, h.size, h.cap, h.most⟩
  obtain ⟨cur, k, hs, rfl⟩ := h.row
  refine ⟨_, k.set j u, by simpa using hs, ?_⟩
  rw [Array.toList_setIfInBounds, List.take_set]
/-- where a sample lies -/
theorem PlaneAt.place (_h : PlaneAt tp te w b g W H c xs) {x y : Int} (hx : 0 ≤ x) (hx' : x < W) (hy : 0 ≤ y) (hy' : y < H) :
    ∃ m : Nat, y * (W : Int) = m ∧ y.toNat * W = m ∧ (m : Int) + x < ((W * H : Nat) : Int) ∧ m + x.toNat < W * H := by
  obtain ⟨i, rfl⟩ := Int.eq_ofNat_of_zero_le hx
  obtain ⟨j, rfl⟩ := Int.eq_ofNat_of_zero_le hy
  have h1 : (j + 1) * W ≤ H * W := Nat.mul_le_mul_right W (by omega)
  rw [Nat.add_mul, Nat.one_mul, Nat.mul_comm H W] at h1
  exact ⟨j * W, by simp, by simp, by omega, by simp; omega⟩
end

/-- a plane whose samples lie in a block that is known whole -/
theorem plane_mk {tp te : TypeId} {w : World} {b g W H c : Nat} {cur : Array Value} (hb : Blk w b tp #[.int .i64 W, .int .i64 H, .slice (some ⟨g, 0, none⟩) (W * H) c]) (hg : Blk w g te cur) (hs : cur.size = c)
    (hne : b ≠ g) (hf : fitsB W H = true) (hcap : W * H ≤ c) (hc : c ≤ maxLen) : PlaneAt tp te w b g W H c (cur.toList.take (W * H)) := by
  obtain ⟨h1, h2, h3⟩ := (fitsB_iff _ _).1 hf
  have h3' : ((W * H : Nat) : Int) ≤ 67108864 := by rw [Int.natCast_mul]; exact h3
  exact ⟨hb, ⟨cur, hg, hs, rfl⟩, hne, by omega, by omega, by omega, hcap, hc⟩
theorem run_make_n {P : Program} (t e : TypeId) (i : TypeInfo) (z : Value) (ht : P.underlying t = some (.slice e)) (hi : P.info? e = some i) (hz : i.zero = some z) (h1 : i.size = 1)
    (n : Nat) (hb : i.bytes * n ≤ 281474976710656) (h63 : n ≤ 9223372036854775807) (w : World) :
    (Instr.makeSlice t (.int .i64 (n : Int)) (.int .i64 (n : Int))).run P w = .ok (.slice (some ⟨w.heap.size, 0, none⟩) n n) (w.alloc (.cells (madeCells z.cells n) e)) := by
  have hb' : (i.bytes : Int) * (n : Int) ≤ 281474976710656 := by
    have h : ((i.bytes * n : Nat) : Int) ≤ 281474976710656 := by omega
    rwa [Int.natCast_mul] at h
  have hr := run_make (P := P) w t e i z ht hi hz .i64 .i64 n n (by omega) (by omega) hb' (by omega)
  simpa [h1] using hr
/-- the row's block out of what an append leaves -/
theorem row_of_owns {w : World} {base g n c : Nat} {te : TypeId} {xs : List Value} (h : w.ownsRow base te 1 (.slice (some ⟨g, 0, none⟩) n c) n xs) :
    ∃ cur : Array Value, Blk w g te cur ∧ cur.size = c ∧ cur.toList.take n = xs ∧ base ≤ g ∧ n ≤ c ∧ c ≤ maxLen := by
  rcases h.2 with ⟨h0, _⟩ | ⟨g', c', cur, hv, hb, hg, hnc, hc, hs, ht⟩
  · cases h0
  · injection hv with e1 e2 e3
    injection e1 with e1
    injection e1 with e1
    subst e1 e3
    exact ⟨cur, hg, by omega, by simpa using ht, hb, hnc, hc⟩
theorem owns_of_row {w : World} {g n c : Nat} {te : TypeId} {cur : Array Value} (base : Nat) (h : Blk w g te cur) (hs : cur.size = c) (hb : base ≤ g) (hn : n ≤ c) (hc : c ≤ maxLen) :
    w.ownsRow base te 1 (.slice (some ⟨g, 0, none⟩) n c) n (cur.toList.take n) :=
  ⟨by rw [List.length_take]; simp; omega, .inr ⟨g, c, cur, rfl, hb, h, hn, hc, by omega, by simp⟩⟩
theorem news_of_sl {w : World} {b o n : Nat} {xs : List Value} (hl : xs.length = n) (hc : ∀ j, j < n → w.cell? ⟨b, o + j, none⟩ = xs[j]?) :
    ∀ j u, xs[j]? = some u → w.cell? ((⟨b, o, none⟩ : Addr).add j) = some u := by
  intro j u hu
  have hj : j < n := by rw [← hl]; exact (List.getElem?_eq_some_iff.1 hu).1
  have e : (⟨b, o, none⟩ : Addr).add j = ⟨b, o + j, none⟩ := by unfold Addr.add; split <;> simp_all
  rw [e, hc j hj, hu]

/-- the sample at a place, row by row -/
def smp (xs : List Value) (W : Nat) (x y : Int) : Value := xs.getD (y.toNat * W + x.toNat) undef
/-- of the numbers from 0 to n - 1 the one nearest to x -/
def clampI (x : Int) (n : Nat) : Int := min (max x 0) ((n : Int) - 1)
theorem clampI_in (x : Int) {n : Nat} (h : 1 ≤ n) : 0 ≤ clampI x n ∧ clampI x n < n := by unfold clampI; omega
end Go.Proofs.Ytlbocfinjlkebaa
