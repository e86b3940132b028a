/- The document's planes of ints: Cut, Lay. -/
import Derived.Test.YtlbocfinjlkebaaRb
import Derived.Test.YtlbocfinjlkebaaGrid
import Derived.Test.YtlbocfinjlkebaaPieceL
import Derived.Test.YtlbocfinjlkebaaPlanePIg
namespace Go.Proofs.Ytlbocfinjlkebaa.R12
open Go.RowKit Go.Proofs.Ytlbocfinjlkebaa.Byt

theorem getD_int (zs : List Int) (k : IntKind) (j : Nat) : (zs.map (Value.int k))[j]? = if j < zs.length then some (.int k (zs.getD j 0)) else none := by
  by_cases h : j < zs.length
  · rw [if_pos h, List.getElem?_map, List.getElem?_eq_getElem h, List.getD_eq_getElem?_getD, List.getElem?_eq_getElem h]
    rfl
  · rw [if_neg h, List.getElem?_eq_none (by simp; omega)]
theorem rowsZ_length {W x y wd : Nat} {zs : List Int} : ∀ k, (∀ j, j < k → (y + j) * W + x + wd ≤ zs.length) → (rowsZ W x y wd zs k).length = k * wd
  | 0, _ => by simp [rowsZ]
  | k + 1, h => by
    rw [rowsZ, List.length_append, rowsZ_length k (fun j hj => h j (by omega)), List.length_take, List.length_drop]
    have h1 := h k (by omega)
    have e : (k + 1) * wd = k * wd + wd := by rw [Nat.add_mul, Nat.one_mul]
    rw [e, Nat.min_eq_left (by omega)]
theorem rowsZ_get {W x y wd : Nat} {zs : List Int} : ∀ k, (∀ j, j < k → (y + j) * W + x + wd ≤ zs.length) → ∀ r s, r < k → s < wd → (rowsZ W x y wd zs k)[r * wd + s]? = zs[(y + r) * W + x + s]?
  | 0, _, r, s, hr, _ => by omega
  | k + 1, h, r, s, hr, hs => by
    have hl := rowsZ_length (W := W) (x := x) (y := y) (wd := wd) (zs := zs) k (fun j hj => h j (by omega))
    have h1 := h k (by omega)
    rw [rowsZ, List.getElem?_append, hl]
    by_cases hrk : r < k
    · rw [if_pos (row_lt hrk hs)]
      exact rowsZ_get k (fun j hj => h j (by omega)) r s hrk hs
    · obtain rfl : r = k := by omega
      rw [if_neg (by omega), List.getElem?_take, if_pos (by omega), List.getElem?_drop]
      congr 1
      omega
/-- a piece, sample by sample -/
def cutF (zs : List Int) (W x y : Nat) (i j : Nat) : Int := zs.getD ((y + j) * W + (x + i)) 0
theorem cut_grid {W H x y wd hg : Nat} {zs : List Int} (hl : zs.length = W * H) (h1 : 1 ≤ wd) (h2 : x + wd ≤ W) (h3 : y + hg ≤ H) : gridL wd (cutF zs W x y) (hg * wd) = rowsZ W x y wd zs hg := by
  have hfit : ∀ j, j < hg → (y + j) * W + x + wd ≤ zs.length := by
    intro j hj
    rw [hl, Nat.mul_comm W H]
    have : (y + j + 1) * W ≤ H * W := Nat.mul_le_mul_right W (by omega)
    rw [Nat.add_mul (y + j) 1, Nat.one_mul] at this
    omega
  have hlen := rowsZ_length hg hfit
  apply List.ext_getElem?
  intro k
  by_cases hk : k < hg * wd
  · have e : k / wd * wd + k % wd = k := by rw [Nat.mul_comm]; exact Nat.div_add_mod k wd
    have r1 : k % wd < wd := Nat.mod_lt _ (by omega)
    have r2 : k / wd < hg := Nat.div_lt_of_lt_mul (by rw [Nat.mul_comm]; exact hk)
    have h4 := rowsZ_get hg hfit _ _ r2 r1
    rw [e] at h4
    have hb : (y + k / wd) * W + x + k % wd < zs.length := by
      have := hfit _ r2
      omega
    rw [h4, List.getElem?_eq_getElem hb]
    unfold gridL
    rw [List.getElem?_map, List.getElem?_range hk]
    simp only [Option.map_some]
    unfold cutF
    rw [← Nat.add_assoc, List.getD_eq_getElem?_getD, List.getElem?_eq_getElem hb]
    rfl
  · rw [List.getElem?_eq_none (by rw [gridL_length]; omega), List.getElem?_eq_none (by omega)]

set_option maxRecDepth 100000 in
set_option maxHeartbeats 4000000 in
theorem cut_no (b g W H c : Nat) (zs : List Int) (x y wd hg : Int) (w : World) (hp : RA w b g W H c zs) (hn : x < 0 ∨ y < 0 ∨ wd < 1 ∨ hg < 1 ∨ (W : Int) < wd ∨ (H : Int) < hg ∨ (W : Int) - wd < x ∨ (H : Int) - hg < y) :
    Calls Try.prog 100 #[.pointer (some ⟨b, 0, none⟩), .int .i64 x, .int .i64 y, .int .i64 wd, .int .i64 hg] w fun e w' => e = .returned (.tuple #[.pointer none, .int .i64 3]) ∧ w = w' := by
  have c0 := hp.c0
  have c1 := hp.c1
  have hs := hp.side
  by_cases q0 : wd < 1
  · go_enter Try.func100, Try.ntmps100
    go_wp2_with fail
    go_ret2
    exact ⟨rfl, rfl⟩
  by_cases q1 : hg < 1
  · go_enter Try.func100, Try.ntmps100
    go_wp2_with fail
    go_ret2
    exact ⟨rfl, rfl⟩
  by_cases q2 : x < 0
  · go_enter Try.func100, Try.ntmps100
    go_wp2_with fail
    go_ret2
    exact ⟨rfl, rfl⟩
  by_cases q3 : y < 0
  · go_enter Try.func100, Try.ntmps100
    go_wp2_with fail
    go_ret2
    exact ⟨rfl, rfl⟩
  by_cases q4 : (W : Int) < wd
  · go_enter Try.func100, Try.ntmps100
    go_wp2_with fail
    go_ret2
    exact ⟨rfl, rfl⟩
  by_cases q5 : (H : Int) < hg
  · go_enter Try.func100, Try.ntmps100
    go_wp2_with fail
    go_ret2
    exact ⟨rfl, rfl⟩
  by_cases q6 : (W : Int) - wd < x
  · have ww : IntKind.i64.wrap ((W : Int) - wd) = (W : Int) - wd := IntWalk.i64_in _ (by omega)
    go_enter Try.func100, Try.ntmps100
    go_wp2_with fail
    go_ret2
    exact ⟨rfl, rfl⟩
  have q7 : (H : Int) - hg < y := by omega
  have ww : IntKind.i64.wrap ((W : Int) - wd) = (W : Int) - wd := IntWalk.i64_in _ (by omega)
  have wh : IntKind.i64.wrap ((H : Int) - hg) = (H : Int) - hg := IntWalk.i64_in _ (by omega)
  go_enter Try.func100, Try.ntmps100
  go_wp2_with fail
  go_ret2
  exact ⟨rfl, rfl⟩

/-- the document's plane while its samples are appended -/
def CutJ (w wr : World) (W H p n : Nat) (ys : List Value) : Prop :=
  ∃ s, Blk wr p 122 #[.int .i64 W, .int .i64 H, s] ∧ wr.ownsRow w.heap.size 3 1 s n ys ∧ Below w.heap.size w wr ∧ s.ownBlock ≠ some p ∧ w.heap.size ≤ p
theorem CutJ.step {w wr w1 : World} {W H p n gg cap : Nat} {s : Value} {ys zs : List Value} {o : Obj} (q1 : Blk wr p 122 #[.int .i64 W, .int .i64 H, s]) (q2 : wr.ownsRow w.heap.size 3 1 s n ys) (q3 : Below w.heap.size w wr)
    (q4 : s.ownBlock ≠ some p) (hw : w.heap.size ≤ p) (hown : w1.ownsRow w.heap.size 3 1 (.slice (some ⟨gg, 0, none⟩) (n + 1) cap) (n + 1) zs) (hgrow : (wr.alloc o).grownBy w1 s.ownBlock)
    (hat : s.ownBlock = some gg ∨ gg = wr.heap.size + 1) :
    CutJ w (w1.setCell ⟨p, 2, none⟩ (.slice (some ⟨gg, 0, none⟩) (n + 1) cap)) W H p (n + 1) zs := by
  have hne : p ≠ gg := by
    rintro rfl
    rcases hat with h | h
    · exact q4 h
    · have := q1.lt; omega
  have b1 := (q1.alloc o).grown hgrow (fun h => q4 h.symm)
  have a1 : Below w.heap.size w (wr.alloc o) := q3.alloc q3.size _
  have a2 := a1.grown hgrow a1.size (fun j hj => (q2.lt j hj).1)
  refine ⟨.slice (some ⟨gg, 0, none⟩) (n + 1) cap, ?_, ?_, ?_, ?_, hw⟩
  · exact Blk.set b1 2 _
  · obtain ⟨cur, r1, r2, r3, r4, r5, r6⟩ := row_of_owns hown
    rw [← r3]
    have r1' : Blk (w1.setCell ⟨p, 2, none⟩ (.slice (some ⟨gg, 0, none⟩) (n + 1) cap)) gg 3 cur := r1.far (fun h => hne h.symm) _
    exact owns_of_row w.heap.size r1' r2 r4 r5 r6
  · exact a2.setCell hw _
  · simp [Value.ownBlock]; exact fun h => hne h.symm
set_option maxRecDepth 100000 in
set_option maxHeartbeats 8000000 in
theorem cut_yes (b g W H c : Nat) (zs : List Int) (x y wd hg : Nat) (w : World) (hp : RA w b g W H c zs) (h1 : 1 ≤ wd) (h2 : 1 ≤ hg) (h3 : x + wd ≤ W) (h4 : y + hg ≤ H) :
    Calls Try.prog 100 #[.pointer (some ⟨b, 0, none⟩), .int .i64 x, .int .i64 y, .int .i64 wd, .int .i64 hg] w (MadeR w wd hg (rowsZ W x y wd zs hg)) := by
  obtain ⟨i0, hi, hz0, hz1, hz2⟩ := info_parts PI.info
  have c0 := hp.c0
  have c1 := hp.c1
  have hs := hp.side
  have hsz := hp.size
  have hl : zs.length = W * H := by simpa using hp.len
  rw [← cut_grid hl h1 h3 h4]
  obtain ⟨N, hN⟩ : ∃ N, wd * hg = N := ⟨_, rfl⟩
  have hN1 : 1 ≤ N := by rw [← hN]; exact Nat.mul_le_mul h1 h2
  have hN2 : N ≤ 67108864 := by rw [← hN]; exact Nat.le_trans (Nat.mul_le_mul (by omega) (by omega)) hsz
  have HN := Lib.hid hN; clear hN
  have HL := Lib.hid hl; clear hl
  have g1 : ¬ (wd : Int) < 1 := by omega
  have g2 : ¬ (hg : Int) < 1 := by omega
  have g3 : ¬ (x : Int) < 0 := by omega
  have g4 : ¬ (y : Int) < 0 := by omega
  have g5 : ¬ (W : Int) < wd := by omega
  have g6 : ¬ (H : Int) < hg := by omega
  have g7 : ¬ (W : Int) - wd < x := by omega
  have g8 : ¬ (H : Int) - hg < y := by omega
  go_enter Try.func100, Try.ntmps100
  go_wp2_with fail
  have hb0 : Blk (w.alloc (.cells #[.int .i64 wd, .int .i64 hg, .slice none 0 0] 122)) w.heap.size 122 #[.int .i64 wd, .int .i64 hg, .slice none 0 0] := Blk.new w _ _
  have w0 : Below w.heap.size w (w.alloc (.cells #[.int .i64 wd, .int .i64 hg, .slice none 0 0] 122)) := (Below.refl _ _).alloc (Nat.le_refl _) _
  clear g1 g2 g3 g4 g5 g6 g7 g8
  go_loopw [13] (fun i wr => ∃ j n : Nat, j ≤ hg ∧ j * wd = n ∧ i = .int .i64 j ∧ CutJ w wr wd hg w.heap.size n ((gridL wd (cutF zs W x y) n).map (.int .i64))) (fun i _ => hg - (intOf i).toNat)
  case atStart => exact ⟨0, 0, Nat.zero_le _, Nat.zero_mul _, rfl, .slice none 0 0, hb0, World.ownsRow_nil _ _ _ _, w0, by simp [Value.ownBlock], Nat.le_refl _⟩
  case round =>
    obtain ⟨j, n, hj, hn, rfl, hI⟩ := hrel
    have HNN := Lib.hid hn; clear hn
    by_cases hlt : j < hg
    · go_wp2_with fail
      go_loopw [14] (fun t wr => ∃ i m : Nat, i ≤ wd ∧ n + i = m ∧ t = .int .i64 i ∧ CutJ w wr wd hg w.heap.size m ((gridL wd (cutF zs W x y) m).map (.int .i64))) (fun t _ => wd - (intOf t).toNat)
      case atStart => exact ⟨0, n, Nat.zero_le _, rfl, rfl, hI⟩
      case round =>
        obtain ⟨i, m, hi', hm, rfl, hI⟩ := hrel
        by_cases hil : i < wd
        · have hmN : m < N := by
            have h1 : (j + 1) * wd ≤ hg * wd := Nat.mul_le_mul_right wd hlt
            rw [Nat.add_mul, Nat.one_mul, HNN.out, Nat.mul_comm hg wd, HN.out] at h1
            omega
          have hnx := gridL_next (cutF zs W x y) hil (show j * wd + i = m by rw [HNN.out, hm])
          have hat : atZ zs W H ((x : Int) + (i : Int)) ((y : Int) + (j : Int)) = cutF zs W x y i j := by
            unfold atZ inB cutF
            rw [if_pos (by simp; omega), show ((y : Int) + (j : Int)).toNat = y + j by omega, show ((x : Int) + (i : Int)).toNat = x + i by omega]
          have hin : inB ((x : Int) + (i : Int)) ((y : Int) + (j : Int)) W H = true := by unfold inB; simp; omega
          obtain ⟨v, hv⟩ : ∃ v, cutF zs W x y i j = v := ⟨_, rfl⟩
          rw [hv] at hnx hat
          clear hv
          have HNX := Lib.hid hnx; clear hnx
          have HAT := Lib.hid hat; clear hat
          have HIN := Lib.hid hin; clear hin
          obtain ⟨sv, p1, p2, p3, p4, p5⟩ := hI
          have d2 : wr.cell? ⟨w.heap.size, 2, none⟩ = some sv := by rw [p1.cell]; rfl
          have f2 : wr.frozen? ⟨w.heap.size, 2, none⟩ = false := p1.frozen 2
          have y1 : IntKind.i64.wrap ((x : Int) + (i : Int)) = (x : Int) + (i : Int) := IntWalk.i64_in _ (by omega)
          have y2 : IntKind.i64.wrap ((y : Int) + (j : Int)) = (y : Int) + (j : Int) := IntWalk.i64_in _ (by omega)
          go_wp2_with fail
          refine (at_any b g W H c zs ((x : Int) + (i : Int)) ((y : Int) + (j : Int)) _ (hp.below p3)).mono ?_
          rintro e w' ⟨rfl, k, rfl⟩
          rw [HAT.out, HIN.out]
          go_wp2_with (at_builtin; refine wpList_append_lies _ rfl (.tmp 96) (.tmp 98) 50 rfl w.heap.size 3 i0 (.int .i64 0) 1 8 Try.underlying50 hi hz0 hz1 hz2 rfl (by decide) sv m _ rfl (show World.ownsRow _ _ _ _ _ _ _ from p2.alloc (.cells #[.int .i64 v] 3)) ⟨wr.heap.size, 0, none⟩ 1 1 [.int .i64 v] rfl rfl (show ∀ i u, _ → World.cell? _ _ = _ from cell_one_new (wr.drewN k) _ _) (by intro u hu; simp at hu; subst hu; rfl) (by decide) (by unfold maxLen; omega) (by omega) (show w.heap.size ≤ (wr.alloc (.cells #[.int .i64 v] 3)).heap.size by simp; have := p3.size; omega) (wr.heap.size + 1) (show (wr.alloc (.cells #[.int .i64 v] 3)).heap.size = _ by simp) ?_; intro gg cap w1 hown1 hgrow hat hlt1; have hgrow' : ((wr.drewN k).alloc (.cells #[.int .i64 v] 3)).grownBy w1 sv.ownBlock := ⟨hgrow.os, hgrow.tape, hgrow.output, hgrow.size, hgrow.block⟩; have b1 := ((p1.drewN k).alloc (.cells #[.int .i64 v] 3)).grown hgrow' (fun h => p4 h.symm); have r2 : w1.cell? ⟨w.heap.size, 2, none⟩ = some sv := (by rw [b1.cell]; rfl); have r3 : w1.frozen? ⟨w.heap.size, 2, none⟩ = false := b1.frozen 2)
          have hst := CutJ.step (p1.drewN k) (show World.ownsRow (wr.drewN k) _ _ _ _ _ _ from p2) (below_drewN p3 k) p4 (Nat.le_refl _) (show w1.ownsRow w.heap.size 3 1 (.slice (some ⟨gg, 0, none⟩) (m + 1) cap) (m + 1) ((gridL wd (cutF zs W x y) (m + 1)).map (.int .i64)) from by rw [HNX.out, List.map_append]; exact hown1) hgrow' hat
          go_roundw
          case rel => exact ⟨i + 1, m + 1, by omega, by omega, by go_num, hst⟩
          case measure => simp [intOf]; omega
        · go_wp2_with fail
          go_roundw
          case rel => exact ⟨j + 1, m, by omega, by rw [Nat.add_mul, Nat.one_mul, HNN.out]; omega, by go_num, hI⟩
          case measure => simp [intOf]; omega
    · have hjh : j = hg := by omega
      clear hj hlt
      subst hjh
      have hnN : n = N := by have := HN.out; have := HNN.out; rw [Nat.mul_comm] at this; omega
      subst hnN
      obtain ⟨sv, p1, p2, p3, p4, p5⟩ := hI
      obtain ⟨g1, cap, rfl, hg0, hg1⟩ := p2.form hN1
      obtain ⟨curg, hgb, hgs, hgt, hgn, hgc, hgm⟩ := row_of_owns p2
      go_wp2_with fail
      go_ret2
      have fit : fitsB wd j = true := by
        rw [fitsB_iff, ← Int.natCast_mul, HN.out]
        omega
      have := plane_mk (W := wd) (H := j) (c := cap) (by rw [HN.out]; exact p1) hgb hgs (fun h => p4 (by simp [Value.ownBlock, h])) fit (by rw [HN.out]; exact hgc) hgm
      rw [HN.out, hgt] at this
      refine ⟨w.heap.size, g1, cap, rfl, ?_, Nat.le_refl _, hg0, p3⟩
      rw [HNN.out]
      exact this
end Go.Proofs.Ytlbocfinjlkebaa.R12
