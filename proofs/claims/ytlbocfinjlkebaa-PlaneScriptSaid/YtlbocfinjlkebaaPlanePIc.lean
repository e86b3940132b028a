/- Cut at samples of type int: a piece of a plane, as a new plane. -/
import Derived.Test.YtlbocfinjlkebaaPlanePIw
import Derived.Test.YtlbocfinjlkebaaLex
namespace Go.Proofs.Ytlbocfinjlkebaa.PI
open Go.RowKit

/-- the rows of a piece -/
def rowsL (W x y wd : Nat) (xs : List Value) : Nat → List Value
  | 0 => []
  | k + 1 => rowsL W x y wd xs k ++ (xs.drop ((y + k) * W + x)).take wd
theorem rowsL_length {W x y wd : Nat} {xs : List Value} : ∀ k, (∀ j, j < k → (y + j) * W + x + wd ≤ xs.length) → (rowsL W x y wd xs k).length = k * wd
  | 0, _ => by simp [rowsL]
  | k + 1, h => by
    rw [rowsL, List.length_append, rowsL_length k (fun j hj => h j (by omega)), List.length_take, List.length_drop]
    have h1 := h k (by omega)
    have e : (k + 1) * wd = k * wd + wd := by rw [Nat.add_mul, Nat.one_mul]
    rw [e, Nat.min_eq_left (by omega)]

set_option maxRecDepth 100000 in
set_option maxHeartbeats 4000000 in
theorem cut_no (b g W H c : Nat) (xs : List Value) (x y wd hg : Int) (w : World) (hp : PA w b g W H c xs) (hn : x < 0 ∨ y < 0 ∨ wd < 1 ∨ hg < 1 ∨ (W : Int) < wd ∨ (H : Int) < hg ∨ (W : Int) - wd < x ∨ (H : Int) - hg < y) :
    Calls Try.prog 30 #[.pointer (some ⟨b, 0, none⟩), .int .i64 x, .int .i64 y, .int .i64 wd, .int .i64 hg] w fun e w' => e = .returned (.tuple #[.pointer none, .int .i64 3]) ∧ w = w' := by
  have c0 := hp.c0
  have c1 := hp.c1
  have hs := hp.side
  by_cases h1 : x < 0
  · go_enter Try.func30, Try.ntmps30
    go_wp2
    go_ret2
    exact ⟨rfl, rfl⟩
  by_cases h2 : y < 0
  · go_enter Try.func30, Try.ntmps30
    go_wp2
    go_ret2
    exact ⟨rfl, rfl⟩
  by_cases h3 : wd < 1
  · go_enter Try.func30, Try.ntmps30
    go_wp2
    go_ret2
    exact ⟨rfl, rfl⟩
  by_cases h4 : hg < 1
  · go_enter Try.func30, Try.ntmps30
    go_wp2
    go_ret2
    exact ⟨rfl, rfl⟩
  by_cases h5 : (W : Int) < wd
  · go_enter Try.func30, Try.ntmps30
    go_wp2
    go_ret2
    exact ⟨rfl, rfl⟩
  by_cases h6 : (H : Int) < hg
  · go_enter Try.func30, Try.ntmps30
    go_wp2
    go_ret2
    exact ⟨rfl, rfl⟩
  by_cases h7 : (W : Int) - wd < x
  · go_enter Try.func30, Try.ntmps30
    go_wp2
    go_ret2
    exact ⟨rfl, rfl⟩
  have h8 : (H : Int) - hg < y := by omega
  go_enter Try.func30, Try.ntmps30
  go_wp2
  go_ret2
  exact ⟨rfl, rfl⟩

/-- a piece in the making: k rows are there -/
def CutI (w wr : World) (wd hg p k : Nat) (ys : List Value) : Prop :=
  ∃ g' c', Blk wr p 135 #[.int .i64 wd, .int .i64 hg, .slice (some ⟨g', 0, none⟩) (k * wd) c'] ∧ wr.ownsRow w.heap.size 3 1 (.slice (some ⟨g', 0, none⟩) (k * wd) c') (k * wd) ys ∧ Below w.heap.size w wr ∧ g' ≠ p

theorem CutI.step {w wr w1 : World} {wd hg p k n g' c' gg cap : Nat} {ys : List Value} (q1 : Blk wr p 135 #[.int .i64 wd, .int .i64 hg, .slice (some ⟨g', 0, none⟩) n c'])
    (q3 : Below w.heap.size w wr) (q4 : g' ≠ p) (hw : w.heap.size ≤ p) (hw' : w.heap.size ≤ g') (hown : w1.ownsRow w.heap.size 3 1 (.slice (some ⟨gg, 0, none⟩) (n + wd) cap) (n + wd) ys) (hgrow : wr.grownBy w1 (some g'))
    (hat : g' = gg ∨ gg = wr.heap.size) (hn : (k + 1) * wd = n + wd) (a b : Nat) :
    CutI w (((w1.drewN a).setCell ⟨p, 2, none⟩ (.slice (some ⟨gg, 0, none⟩) (n + wd) cap)).drewN b) wd hg p (k + 1) ys := by
  have b1 := q1.grown hgrow (by simp; omega)
  have hp := q1.lt
  have hne : gg ≠ p := by rcases hat with rfl | rfl <;> omega
  refine ⟨gg, cap, ?_, ?_, ?_, hne⟩
  · rw [hn]
    exact (b1.drewN a).set 2 _
  · rw [hn]
    exact World.ownsRow.kept (w := w1) hown (grown_drewN (grown_set (grown_drewN (World.grownBy.refl w1 (some p)) a) 2 _) b) (.inr (by simp [Value.ownBlock]; exact hne))
  · have h1 : Below w.heap.size w w1 := q3.grown hgrow q3.size (by intro k hk; injection hk with hk; omega)
    exact below_drewN ((below_drewN h1 a).setCell (by exact hw) _) b

set_option maxRecDepth 100000 in
set_option maxHeartbeats 4000000 in
theorem cut_yes (b g W H c : Nat) (xs : List Value) (x y wd hg : Nat) (w : World) (hp : PA w b g W H c xs) (h1x : ∀ u ∈ xs, u.oneCell' = true) (h1 : 1 ≤ wd) (h2 : 1 ≤ hg) (h3 : x + wd ≤ W) (h4 : y + hg ≤ H) :
    Calls Try.prog 30 #[.pointer (some ⟨b, 0, none⟩), .int .i64 x, .int .i64 y, .int .i64 wd, .int .i64 hg] w (MadeP w wd hg (rowsL W x y wd xs hg)) := by
  obtain ⟨i0, hi, hz0, hz1, hz2⟩ := info_parts info
  have c0 := hp.c0
  have c1 := hp.c1
  have c2 := hp.c2
  have hs := hp.side
  have hsz := hp.size
  have hlen := hp.len
  have m1 : wd * hg ≤ W * H := Nat.mul_le_mul (by omega) (by omega)
  obtain ⟨N, hN⟩ : ∃ N, wd * hg = N := ⟨_, rfl⟩
  have hNi : (wd : Int) * (hg : Int) = (N : Int) := by rw [← hN, Int.natCast_mul]
  rw [hN] at m1
  have HN := Lib.hid hN; clear hN
  have hmk : ∀ u : World, (Instr.makeSlice 50 (.int .i64 0) (.int .i64 (N : Int))).run Try.prog u = .ok (.slice (some ⟨u.heap.size, 0, none⟩) 0 N) (u.alloc (.cells (madeCells (Value.cells (.int .i64 0)) N) 3)) := fun u => by
    have hr := run_make (P := Try.prog) u 50 3 i0 (.int .i64 0) Try.underlying50 hi hz0 .i64 .i64 0 N (by omega) (by omega) (by rw [hz2]; omega) (by omega)
    simpa [hz1] using hr
  have hyh : (y : Int) + (hg : Int) ≤ 67108864 := by omega
  have HL := Lib.hid hlen; clear hlen
  go_enter Try.func30, Try.ntmps30
  go_upto_region 4 with fail
  go_cut [12, 13] from 14 (fun s12 s13 wc => s12 = .pointer (some ⟨w.heap.size + 1, 0, none⟩) ∧ s13 = .int .i64 y ∧ CutI w wc wd hg (w.heap.size + 1) 0 [])
  case first =>
    go_wp2
    go_meet
    have hz : (madeCells (Value.cells (.int .i64 0)) N).size = N := size_madeCells _ _
    refine ⟨rfl, rfl, w.heap.size, N, ?_, ?_, ((Below.refl _ _).alloc (Nat.le_refl _) _).alloc (by simp) _, by omega⟩
    · rw [Nat.zero_mul]
      exact (show (w.alloc (.cells (madeCells (Value.cells (.int .i64 0)) N) 3)).heap.size = w.heap.size + 1 by simp) ▸ Blk.new (w.alloc (.cells (madeCells (Value.cells (.int .i64 0)) N) 3)) _ _
    · rw [Nat.zero_mul]
      exact (World.ownsRow_made w (madeCells (Value.cells (.int .i64 0)) N) N (Nat.le_refl _) (by unfold maxLen; omega) (by rw [hz, Nat.mul_one])).alloc _
  case rest =>
    obtain ⟨rfl, rfl, hI⟩ := hcut
    go_wp2
    go_loopw [13] (fun i wr => ∃ j k : Nat, k ≤ hg ∧ j = y + k ∧ i = .int .i64 j ∧ CutI w wr wd hg (w.heap.size + 1) k (rowsL W x y wd xs k)) (fun i _ => y + hg - (intOf i).toNat)
    case atStart => exact ⟨y, 0, by omega, rfl, rfl, hI⟩
    case round =>
      obtain ⟨j, k, hk, hj, rfl, hI⟩ := hrel
      obtain ⟨g', c', q1, q2, q3, q4⟩ := hI
      have HJ := Lib.hid hj
      have hp' := hp.below q3
      have c0 := hp'.c0
      have c2 := hp'.c2
      by_cases hlt : k < hg
      · have hjl : j < y + hg := by omega
        have hjh : j + 1 ≤ H := by omega
        clear hj
        obtain ⟨m, hm⟩ : ∃ m, j * W = m := ⟨_, rfl⟩
        have hm2 : (j + 1) * W ≤ H * W := Nat.mul_le_mul_right W hjh
        rw [Nat.add_mul, Nat.one_mul, hm, Nat.mul_comm H W] at hm2
        have hmi : (j : Int) * (W : Int) = (m : Int) := by rw [← hm, Int.natCast_mul]
        have HM := Lib.hid hm; clear hm
        have hcap := hp.cap
        have hlenx : xs.length = W * H := HL.out
        obtain ⟨NN, hNN⟩ : ∃ NN, W * H = NN := ⟨_, rfl⟩
        rw [hNN] at hm2 hcap c2 hlenx hsz m1
        have HNN := Lib.hid hNN; clear hNN
        have d2 : wr.cell? ⟨w.heap.size + 1, 2, none⟩ = some (.slice (some ⟨g', 0, none⟩) (k * wd) c') := by rw [q1.cell]; rfl
        have f2 : wr.frozen? ⟨w.heap.size + 1, 2, none⟩ = false := q1.frozen 2
        obtain ⟨n, hn⟩ : ∃ n, k * wd = n := ⟨_, rfl⟩
        rw [hn] at d2 q2 q1
        have HN2 := Lib.hid hn; clear hn
        have w4 : IntKind.i64.wrap (m : Int) = (m : Int) := IntWalk.i64_in _ (by omega)
        have w5 : IntKind.i64.wrap ((m : Int) + (x : Int)) = (m : Int) + (x : Int) := IntWalk.i64_in _ (by omega)
        have w6 : IntKind.i64.wrap ((m : Int) + (x : Int) + (wd : Int)) = (m : Int) + (x : Int) + (wd : Int) := IntWalk.i64_in _ (by omega)
        have w7 : (0 : Int) ≤ (m : Int) + (x : Int) := by omega
        have w8 : ((m : Int) + (x : Int)).toNat = m + x := by omega
        have w9 : ((m : Int) + (x : Int) + (wd : Int)).toNat = m + x + wd := by omega
        have w10 : (m : Int) + (x : Int) + (wd : Int) ≤ (c : Int) := by omega
        have w11 : (m : Int) + (x : Int) ≤ (m : Int) + (x : Int) + (wd : Int) := by omega
        go_wp2
        have hsrc : ∀ i u, ((xs.drop (m + x)).take wd)[i]? = some u → wr.cell? ((⟨g, m + x, none⟩ : Addr).add i) = some u := by
          intro i u hu
          have e : (⟨g, m + x, none⟩ : Addr).add i = ⟨g, m + x + i, none⟩ := by unfold Addr.add; split <;> simp_all
          rw [List.getElem?_take] at hu
          split at hu
          · rw [List.getElem?_drop] at hu
            have hix : m + x + i < W * H := by rw [HNN.out]; omega
            rw [e, hp'.cellAt hix, List.getD_eq_getElem?_getD, hu]; rfl
          · cases hu
        have hsl : ((xs.drop (m + x)).take wd).length = wd * 1 := by rw [List.length_take, List.length_drop]; omega
        have hone : ∀ u ∈ (xs.drop (m + x)).take wd, u.oneCell' = true := fun u hu => h1x u (List.mem_of_mem_drop (List.mem_of_mem_take hu))
        have hcx : ¬ c = m + x := by omega
        have hnw : n + wd ≤ 67108864 := by
          have : (k + 1) * wd ≤ hg * wd := Nat.mul_le_mul_right wd (by omega)
          rw [Nat.add_mul, Nat.one_mul, HN2.out, Nat.mul_comm hg wd, HN.out] at this
          omega
        refine Lex.wp_region_lex [] (by kernel_rfl) (by kernel_rfl) ?_
        repeat (first | (refine Lex.run_free (v := ?_) (by rfl) (by rfl) (fun u => ?_) ?_; rotate_left; (go_simp; try with_reducible rfl); simp only [Act.put, List.setIfInBounds_toArray, List.set_cons_zero, List.set_cons_succ]) | (refine Lex.run_load (v := ?_) (by rfl) (by rfl) (fun n => ?_) ?_; rotate_left; (go_simp; try with_reducible rfl); simp only [Act.put, List.setIfInBounds_toArray, List.set_cons_zero, List.set_cons_succ]))
        refine Lex.run_eff (by rfl) (by rfl) (fun n' K' hK => ?_)
        refine wp_append_lies _ (.tmp 84) (.tmp 107) 50 rfl w.heap.size 3 i0 (.int .i64 0) 1 8 Try.underlying50 hi hz0 hz1 hz2 rfl (by omega) (.slice (some ⟨g', 0, none⟩) n c') n _ (by rfl) (show World.ownsRow _ _ _ _ _ _ _ from q2) ⟨g, m + x, none⟩ wd _ _ (by rfl) hsl (show ∀ i u, _ → World.cell? _ _ = _ from hsrc) hone (by omega) (by unfold maxLen; omega) (by omega) (show w.heap.size ≤ wr.heap.size from q3.size) wr.heap.size rfl ?_
        intro gg cap w1 hown1 hgrow hat hlt1
        refine hK _ _ ?_
        clear hK K'
        have hgrow' : wr.grownBy w1 (some g') := ⟨hgrow.os, hgrow.tape, hgrow.output, hgrow.size, hgrow.block⟩
        have b1 := q1.grown hgrow' (by simp; omega)
        have y2 : w1.cell? ⟨w.heap.size + 1, 2, none⟩ = some (.slice (some ⟨g', 0, none⟩) n c') := by rw [b1.cell]; rfl
        have y3 : w1.frozen? ⟨w.heap.size + 1, 2, none⟩ = false := b1.frozen 2
        simp only [Act.put, List.setIfInBounds_toArray, List.set_cons_zero, List.set_cons_succ]
        repeat (first | (refine Lex.run_free (v := ?_) (by rfl) (by rfl) (fun u => ?_) ?_; rotate_left; (go_simp; try with_reducible rfl); simp only [Act.put, List.setIfInBounds_toArray, List.set_cons_zero, List.set_cons_succ]) | (refine Lex.run_load (v := ?_) (by rfl) (by rfl) (fun n => ?_) ?_; rotate_left; (go_simp; try with_reducible rfl); simp only [Act.put, List.setIfInBounds_toArray, List.set_cons_zero, List.set_cons_succ]))
        refine Lex.run_eff (by rfl) (by rfl) (fun n'' K' hK => ?_)
        go_simp
        refine hK _ _ ?_
        clear hK K'
        try simp only [Act.put, List.setIfInBounds_toArray, List.set_cons_zero, List.set_cons_succ]
        refine Lex.run_nil (fun n3 => ?_)
        have hst : CutI w (((w1.drewN n'').setCell ⟨w.heap.size + 1, 2, none⟩ (.slice (some ⟨gg, 0, none⟩) (n + wd) cap)).drewN n3) wd hg (w.heap.size + 1) (k + 1) (rowsL W x y wd xs (k + 1)) := by
          have hg' : w.heap.size ≤ g' := (q2.lt g' rfl).1
          refine CutI.step q1 q3 q4 (by omega) hg' ?_ hgrow' ?_ (by rw [Nat.add_mul, Nat.one_mul, HN2.out]) _ _
          · rw [rowsL, ← HJ.out, HM.out]
            exact hown1
          · simpa [Value.ownBlock] using hat
        go_wp2
        go_roundw
        case rel => exact ⟨j + 1, k + 1, by omega, by rw [HJ.out]; omega, by go_num, hst⟩
        case measure => simp [intOf]; omega
      · have hkk : k = hg := by omega
        subst hkk
        have hjl : ¬ (j : Int) < (y : Int) + (k : Int) := by omega
        clear hj
        go_wp2
        go_ret2
        obtain ⟨cur, r1, r2, r3, r4, r5, r6⟩ := row_of_owns q2
        have hkw : k * wd = wd * k := Nat.mul_comm _ _
        have hf : fitsB wd k = true := by
          rw [fitsB_iff]
          refine ⟨by omega, by omega, ?_⟩
          have := HN.out
          have h5 : wd * k ≤ 67108864 := by omega
          have h6 : ((wd * k : Nat) : Int) ≤ 67108864 := by omega
          rwa [Int.natCast_mul] at h6
        refine ⟨_, g', c', rfl, ?_, by omega, r4, q3⟩
        rw [← r3, hkw]
        exact plane_mk (by rw [← hkw]; exact q1) r1 r2 (Ne.symm q4) hf (by rw [← hkw]; exact r5) r6
end Go.Proofs.Ytlbocfinjlkebaa.PI
