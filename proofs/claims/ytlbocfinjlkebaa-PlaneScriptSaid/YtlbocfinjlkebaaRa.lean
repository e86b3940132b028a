/- The document's planes of ints: fits, New, At, Set, Near, Pix. -/
import Derived.Test.YtlbocfinjlkebaaBytW
import Derived.Test.YtlbocfinjlkebaaLex3
namespace Go.Proofs.Ytlbocfinjlkebaa.R12
open Go.RowKit Go.Proofs.Ytlbocfinjlkebaa.Byt

/-- a plane of the document: the like of the program's -/
abbrev RA (w : World) (b g W H c : Nat) (zs : List Int) : Prop := PlaneAt 122 3 w b g W H c (zs.map (.int .i64))
theorem RA.cellZ {w : World} {b g W H c : Nat} {zs : List Int} (h : RA w b g W H c zs) {j : Nat} (hj : j < W * H) : w.cell? ⟨g, j, none⟩ = some (.int .i64 (zs.getD j 0)) := by
  have hl : zs.length = W * H := by simpa using h.len
  rw [h.cellAt hj, List.getD_eq_getElem?_getD, List.getElem?_map, List.getElem?_eq_getElem (by omega), List.getD_eq_getElem?_getD, List.getElem?_eq_getElem (by omega)]
  rfl

set_option maxHeartbeats 2000000 in
theorem fits_any (W H : Int) (w : World) : Calls Try.prog 118 #[.int .i64 W, .int .i64 H] w fun e w' => e = .returned (.bool (fitsB W H)) ∧ w = w' := by
  have hf := fitsB_iff W H
  by_cases h1 : W < 1
  · have e : fitsB W H = false := by cases h : fitsB W H; rfl; exact absurd (hf.1 h).1 (by omega)
    rw [e]
    have n1 : ¬ 1 ≤ W := by omega
    go_enter Try.func118, Try.ntmps118
    go_wp2_with fail
    go_ret
    exact ⟨rfl, rfl⟩
  by_cases h2 : H < 1
  · have e : fitsB W H = false := by cases h : fitsB W H; rfl; exact absurd (hf.1 h).2.1 (by omega)
    rw [e]
    have n1 : 1 ≤ W := by omega
    have n2 : ¬ 1 ≤ H := by omega
    go_enter Try.func118, Try.ntmps118
    go_wp2_with fail
    go_ret
    exact ⟨rfl, rfl⟩
  have n1 : 1 ≤ W := by omega
  have n2 : 1 ≤ H := by omega
  by_cases h3 : 67108864 < W
  · have e : fitsB W H = false := by
      cases h : fitsB W H
      · rfl
      · have := (hf.1 h).2.2
        have : W * 1 ≤ W * H := Int.mul_le_mul_of_nonneg_left n2 (by omega)
        omega
    rw [e]
    have n3 : ¬ W ≤ 67108864 := by omega
    go_enter Try.func118, Try.ntmps118
    go_wp2_with fail
    go_ret
    exact ⟨rfl, rfl⟩
  by_cases h4 : 67108864 < H
  · have e : fitsB W H = false := by
      cases h : fitsB W H
      · rfl
      · have := (hf.1 h).2.2
        have : 1 * H ≤ W * H := Int.mul_le_mul_of_nonneg_right n1 (by omega)
        omega
    rw [e]
    have n3 : W ≤ 67108864 := by omega
    have n4 : ¬ H ≤ 67108864 := by omega
    go_enter Try.func118, Try.ntmps118
    go_wp2_with fail
    go_ret
    exact ⟨rfl, rfl⟩
  have n3 : W ≤ 67108864 := by omega
  have n4 : H ≤ 67108864 := by omega
  obtain ⟨m, hm⟩ : ∃ m, W * H = m := ⟨_, rfl⟩
  have hb : 0 ≤ m ∧ m ≤ 67108864 * 67108864 := by rw [← hm]; exact ⟨Int.mul_nonneg (by omega) (by omega), Int.mul_le_mul n3 n4 (by omega) (by omega)⟩
  have wm : IntKind.i64.wrap m = m := IntWalk.i64_in _ (by omega)
  by_cases h5 : m ≤ 67108864
  · have e : fitsB W H = true := hf.2 ⟨n1, n2, by omega⟩
    rw [e]
    clear hf e
    go_enter Try.func118, Try.ntmps118
    go_wp2_with fail
    go_ret
    exact ⟨rfl, rfl⟩
  · have e : fitsB W H = false := by
      cases h : fitsB W H
      · rfl
      · have := (hf.1 h).2.2
        omega
    rw [e]
    clear hf e
    go_enter Try.func118, Try.ntmps118
    go_wp2_with fail
    go_ret
    exact ⟨rfl, rfl⟩

/-- a plane that the document makes -/
def MadeR (w0 : World) (W H : Nat) (zs : List Int) (e : Ending) (w : World) : Prop :=
  ∃ p g c, e = .returned (.tuple #[.pointer (some ⟨p, 0, none⟩), .int .i64 0]) ∧ RA w p g W H c zs ∧ w0.heap.size ≤ p ∧ w0.heap.size ≤ g ∧ Below w0.heap.size w0 w
set_option maxHeartbeats 2000000 in
theorem new_no (W H : Int) (w : World) (hf : fitsB W H = false) : Calls Try.prog 108 #[.int .i64 W, .int .i64 H] w fun e w' => e = .returned (.tuple #[.pointer none, .int .i64 120]) ∧ w = w' := by
  have HF := Lib.hid hf; clear hf
  go_enter Try.func108, Try.ntmps108
  go_wp2_with fail
  refine (fits_any W H w).mono ?_
  rintro e w' ⟨rfl, rfl⟩
  rw [HF.out]
  go_wp2_with fail
  go_ret2
  exact ⟨rfl, rfl⟩
set_option maxHeartbeats 2000000 in
theorem new_yes (W H : Nat) (w : World) (hf : fitsB W H = true) : Calls Try.prog 108 #[.int .i64 W, .int .i64 H] w (MadeR w W H (List.replicate (W * H) 0)) := by
  obtain ⟨i0, hi, hz0, hz1, hz2⟩ := info_parts PI.info
  obtain ⟨h1, h2, h3⟩ := (fitsB_iff _ _).1 hf
  have h3' : W * H ≤ 67108864 := by
    have : ((W * H : Nat) : Int) ≤ 67108864 := by rw [Int.natCast_mul]; exact h3
    omega
  obtain ⟨N, hN⟩ : ∃ N, W * H = N := ⟨_, rfl⟩
  have hNi : (W : Int) * (H : Int) = (N : Int) := by rw [← hN, Int.natCast_mul]
  have wN : IntKind.i64.wrap (N : Int) = (N : Int) := IntWalk.i64_in _ (by omega)
  have hmk : ∀ u : World, (Instr.makeSlice 50 (.int .i64 (N : Int)) (.int .i64 (N : Int))).run Try.prog u = .ok (.slice (some ⟨u.heap.size, 0, none⟩) N N) (u.alloc (.cells (madeCells (Value.cells (.int .i64 0)) N) 3)) := fun u => run_make_n 50 3 i0 (.int .i64 0) Try.underlying50 hi hz0 hz1 N (by rw [hz2]; omega) (by omega) u
  have hq : madeCells (Value.cells (.int .i64 0)) N = ((List.replicate N (0 : Int)).map (.int .i64)).toArray := by
    have := made_filled (k := .i64) [] id N
    simpa [filledZ, Value.cells] using this
  have HQ := Lib.hid hq; clear hq
  have HF := Lib.hid hf
  have HN := Lib.hid hN
  clear h3 h3' hN
  go_enter Try.func108, Try.ntmps108
  go_wp2_with fail
  refine (fits_any W H w).mono ?_
  rintro e w' ⟨rfl, rfl⟩
  rw [HF.out]
  go_wp2_with fail
  go_ret2
  have q1 : Blk ((w.alloc (.cells (madeCells (Value.cells (.int .i64 0)) N) 3)).alloc (.cells #[.int .i64 W, .int .i64 H, .slice (some ⟨w.heap.size, 0, none⟩) N N] 122)) (w.heap.size + 1) 122 #[.int .i64 W, .int .i64 H, .slice (some ⟨w.heap.size, 0, none⟩) N N] := heap_alloc2_new w _ _
  have q2 : Blk ((w.alloc (.cells (madeCells (Value.cells (.int .i64 0)) N) 3)).alloc (.cells #[.int .i64 W, .int .i64 H, .slice (some ⟨w.heap.size, 0, none⟩) N N] 122)) w.heap.size 3 (madeCells (Value.cells (.int .i64 0)) N) := heap_alloc2_old w _ _
  rw [HQ.out] at q1 q2
  have hbnd := (fitsB_iff _ _).1 HF.out
  have hNl : N ≤ 67108864 := by
    have : ((W * H : Nat) : Int) ≤ 67108864 := by rw [Int.natCast_mul]; exact hbnd.2.2
    rw [HN.out] at this
    omega
  have := plane_mk (W := W) (H := H) (c := N) (by rw [HN.out]; exact q1) q2 (by simp) (by omega) HF.out (by rw [HN.out]; exact Nat.le_refl _) (by unfold maxLen; omega)
  rw [HN.out, List.take_of_length_le (by simp)] at this
  dsimp only at this
  rw [HN.out]
  rw [← HQ.out] at this
  refine ⟨w.heap.size + 1, w.heap.size, N, rfl, ?_, by omega, Nat.le_refl _, ((Below.refl _ _).alloc (Nat.le_refl _) _).alloc (by simp) _⟩
  exact this

set_option maxHeartbeats 2000000 in
theorem at_out (b g W H c : Nat) (zs : List Int) (x y : Int) (w : World) (hp : RA w b g W H c zs) (hb : inB x y W H = false) :
    Calls Try.prog 111 #[.pointer (some ⟨b, 0, none⟩), .int .i64 x, .int .i64 y] w fun e w' => e = .returned (.tuple #[.int .i64 0, .bool false]) ∧ w = w' := by
  have c0 := hp.c0
  have c1 := hp.c1
  have hs := hp.side
  unfold inB at hb
  simp only [decide_eq_false_iff_not] at hb
  by_cases h1 : x < 0
  · go_enter Try.func111, Try.ntmps111
    go_wp2_with fail
    go_ret2
    exact ⟨rfl, rfl⟩
  by_cases h2 : (W : Int) ≤ x
  · go_enter Try.func111, Try.ntmps111
    go_wp2_with fail
    go_ret2
    exact ⟨rfl, rfl⟩
  by_cases h3 : y < 0
  · go_enter Try.func111, Try.ntmps111
    go_wp2_with fail
    go_ret2
    exact ⟨rfl, rfl⟩
  have h4 : (H : Int) ≤ y := by omega
  go_enter Try.func111, Try.ntmps111
  go_wp2_with fail
  go_ret2
  exact ⟨rfl, rfl⟩

set_option maxRecDepth 100000 in
set_option maxHeartbeats 4000000 in
theorem at_in (b g W H c : Nat) (zs : List Int) (x y : Nat) (w : World) (hp : RA w b g W H c zs) (hx : x < W) (hy : y < H) :
    Calls Try.prog 111 #[.pointer (some ⟨b, 0, none⟩), .int .i64 x, .int .i64 y] w fun e w' => e = .returned (.tuple #[.int .i64 (zs.getD (y * W + x) 0), .bool true]) ∧ ∃ k, w' = w.drewN k := by
  have c0 := hp.c0
  have c1 := hp.c1
  have c2 := hp.c2
  have hs := hp.side
  have hsz := hp.size
  obtain ⟨m, hm⟩ : ∃ m, W * y = m := ⟨_, rfl⟩
  have hmi : (W : Int) * (y : Int) = (m : Int) := by rw [← hm, Int.natCast_mul]
  have hidx : m + x < W * H := by
    have h1 : W * (y + 1) ≤ W * H := Nat.mul_le_mul_left W hy
    rw [Nat.mul_add, Nat.mul_one, hm] at h1
    omega
  have d3 := hp.cellZ hidx
  have f3 := hp.frozenAt (m + x)
  have em : zs.getD (m + x) 0 = zs.getD (y * W + x) 0 := by rw [← hm, Nat.mul_comm]
  rw [em] at d3
  obtain ⟨v, hv⟩ : ∃ v, zs.getD (y * W + x) 0 = v := ⟨_, rfl⟩
  rw [hv] at d3 ⊢
  clear hv em
  have HM := Lib.hid hm; clear hm
  obtain ⟨N, hN⟩ : ∃ N, W * H = N := ⟨_, rfl⟩
  rw [hN] at c2 hsz hidx
  have HN := Lib.hid hN; clear hN
  have i1 : (m : Int) + (x : Int) < (N : Int) := by omega
  have i2 : 0 ≤ (m : Int) + (x : Int) := by omega
  have i3 : ((m : Int) + (x : Int)).toNat = m + x := by omega
  have i4 : IntKind.i64.wrap ((m : Int) + (x : Int)) = (m : Int) + (x : Int) := IntWalk.i64_in _ (by omega)
  have i5 : IntKind.i64.wrap (m : Int) = (m : Int) := IntWalk.i64_in _ (by omega)
  have g1 : ¬ (x : Int) < 0 := by omega
  have g2 : ¬ (W : Int) ≤ x := by omega
  have g3 : ¬ (y : Int) < 0 := by omega
  have g4 : ¬ (H : Int) ≤ y := by omega
  go_enter Try.func111, Try.ntmps111
  go_upto_region 3 with fail
  refine Lex3.wp_region_lex [] (fun u' => u'.cell? ⟨b, 0, none⟩ = some (.int .i64 W) ∧ u'.cell? ⟨b, 2, none⟩ = some (.slice (some ⟨g, 0, none⟩) N c) ∧ u'.cell? ⟨g, m + x, none⟩ = some (.int .i64 v)) (fun u n h => h) ⟨c0, c2, d3⟩ (by kernel_rfl) (by kernel_rfl) ?_
  refine Lex3.run_free (v := ?_) (by rfl) (by rfl) (fun u => ?_) ?_; rotate_left; (go_simp; try with_reducible rfl); simp only [Act.put, List.setIfInBounds_toArray, List.set_cons_zero, List.set_cons_succ]
  refine Lex3.run_free (v := ?_) (by rfl) (by rfl) (fun u => ?_) ?_; rotate_left; (go_simp; try with_reducible rfl); simp only [Act.put, List.setIfInBounds_toArray, List.set_cons_zero, List.set_cons_succ]
  refine Lex3.run_free (v := ?_) (by rfl) (by rfl) (fun u => ?_) ?_; rotate_left; (go_simp; try with_reducible rfl); simp only [Act.put, List.setIfInBounds_toArray, List.set_cons_zero, List.set_cons_succ]
  refine Lex3.run_load (v := ?_) (by rfl) (by rfl) (fun u hu => ?_) ?_; rotate_left; (obtain ⟨hu0, hu1, hu2⟩ := hu; go_simp; try with_reducible rfl); simp only [Act.put, List.setIfInBounds_toArray, List.set_cons_zero, List.set_cons_succ]
  refine Lex3.run_free (v := ?_) (by rfl) (by rfl) (fun u => ?_) ?_; rotate_left; (go_simp; try with_reducible rfl); simp only [Act.put, List.setIfInBounds_toArray, List.set_cons_zero, List.set_cons_succ]
  refine Lex3.run_free (v := ?_) (by rfl) (by rfl) (fun u => ?_) ?_; rotate_left; (go_simp; try with_reducible rfl); simp only [Act.put, List.setIfInBounds_toArray, List.set_cons_zero, List.set_cons_succ]
  refine Lex3.run_free (v := ?_) (by rfl) (by rfl) (fun u => ?_) ?_; rotate_left; (go_simp; try with_reducible rfl); simp only [Act.put, List.setIfInBounds_toArray, List.set_cons_zero, List.set_cons_succ]
  refine Lex3.run_load (v := ?_) (by rfl) (by rfl) (fun u hu => ?_) ?_; rotate_left; (obtain ⟨hu0, hu1, hu2⟩ := hu; go_simp; try with_reducible rfl); simp only [Act.put, List.setIfInBounds_toArray, List.set_cons_zero, List.set_cons_succ]
  refine Lex3.run_free (v := ?_) (by rfl) (by rfl) (fun u => ?_) ?_; rotate_left; (go_simp; try with_reducible rfl); simp only [Act.put, List.setIfInBounds_toArray, List.set_cons_zero, List.set_cons_succ]
  refine Lex3.run_free (v := ?_) (by rfl) (by rfl) (fun u => ?_) ?_; rotate_left; (go_simp; try with_reducible rfl); simp only [Act.put, List.setIfInBounds_toArray, List.set_cons_zero, List.set_cons_succ]
  refine Lex3.run_free (v := ?_) (by rfl) (by rfl) (fun u => ?_) ?_; rotate_left; (go_simp; try with_reducible rfl); simp only [Act.put, List.setIfInBounds_toArray, List.set_cons_zero, List.set_cons_succ]
  refine Lex3.run_free (v := ?_) (by rfl) (by rfl) (fun u => ?_) ?_; rotate_left; (go_simp; try with_reducible rfl); simp only [Act.put, List.setIfInBounds_toArray, List.set_cons_zero, List.set_cons_succ]
  refine Lex3.run_free (v := ?_) (by rfl) (by rfl) (fun u => ?_) ?_; rotate_left; (go_simp; try with_reducible rfl); simp only [Act.put, List.setIfInBounds_toArray, List.set_cons_zero, List.set_cons_succ]
  refine Lex3.run_load (v := ?_) (by rfl) (by rfl) (fun u hu => ?_) ?_; rotate_left; (obtain ⟨hu0, hu1, hu2⟩ := hu; go_simp; try with_reducible rfl); simp only [Act.put, List.setIfInBounds_toArray, List.set_cons_zero, List.set_cons_succ]
  refine Lex3.run_free (v := ?_) (by rfl) (by rfl) (fun u => ?_) ?_; rotate_left; (go_simp; try with_reducible rfl); simp only [Act.put, List.setIfInBounds_toArray, List.set_cons_zero, List.set_cons_succ]
  refine Lex3.run_free (v := ?_) (by rfl) (by rfl) (fun u => ?_) ?_; rotate_left; (go_simp; try with_reducible rfl); simp only [Act.put, List.setIfInBounds_toArray, List.set_cons_zero, List.set_cons_succ]
  refine Lex3.run_nil (fun n3 => ?_)
  go_wp2_with fail
  go_ret2
  exact ⟨rfl, 1 + n3, by simp⟩

set_option maxRecDepth 100000 in
set_option maxHeartbeats 4000000 in
theorem set_in (b g W H c : Nat) (zs : List Int) (x y : Nat) (u : Int) (w : World) (hp : RA w b g W H c zs) (hx : x < W) (hy : y < H) :
    Calls Try.prog 99 #[.pointer (some ⟨b, 0, none⟩), .int .i64 x, .int .i64 y, .int .i64 u] w fun e w' => e = .returned (.bool true) ∧ RA w' b g W H c (zs.set (y * W + x) u) ∧ w.grownBy w' (some g) := by
  have c0 := hp.c0
  have c1 := hp.c1
  have c2 := hp.c2
  have hs := hp.side
  have hsz := hp.size
  obtain ⟨m, hm⟩ : ∃ m, W * y = m := ⟨_, rfl⟩
  have hmi : (W : Int) * (y : Int) = (m : Int) := by rw [← hm, Int.natCast_mul]
  have hidx : m + x < W * H := by
    have h1 : W * (y + 1) ≤ W * H := Nat.mul_le_mul_left W hy
    rw [Nat.mul_add, Nat.mul_one, hm] at h1
    omega
  have d3 := hp.cellZ hidx
  have f3 := hp.frozenAt (m + x)
  have em : zs.getD (m + x) 0 = zs.getD (y * W + x) 0 := by rw [← hm, Nat.mul_comm]
  rw [em] at d3
  obtain ⟨v, hv⟩ : ∃ v, zs.getD (y * W + x) 0 = v := ⟨_, rfl⟩
  rw [hv] at d3
  clear hv em
  have HM := Lib.hid hm; clear hm
  obtain ⟨N, hN⟩ : ∃ N, W * H = N := ⟨_, rfl⟩
  rw [hN] at c2 hsz hidx
  have HN := Lib.hid hN; clear hN
  have i1 : (m : Int) + (x : Int) < (N : Int) := by omega
  have i2 : 0 ≤ (m : Int) + (x : Int) := by omega
  have i3 : ((m : Int) + (x : Int)).toNat = m + x := by omega
  have i4 : IntKind.i64.wrap ((m : Int) + (x : Int)) = (m : Int) + (x : Int) := IntWalk.i64_in _ (by omega)
  have i5 : IntKind.i64.wrap (m : Int) = (m : Int) := IntWalk.i64_in _ (by omega)
  go_enter Try.func99, Try.ntmps99
  go_wp2_with fail
  refine (at_in b g W H c zs x y w hp hx hy).mono ?_
  rintro e w' ⟨rfl, n1, rfl⟩
  go_upto_region 3 with fail
  refine Lex3.wp_region_lex [] (fun u' => u'.cell? ⟨b, 0, none⟩ = some (.int .i64 W) ∧ u'.cell? ⟨b, 2, none⟩ = some (.slice (some ⟨g, 0, none⟩) N c) ∧ True) (fun u n h => h) ⟨c0, c2, trivial⟩ (by kernel_rfl) (by kernel_rfl) ?_
  refine Lex3.run_free (v := ?_) (by rfl) (by rfl) (fun u => ?_) ?_; rotate_left; (go_simp; try with_reducible rfl); simp only [Act.put, List.setIfInBounds_toArray, List.set_cons_zero, List.set_cons_succ]
  refine Lex3.run_free (v := ?_) (by rfl) (by rfl) (fun u => ?_) ?_; rotate_left; (go_simp; try with_reducible rfl); simp only [Act.put, List.setIfInBounds_toArray, List.set_cons_zero, List.set_cons_succ]
  refine Lex3.run_free (v := ?_) (by rfl) (by rfl) (fun u => ?_) ?_; rotate_left; (go_simp; try with_reducible rfl); simp only [Act.put, List.setIfInBounds_toArray, List.set_cons_zero, List.set_cons_succ]
  refine Lex3.run_load (v := ?_) (by rfl) (by rfl) (fun u hu => ?_) ?_; rotate_left; (obtain ⟨hu0, hu1, hu2⟩ := hu; go_simp; try with_reducible rfl); simp only [Act.put, List.setIfInBounds_toArray, List.set_cons_zero, List.set_cons_succ]
  refine Lex3.run_free (v := ?_) (by rfl) (by rfl) (fun u => ?_) ?_; rotate_left; (go_simp; try with_reducible rfl); simp only [Act.put, List.setIfInBounds_toArray, List.set_cons_zero, List.set_cons_succ]
  refine Lex3.run_free (v := ?_) (by rfl) (by rfl) (fun u => ?_) ?_; rotate_left; (go_simp; try with_reducible rfl); simp only [Act.put, List.setIfInBounds_toArray, List.set_cons_zero, List.set_cons_succ]
  refine Lex3.run_free (v := ?_) (by rfl) (by rfl) (fun u => ?_) ?_; rotate_left; (go_simp; try with_reducible rfl); simp only [Act.put, List.setIfInBounds_toArray, List.set_cons_zero, List.set_cons_succ]
  refine Lex3.run_load (v := ?_) (by rfl) (by rfl) (fun u hu => ?_) ?_; rotate_left; (obtain ⟨hu0, hu1, hu2⟩ := hu; go_simp; try with_reducible rfl); simp only [Act.put, List.setIfInBounds_toArray, List.set_cons_zero, List.set_cons_succ]
  refine Lex3.run_free (v := ?_) (by rfl) (by rfl) (fun u => ?_) ?_; rotate_left; (go_simp; try with_reducible rfl); simp only [Act.put, List.setIfInBounds_toArray, List.set_cons_zero, List.set_cons_succ]
  refine Lex3.run_free (v := ?_) (by rfl) (by rfl) (fun u => ?_) ?_; rotate_left; (go_simp; try with_reducible rfl); simp only [Act.put, List.setIfInBounds_toArray, List.set_cons_zero, List.set_cons_succ]
  refine Lex3.run_free (v := ?_) (by rfl) (by rfl) (fun u => ?_) ?_; rotate_left; (go_simp; try with_reducible rfl); simp only [Act.put, List.setIfInBounds_toArray, List.set_cons_zero, List.set_cons_succ]
  refine Lex3.run_free (v := ?_) (by rfl) (by rfl) (fun u => ?_) ?_; rotate_left; (go_simp; try with_reducible rfl); simp only [Act.put, List.setIfInBounds_toArray, List.set_cons_zero, List.set_cons_succ]
  refine Lex3.run_free (v := ?_) (by rfl) (by rfl) (fun u => ?_) ?_; rotate_left; (go_simp; try with_reducible rfl); simp only [Act.put, List.setIfInBounds_toArray, List.set_cons_zero, List.set_cons_succ]
  refine Lex3.run_free (v := ?_) (by rfl) (by rfl) (fun u => ?_) ?_; rotate_left; (go_simp; try with_reducible rfl); simp only [Act.put, List.setIfInBounds_toArray, List.set_cons_zero, List.set_cons_succ]
  refine Lex3.run_eff (by rfl) (by rfl) (fun n' K' hK => ?_)
  have f3' : (w.drewN (n1 + 1 + n')).frozen? ⟨g, m + x, none⟩ = false := f3
  have d3' : (w.drewN (n1 + 1 + n')).cell? ⟨g, m + x, none⟩ = some (.int .i64 v) := d3
  go_simp
  have hp1 : RA ((w.drewN (n1 + 1 + n')).setCell ⟨g, m + x, none⟩ (.int .i64 u)) b g W H c (zs.set (y * W + x) u) := by
    have h5 := (show RA (w.drewN (n1 + 1 + n')) b g W H c zs from hp.drewN _).set (m + x) (.int .i64 u)
    rw [← List.map_set] at h5
    rw [Nat.mul_comm y W, HM.out]
    exact h5
  have hg1 : w.grownBy ((w.drewN (n1 + 1 + n')).setCell ⟨g, m + x, none⟩ (.int .i64 u)) (some g) := grown_set (grown_drewN (World.grownBy.refl _ _) _) _ _
  refine hK _ _ ⟨hp1.c0, by rw [hp1.c2, HN.out], trivial⟩ ?_
  clear hK K'
  try simp only [Act.put, List.setIfInBounds_toArray, List.set_cons_zero, List.set_cons_succ]
  refine Lex3.run_nil (fun n3 => ?_)
  go_wp2_with fail
  go_ret
  exact ⟨rfl, hp1.drewN n3, grown_drewN hg1 n3⟩
set_option maxHeartbeats 2000000 in
theorem set_out (b g W H c : Nat) (zs : List Int) (x y u : Int) (w : World) (hp : RA w b g W H c zs) (hb : inB x y W H = false) :
    Calls Try.prog 99 #[.pointer (some ⟨b, 0, none⟩), .int .i64 x, .int .i64 y, .int .i64 u] w fun e w' => e = .returned (.bool false) ∧ w = w' := by
  have HB := Lib.hid hb; clear hb
  go_enter Try.func99, Try.ntmps99
  go_wp2_with fail
  refine (at_out b g W H c zs x y w hp HB.out).mono ?_
  rintro e w' ⟨rfl, rfl⟩
  go_wp2_with fail
  go_ret
  exact ⟨rfl, rfl⟩
/-- Set, wherever it is -/
theorem set_any (b g W H c : Nat) (zs : List Int) (x y u : Int) (w : World) (hp : RA w b g W H c zs) :
    Calls Try.prog 99 #[.pointer (some ⟨b, 0, none⟩), .int .i64 x, .int .i64 y, .int .i64 u] w fun e w' => e = .returned (.bool (inB x y W H)) ∧ RA w' b g W H c (setZ W H zs x y u) ∧ w.grownBy w' (some g) := by
  unfold setZ
  cases hb : inB x y W H
  · refine (set_out b g W H c zs x y u w hp hb).mono ?_
    rintro e w' ⟨rfl, rfl⟩
    exact ⟨rfl, hp, World.grownBy.refl _ _⟩
  · have h := hb
    unfold inB at h
    simp only [decide_eq_true_eq] at h
    obtain ⟨xn, rfl⟩ := Int.eq_ofNat_of_zero_le h.1
    obtain ⟨yn, rfl⟩ := Int.eq_ofNat_of_zero_le h.2.2.1
    refine (set_in b g W H c zs xn yn u w hp (by omega) (by omega)).mono ?_
    rintro e w' ⟨rfl, hp', hg⟩
    exact ⟨rfl, hp', hg⟩
/-- what At answers -/
def atZ (zs : List Int) (W H : Nat) (x y : Int) : Int := if inB x y W H = true then zs.getD (y.toNat * W + x.toNat) 0 else 0
theorem at_any (b g W H c : Nat) (zs : List Int) (x y : Int) (w : World) (hp : RA w b g W H c zs) :
    Calls Try.prog 111 #[.pointer (some ⟨b, 0, none⟩), .int .i64 x, .int .i64 y] w fun e w' => e = .returned (.tuple #[.int .i64 (atZ zs W H x y), .bool (inB x y W H)]) ∧ ∃ k, w' = w.drewN k := by
  unfold atZ
  cases hb : inB x y W H
  · refine (at_out b g W H c zs x y w hp hb).mono ?_
    rintro e w' ⟨rfl, rfl⟩
    exact ⟨rfl, 0, rfl⟩
  · have h := hb
    unfold inB at h
    simp only [decide_eq_true_eq] at h
    obtain ⟨xn, rfl⟩ := Int.eq_ofNat_of_zero_le h.1
    obtain ⟨yn, rfl⟩ := Int.eq_ofNat_of_zero_le h.2.2.1
    exact at_in b g W H c zs xn yn w hp (by omega) (by omega)

set_option maxHeartbeats 1000000 in
theorem nearest_any (x : Int) (n : Nat) (w : World) (h1 : 1 ≤ n) (h2 : n ≤ 67108864) : Calls Try.prog 119 #[.int .i64 x, .int .i64 n] w fun e w' => e = .returned (.int .i64 (clampI x n)) ∧ ∃ k, w' = w.drewN k := by
  by_cases q1 : x < 0
  · rw [show clampI x n = 0 by unfold clampI; omega]
    go_enter Try.func119, Try.ntmps119
    go_wp2_with fail
    go_ret
    exact ⟨rfl, 0, rfl⟩
  by_cases q2 : (n : Int) ≤ x
  · have e : clampI x n = (n : Int) - 1 := by unfold clampI; omega
    have wn : IntKind.i64.wrap ((n : Int) - 1) = (n : Int) - 1 := IntWalk.i64_in _ (by omega)
    rw [e]
    go_enter Try.func119, Try.ntmps119
    go_wp2_with fail
    go_ret
    exact ⟨rfl, 0, rfl⟩
  · rw [show clampI x n = x by unfold clampI; omega]
    go_enter Try.func119, Try.ntmps119
    go_wp2_with fail
    go_ret
    exact ⟨rfl, 0, rfl⟩

set_option maxRecDepth 100000 in
set_option maxHeartbeats 4000000 in
theorem near_any (b g W H c : Nat) (zs : List Int) (x y : Int) (w : World) (hp : RA w b g W H c zs) :
    Calls Try.prog 114 #[.pointer (some ⟨b, 0, none⟩), .int .i64 x, .int .i64 y] w fun e w' => e = .returned (.int .i64 (nearZ zs W H x y)) ∧ ∃ k, w' = w.drewN k := by
  have c0 := hp.c0
  have c1 := hp.c1
  have hs := hp.side
  have hW := hp.wide
  have hH := hp.high
  obtain ⟨u, hu⟩ : ∃ u : Nat, clampI x W = u := ⟨(clampI x W).toNat, by have := (clampI_in x hW).1; omega⟩
  obtain ⟨v, hv⟩ : ∃ v : Nat, clampI y H = v := ⟨(clampI y H).toNat, by have := (clampI_in y hH).1; omega⟩
  have q1 : u < W := by have := (clampI_in x hW).2; omega
  have q2 : v < H := by have := (clampI_in y hH).2; omega
  have hN : nearZ zs W H x y = zs.getD (v * W + u) 0 := by unfold nearZ; rw [hu, hv]; rfl
  rw [hN]
  have HU := Lib.hid hu; clear hu
  have HV := Lib.hid hv; clear hv
  obtain ⟨z, hz⟩ : ∃ z, zs.getD (v * W + u) 0 = z := ⟨_, rfl⟩
  rw [hz]
  have HZ := Lib.hid hz; clear hz hN
  go_enter Try.func114, Try.ntmps114
  go_upto_region 1 with fail
  refine Lex3.wp_region_lex [119, 111] (fun u' => u'.cell? ⟨b, 0, none⟩ = some (.int .i64 W) ∧ u'.cell? ⟨b, 1, none⟩ = some (.int .i64 H)) (fun u n h => h) ⟨c0, c1⟩ (by kernel_rfl) (by kernel_rfl) ?_
  refine Lex3.run_free (v := ?_) (by rfl) (by rfl) (fun u => ?_) ?_; rotate_left; (go_simp; try with_reducible rfl); simp only [Act.put, List.setIfInBounds_toArray, List.set_cons_zero, List.set_cons_succ]
  refine Lex3.run_free (v := ?_) (by rfl) (by rfl) (fun u => ?_) ?_; rotate_left; (go_simp; try with_reducible rfl); simp only [Act.put, List.setIfInBounds_toArray, List.set_cons_zero, List.set_cons_succ]
  refine Lex3.run_free (v := ?_) (by rfl) (by rfl) (fun u => ?_) ?_; rotate_left; (go_simp; try with_reducible rfl); simp only [Act.put, List.setIfInBounds_toArray, List.set_cons_zero, List.set_cons_succ]
  refine Lex3.run_free (v := ?_) (by rfl) (by rfl) (fun u => ?_) ?_; rotate_left; (go_simp; try with_reducible rfl); simp only [Act.put, List.setIfInBounds_toArray, List.set_cons_zero, List.set_cons_succ]
  refine Lex3.run_free (v := ?_) (by rfl) (by rfl) (fun u => ?_) ?_; rotate_left; (go_simp; try with_reducible rfl); simp only [Act.put, List.setIfInBounds_toArray, List.set_cons_zero, List.set_cons_succ]
  refine Lex3.run_load (v := ?_) (by rfl) (by rfl) (fun u hu => ?_) ?_; rotate_left; (obtain ⟨hu0, hu1⟩ := hu; go_simp; try with_reducible rfl); simp only [Act.put, List.setIfInBounds_toArray, List.set_cons_zero, List.set_cons_succ]
  refine Lex3.run_call (v := .int .i64 u) (f := 119) (args := #[.int .i64 x, .int .i64 W]) (by rfl) (by rfl) (fun n => ?_) (fun n => ?_) ?_
  · go_simp
  · refine (nearest_any x W _ hW hs.1).mono ?_
    rintro e w' ⟨rfl, k, rfl⟩
    exact ⟨by rw [HU.out], k, rfl⟩
  simp only [Act.put, List.setIfInBounds_toArray, List.set_cons_zero, List.set_cons_succ]
  refine Lex3.run_free (v := ?_) (by rfl) (by rfl) (fun u => ?_) ?_; rotate_left; (go_simp; try with_reducible rfl); simp only [Act.put, List.setIfInBounds_toArray, List.set_cons_zero, List.set_cons_succ]
  refine Lex3.run_free (v := ?_) (by rfl) (by rfl) (fun u => ?_) ?_; rotate_left; (go_simp; try with_reducible rfl); simp only [Act.put, List.setIfInBounds_toArray, List.set_cons_zero, List.set_cons_succ]
  refine Lex3.run_free (v := ?_) (by rfl) (by rfl) (fun u => ?_) ?_; rotate_left; (go_simp; try with_reducible rfl); simp only [Act.put, List.setIfInBounds_toArray, List.set_cons_zero, List.set_cons_succ]
  refine Lex3.run_free (v := ?_) (by rfl) (by rfl) (fun u => ?_) ?_; rotate_left; (go_simp; try with_reducible rfl); simp only [Act.put, List.setIfInBounds_toArray, List.set_cons_zero, List.set_cons_succ]
  refine Lex3.run_load (v := ?_) (by rfl) (by rfl) (fun u hu => ?_) ?_; rotate_left; (obtain ⟨hu0, hu1⟩ := hu; go_simp; try with_reducible rfl); simp only [Act.put, List.setIfInBounds_toArray, List.set_cons_zero, List.set_cons_succ]
  refine Lex3.run_call (v := .int .i64 v) (f := 119) (args := #[.int .i64 y, .int .i64 H]) (by rfl) (by rfl) (fun n => ?_) (fun n => ?_) ?_
  · go_simp
  · refine (nearest_any y H _ hH hs.2).mono ?_
    rintro e w' ⟨rfl, k, rfl⟩
    exact ⟨by rw [HV.out], k, rfl⟩
  simp only [Act.put, List.setIfInBounds_toArray, List.set_cons_zero, List.set_cons_succ]
  refine Lex3.run_call (v := .tuple #[.int .i64 z, .bool true]) (f := 111) (args := #[.pointer (some ⟨b, 0, none⟩), .int .i64 u, .int .i64 v]) (by rfl) (by rfl) (fun n => ?_) (fun n => ?_) ?_
  · go_simp
  · refine (at_in b g W H c zs u v (w.drew.drewN n) (hp.keep rfl rfl) q1 q2).mono ?_
    rintro e w' ⟨rfl, k, rfl⟩
    exact ⟨by rw [HZ.out], k, rfl⟩
  simp only [Act.put, List.setIfInBounds_toArray, List.set_cons_zero, List.set_cons_succ]
  refine Lex3.run_free (v := ?_) (by rfl) (by rfl) (fun u => ?_) ?_; rotate_left; (go_simp; try with_reducible rfl); simp only [Act.put, List.setIfInBounds_toArray, List.set_cons_zero, List.set_cons_succ]
  refine Lex3.run_free (v := ?_) (by rfl) (by rfl) (fun u => ?_) ?_; rotate_left; (go_simp; try with_reducible rfl); simp only [Act.put, List.setIfInBounds_toArray, List.set_cons_zero, List.set_cons_succ]
  refine Lex3.run_free (v := ?_) (by rfl) (by rfl) (fun u => ?_) ?_; rotate_left; (go_simp; try with_reducible rfl); simp only [Act.put, List.setIfInBounds_toArray, List.set_cons_zero, List.set_cons_succ]
  refine Lex3.run_free (v := ?_) (by rfl) (by rfl) (fun u => ?_) ?_; rotate_left; (go_simp; try with_reducible rfl); simp only [Act.put, List.setIfInBounds_toArray, List.set_cons_zero, List.set_cons_succ]
  refine Lex3.run_free (v := ?_) (by rfl) (by rfl) (fun u => ?_) ?_; rotate_left; (go_simp; try with_reducible rfl); simp only [Act.put, List.setIfInBounds_toArray, List.set_cons_zero, List.set_cons_succ]
  refine Lex3.run_nil (fun n3 => ?_)
  go_wp2_with fail
  go_ret
  exact ⟨rfl, 1 + n3, by simp⟩

set_option maxHeartbeats 2000000 in
theorem pix_any (b g W H c : Nat) (zs : List Int) (w : World) (hp : RA w b g W H c zs) :
    Calls Try.prog 112 #[.pointer (some ⟨b, 0, none⟩)] w fun e w' => ∃ g' c', e = .returned (.slice (some ⟨g', 0, none⟩) (W * H) c') ∧ Sl w' (some ⟨g', 0, none⟩) (W * H) (zs.map (.int .i64)) ∧ w.heap.size ≤ g' ∧ W * H ≤ c' ∧ c' ≤ maxLen ∧ Below w.heap.size w w' := by
  obtain ⟨i0, hi, hz0, hz1, hz2⟩ := info_parts PI.info
  have c2 := hp.c2
  have hsz := hp.size
  have h1 : 1 ≤ W * H := Nat.mul_le_mul hp.wide hp.high
  obtain ⟨cur, hb, hcs, hct⟩ := hp.row
  have hsl : Sl w (some ⟨g, 0, none⟩) (W * H) (zs.map (.int .i64)) := Sl.of_blk hb hct (by rw [hcs]; exact hp.cap)
  have hcap := hp.cap
  have hmost := hp.most
  obtain ⟨N, hN⟩ : ∃ N, W * H = N := ⟨_, rfl⟩
  rw [hN] at c2 hsz h1 hsl hcap ⊢
  clear hct hN
  have hl : zs.length = N := by simpa using hsl.1
  obtain ⟨b', o', e, hcell⟩ := hsl.2 (by omega)
  injection e with e
  injection e with e1 e2
  subst e1 e2
  go_enter Try.func112, Try.ntmps112
  go_wp2_with (at_builtin; refine wpList_append_lies _ rfl (.tmp 4) (.tmp 8) 50 rfl w.heap.size 3 i0 (.int .i64 0) 1 8 Try.underlying50 hi hz0 hz1 hz2 rfl (by decide) (.slice none 0 0) 0 [] rfl (World.ownsRow_nil _ _ _ _) ⟨g, 0, none⟩ N c (zs.map (.int .i64)) rfl (by simp [hl]) (news_of_sl (by simp [hl]) hcell) (ints_oneCell .i64 zs) (by omega) (by unfold maxLen; omega) (by omega) (Nat.le_refl _) _ rfl ?_; intro g1 cap1 w2 hown2 hgrow2 hat2 hlt2)
  go_ret
  obtain ⟨curg, hgb, hgs, hgt, hgn, hgc, hgm⟩ := row_of_owns hown2
  simp only [Nat.zero_add, List.nil_append] at hgt hgc ⊢
  exact ⟨g1, cap1, rfl, Sl.of_blk hgb hgt (by omega), hgn, hgc, hgm, below_of_grown hgrow2⟩
end Go.Proofs.Ytlbocfinjlkebaa.R12
