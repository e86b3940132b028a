/- Is a plane what it must be; a plane written over. -/
import Derived.Test.YtlbocfinjlkebaaPlaneP8r
import Derived.Test.YtlbocfinjlkebaaSampMade
namespace Go.Proofs.Ytlbocfinjlkebaa.Samp
open Go.RowKit

set_option maxRecDepth 100000 in
set_option maxHeartbeats 1000000 in
theorem rsame_any (A B : Option Addr) (n m c c' : Nat) (zs ys : List Int) (w : World) (h1 : Sl w A n (zs.map (.int .u8))) (h2 : Sl w B m (ys.map (.int .u8))) (hn : n ≤ 140737488351232) (hm : m ≤ 140737488351232) :
    Calls Try.prog 80 #[.slice A n c, .slice B m c'] w fun e w' => e = .returned (.bool (P8.eqL zs ys)) ∧ ∃ k, w' = w.drewN k := by
  obtain ⟨hl1, hc1⟩ := h1
  obtain ⟨hl2, hc2⟩ := h2
  simp only [List.length_map] at hl1 hl2
  by_cases hnm : n = m
  · subst hnm
    have e0 : ((n : Int) != (n : Int)) = false := by simp
    have HL1 := Lib.hid hl1; clear hl1
    have HL2 := Lib.hid hl2; clear hl2
    go_enter Try.func80, Try.ntmps80
    go_wp2
    go_loopw [5] (fun i wr => ∃ k q : Nat, k ≤ n ∧ i = .int .i64 k ∧ wr = w.drewN q ∧ P8.eqL (zs.drop k) (ys.drop k) = P8.eqL zs ys) (fun i _ => n - (intOf i).toNat)
    case atStart => exact ⟨0, 0, Nat.zero_le _, rfl, rfl, rfl⟩
    case round =>
      obtain ⟨k, q, hk, rfl, rfl, hr⟩ := hrel
      have HR := Lib.hid hr; clear hr
      by_cases hlt : k < n
      · obtain ⟨b1, o1, rfl, hd1⟩ := hc1 (by omega)
        obtain ⟨b2, o2, rfl, hd2⟩ := hc2 (by omega)
        have g1 : k < zs.length := by rw [HL1.out]; exact hlt
        have g2 : k < ys.length := by rw [HL2.out]; exact hlt
        have d1 := P8.cell_of_map hd1 hlt g1
        have d2 := P8.cell_of_map hd2 hlt g2
        have x1 : zs.drop k = zs[k] :: zs.drop (k + 1) := List.drop_eq_getElem_cons g1
        have x2 : ys.drop k = ys[k] :: ys.drop (k + 1) := List.drop_eq_getElem_cons g2
        generalize zs[k] = a at *
        generalize ys[k] = b at *
        have X1 := Lib.hid x1; clear x1
        have X2 := Lib.hid x2; clear x2
        clear hc1 hc2 hd1 hd2
        cases hab : P8.eqE a b
        · have f1 : (a != b) = true := by simpa [P8.eqE] using hab
          have HAB := Lib.hid hab; clear hab
          go_wp2
          go_quiet (fail)
          go_wp2
          go_ret
          exact ⟨by rw [← HR.out, X1.out, X2.out, P8.eqL, HAB.out]; rfl, q + nq, by simp⟩
        · have f1 : (a != b) = false := by simpa [P8.eqE] using hab
          have HAB := Lib.hid hab; clear hab
          go_wp2
          go_quiet (fail)
          go_wp2
          go_roundw
          case rel => exact ⟨k + 1, _, by omega, by go_num, rfl, by rw [← HR.out, X1.out, X2.out, P8.eqL, HAB.out, Bool.true_and]⟩
          case measure => simp [intOf]; omega
      · have hkn : n ≤ k := by omega
        go_wp2
        go_ret
        exact ⟨by rw [← HR.out, List.drop_of_length_le (by rw [HL1.out]; exact hkn), List.drop_of_length_le (by rw [HL2.out]; exact hkn)]; rfl, _, rfl⟩
  · have e0 : ((n : Int) != (m : Int)) = true := by simp; omega
    have hf : P8.eqL zs ys = false := by
      cases h : P8.eqL zs ys
      · rfl
      · have := P8.eqL_length zs ys h
        omega
    rw [hf]
    go_enter Try.func80, Try.ntmps80
    go_wp2
    go_ret
    exact ⟨rfl, 0, rfl⟩


theorem eqL_self : ∀ l : List Int, P8.eqL l l = true
  | [] => rfl
  | a :: l => by simp [P8.eqL, P8.eqE, eqL_self l]
theorem eqL_eq : ∀ l m : List Int, P8.eqL l m = true → l = m
  | [], [], _ => rfl
  | a :: l, b :: m, h => by
    simp only [P8.eqL, P8.eqE, Bool.and_eq_true, beq_iff_eq] at h
    rw [h.1, eqL_eq l m h.2]
  | [], _ :: _, h => by simp [P8.eqL] at h
  | _ :: _, [], h => by simp [P8.eqL] at h

/-- is a plane what it must be? -/
def isB (W H W' H' : Nat) (zs ys : List Int) : Bool := decide (W = W' ∧ H = H') && P8.eqL zs ys

set_option maxHeartbeats 1000000 in
theorem is_nil (w : World) : Calls Try.prog 21 #[.pointer none, .pointer none] w fun e w' => e = .returned (.bool true) ∧ w = w' := by
  go_enter Try.func21, Try.ntmps21
  go_wp2_with fail
  go_ret
  exact ⟨rfl, rfl⟩

set_option maxRecDepth 100000 in
set_option maxRecDepth 100000 in
set_option maxRecDepth 100000 in
set_option maxHeartbeats 4000000 in
theorem is_any (b g W H c : Nat) (zs : List Int) (r : Nat) (A : Option Addr) (W' H' c' : Nat) (ys : List Int) (w : World) (hp : P8.PA w b g W H c (zs.map (.int .u8))) (hr : RefAt w r A W' H' c' ys) (hn : W' * H' ≤ 67108864) :
    Calls Try.prog 21 #[.pointer (some ⟨b, 0, none⟩), .pointer (some ⟨r, 0, none⟩)] w fun e w' => e = .returned (.bool (isB W H W' H' zs ys)) ∧ Below w.heap.size w w' := by
  have c0 := hr.c0
  have c1 := hr.c1
  have c2 := hr.c2
  unfold isB
  by_cases hW : W = W'
  · by_cases hH : H = H'
    · subst hW hH
      have eR : (decide (W = W ∧ H = H) && P8.eqL zs ys) = P8.eqL zs ys := by simp
      rw [eR]
      have e0 : ((W : Int) == (W : Int)) = true := by simp
      have e1 : ((H : Int) == (H : Int)) = true := by simp
      go_enter Try.func21, Try.ntmps21
      go_wp2_with fail
      refine (P8.size_any b g W H c _ w hp).mono ?_
      rintro e w' ⟨rfl, n1, rfl⟩
      obtain ⟨N, hN⟩ : ∃ N, W * H = N := ⟨_, rfl⟩
      simp only [hN] at c2
      go_upto_region 4 with fail
      refine Lex3.wp_region_lex [80] (fun u => u.cell? ⟨r, 0, none⟩ = some (.int .i64 W) ∧ u.cell? ⟨r, 1, none⟩ = some (.int .i64 H) ∧ u.cell? ⟨r, 2, none⟩ = some (.slice A (N) c')) (fun u n h => h) ⟨c0, c1, c2⟩ (by kernel_rfl) (by kernel_rfl) ?_
      refine Lex3.run_free (v := ?_) (by rfl) (by rfl) (fun u => ?_) ?_; rotate_left; (go_simp; try with_reducible rfl); simp only [Act.put, List.setIfInBounds_toArray, List.set_cons_zero, List.set_cons_succ]
      refine Lex3.run_free (v := ?_) (by rfl) (by rfl) (fun u => ?_) ?_; rotate_left; (go_simp; try with_reducible rfl); simp only [Act.put, List.setIfInBounds_toArray, List.set_cons_zero, List.set_cons_succ]
      refine Lex3.run_free (v := ?_) (by rfl) (by rfl) (fun u => ?_) ?_; rotate_left; (go_simp; try with_reducible rfl); simp only [Act.put, List.setIfInBounds_toArray, List.set_cons_zero, List.set_cons_succ]
      refine Lex3.run_free (v := ?_) (by rfl) (by rfl) (fun u => ?_) ?_; rotate_left; (go_simp; try with_reducible rfl); simp only [Act.put, List.setIfInBounds_toArray, List.set_cons_zero, List.set_cons_succ]
      refine Lex3.run_load (v := ?_) (by rfl) (by rfl) (fun u hu => ?_) ?_; rotate_left; (obtain ⟨hu0, hu1, hu2⟩ := hu; go_simp; try with_reducible rfl); simp only [Act.put, List.setIfInBounds_toArray, List.set_cons_zero, List.set_cons_succ]
      refine Lex3.run_free (v := ?_) (by rfl) (by rfl) (fun u => ?_) ?_; rotate_left; (go_simp; try with_reducible rfl); simp only [Act.put, List.setIfInBounds_toArray, List.set_cons_zero, List.set_cons_succ]
      refine Lex3.run_free (v := ?_) (by rfl) (by rfl) (fun u => ?_) ?_; rotate_left; (go_simp; try with_reducible rfl); simp only [Act.put, List.setIfInBounds_toArray, List.set_cons_zero, List.set_cons_succ]
      refine Lex3.run_free (v := ?_) (by rfl) (by kernel_rfl) (fun u => ?_) ?_; rotate_left; (go_simp; try with_reducible rfl); simp only [Act.put, List.setIfInBounds_toArray, List.set_cons_zero, List.set_cons_succ]
      refine Lex3.run_free (v := ?_) (by rfl) (by kernel_rfl) (fun u => ?_) ?_; rotate_left; (go_simp; try with_reducible rfl); simp only [Act.put, List.setIfInBounds_toArray, List.set_cons_zero, List.set_cons_succ]
      refine Lex3.run_free (v := ?_) (by rfl) (by kernel_rfl) (fun u => ?_) ?_; rotate_left; (go_simp; try with_reducible rfl); simp only [Act.put, List.setIfInBounds_toArray, List.set_cons_zero, List.set_cons_succ]
      refine Lex3.run_free (v := ?_) (by rfl) (by kernel_rfl) (fun u => ?_) ?_; rotate_left; (go_simp; try with_reducible rfl); simp only [Act.put, List.setIfInBounds_toArray, List.set_cons_zero, List.set_cons_succ]
      refine Lex3.run_load (v := ?_) (by rfl) (by kernel_rfl) (fun u hu => ?_) ?_; rotate_left; (obtain ⟨hu0, hu1, hu2⟩ := hu; go_simp; try with_reducible rfl); simp only [Act.put, List.setIfInBounds_toArray, List.set_cons_zero, List.set_cons_succ]
      refine Lex3.run_free (v := ?_) (by rfl) (by kernel_rfl) (fun u => ?_) ?_; rotate_left; (go_simp; try with_reducible rfl); simp only [Act.put, List.setIfInBounds_toArray, List.set_cons_zero, List.set_cons_succ]
      refine Lex3.run_free (v := ?_) (by rfl) (by rfl) (fun u => ?_) ?_; rotate_left; (go_simp; try with_reducible rfl); simp only [Act.put, List.setIfInBounds_toArray, List.set_cons_zero, List.set_cons_succ]
      refine Lex3.run_free (v := ?_) (by rfl) (by rfl) (fun u => ?_) ?_; rotate_left; (go_simp; try with_reducible rfl); simp only [Act.put, List.setIfInBounds_toArray, List.set_cons_zero, List.set_cons_succ]
      refine Lex3.run_free (v := ?_) (by rfl) (by kernel_rfl) (fun u => ?_) ?_; rotate_left; (go_simp; try with_reducible rfl); simp only [Act.put, List.setIfInBounds_toArray, List.set_cons_zero, List.set_cons_succ]
      refine Lex3.run_eff (by rfl) (by rfl) (fun n' K' hK => ?_)
      go_simp
      refine (P8.pix_any b g W H c _ (w.drewN (n1 + 1 + n')) (hp.drewN _) (ints_oneCell .u8 zs)).mono ?_
      rintro e w5 ⟨v, rfl, ⟨g5, d5, cur5, rfl, i1, i2, i3, i4, i5, i6⟩, hb5⟩
      have hr5 := (show RefAt (w.drewN (n1 + 1 + n')) r A W H c' ys from hr.drewN _).below hb5
      refine hK _ _ ⟨hr5.c0, hr5.c1, by rw [hr5.c2, hN]⟩ ?_
      clear hK K'
      try simp only [Act.put, List.setIfInBounds_toArray, List.set_cons_zero, List.set_cons_succ]
      refine Lex3.run_free (v := ?_) (by rfl) (by kernel_rfl) (fun u => ?_) ?_; rotate_left; (go_simp; try with_reducible rfl); simp only [Act.put, List.setIfInBounds_toArray, List.set_cons_zero, List.set_cons_succ]
      refine Lex3.run_free (v := ?_) (by rfl) (by kernel_rfl) (fun u => ?_) ?_; rotate_left; (go_simp; try with_reducible rfl); simp only [Act.put, List.setIfInBounds_toArray, List.set_cons_zero, List.set_cons_succ]
      refine Lex3.run_free (v := ?_) (by rfl) (by kernel_rfl) (fun u => ?_) ?_; rotate_left; (go_simp; try with_reducible rfl); simp only [Act.put, List.setIfInBounds_toArray, List.set_cons_zero, List.set_cons_succ]
      refine Lex3.run_load (v := ?_) (by rfl) (by kernel_rfl) (fun u hu => ?_) ?_; rotate_left; (obtain ⟨hu0, hu1, hu2⟩ := hu; go_simp; try with_reducible rfl); simp only [Act.put, List.setIfInBounds_toArray, List.set_cons_zero, List.set_cons_succ]
      refine Lex3.run_call (v := .bool (P8.eqL zs ys)) (f := 80) (args := #[.slice (some ⟨g5, 0, none⟩) (W * H) d5, .slice A N c']) (by rfl) (by kernel_rfl) (fun n => ?_) (fun n => ?_) ?_
      · go_simp
      · have t1 : Sl (w5.drewN n) (some ⟨g5, 0, none⟩) (W * H) (zs.map (.int .u8)) := (Sl.of_blk i1 i3 (by omega)).drewN n
        have t2 : Sl (w5.drewN n) A N (ys.map (.int .u8)) := hN ▸ (hr5.sl.drewN n)
        exact rsame_any _ _ _ _ _ _ zs ys _ t1 t2 (by have := hp.size; omega) (by omega)
      simp only [Act.put, List.setIfInBounds_toArray, List.set_cons_zero, List.set_cons_succ]
      refine Lex3.run_free (v := ?_) (by rfl) (by rfl) (fun u => ?_) ?_; rotate_left; (go_simp; try with_reducible rfl); simp only [Act.put, List.setIfInBounds_toArray, List.set_cons_zero, List.set_cons_succ]
      refine Lex3.run_free (v := ?_) (by rfl) (by rfl) (fun u => ?_) ?_; rotate_left; (go_simp; try with_reducible rfl); simp only [Act.put, List.setIfInBounds_toArray, List.set_cons_zero, List.set_cons_succ]
      refine Lex3.run_nil (fun n3 => ?_)
      go_wp2_with fail
      go_ret
      exact ⟨rfl, below_drewN (below_then (below_drewN (Below.refl _ _) (n1 + 1 + n')) hb5) n3⟩
    · have eR : (decide (W = W' ∧ H = H') && P8.eqL zs ys) = false := by simp [hH]
      rw [eR]
      have e0 : ((W : Int) == (W' : Int)) = true := by simp [hW]
      have e1 : ((H : Int) == (H' : Int)) = false := by simp; omega
      go_enter Try.func21, Try.ntmps21
      go_wp2_with fail
      refine (P8.size_any b g W H c _ w hp).mono ?_
      rintro e w' ⟨rfl, n1, rfl⟩
      go_upto_region 4 with fail
      refine Lex3.wp_region_lex [80] (fun u => u.cell? ⟨r, 0, none⟩ = some (.int .i64 W') ∧ u.cell? ⟨r, 1, none⟩ = some (.int .i64 H') ∧ u.cell? ⟨r, 2, none⟩ = some (.slice A (W' * H') c')) (fun u n h => h) ⟨c0, c1, c2⟩ (by kernel_rfl) (by kernel_rfl) ?_
      refine Lex3.run_free (v := ?_) (by rfl) (by rfl) (fun u => ?_) ?_; rotate_left; (go_simp; try with_reducible rfl); simp only [Act.put, List.setIfInBounds_toArray, List.set_cons_zero, List.set_cons_succ]
      refine Lex3.run_free (v := ?_) (by rfl) (by rfl) (fun u => ?_) ?_; rotate_left; (go_simp; try with_reducible rfl); simp only [Act.put, List.setIfInBounds_toArray, List.set_cons_zero, List.set_cons_succ]
      refine Lex3.run_free (v := ?_) (by rfl) (by rfl) (fun u => ?_) ?_; rotate_left; (go_simp; try with_reducible rfl); simp only [Act.put, List.setIfInBounds_toArray, List.set_cons_zero, List.set_cons_succ]
      refine Lex3.run_free (v := ?_) (by rfl) (by rfl) (fun u => ?_) ?_; rotate_left; (go_simp; try with_reducible rfl); simp only [Act.put, List.setIfInBounds_toArray, List.set_cons_zero, List.set_cons_succ]
      refine Lex3.run_load (v := ?_) (by rfl) (by rfl) (fun u hu => ?_) ?_; rotate_left; (obtain ⟨hu0, hu1, hu2⟩ := hu; go_simp; try with_reducible rfl); simp only [Act.put, List.setIfInBounds_toArray, List.set_cons_zero, List.set_cons_succ]
      refine Lex3.run_free (v := ?_) (by rfl) (by rfl) (fun u => ?_) ?_; rotate_left; (go_simp; try with_reducible rfl); simp only [Act.put, List.setIfInBounds_toArray, List.set_cons_zero, List.set_cons_succ]
      refine Lex3.run_free (v := ?_) (by rfl) (by rfl) (fun u => ?_) ?_; rotate_left; (go_simp; try with_reducible rfl); simp only [Act.put, List.setIfInBounds_toArray, List.set_cons_zero, List.set_cons_succ]
      refine Lex3.run_free (v := ?_) (by rfl) (by kernel_rfl) (fun u => ?_) ?_; rotate_left; (go_simp; try with_reducible rfl); simp only [Act.put, List.setIfInBounds_toArray, List.set_cons_zero, List.set_cons_succ]
      refine Lex3.run_free (v := ?_) (by rfl) (by kernel_rfl) (fun u => ?_) ?_; rotate_left; (go_simp; try with_reducible rfl); simp only [Act.put, List.setIfInBounds_toArray, List.set_cons_zero, List.set_cons_succ]
      refine Lex3.run_free (v := ?_) (by rfl) (by kernel_rfl) (fun u => ?_) ?_; rotate_left; (go_simp; try with_reducible rfl); simp only [Act.put, List.setIfInBounds_toArray, List.set_cons_zero, List.set_cons_succ]
      refine Lex3.run_free (v := ?_) (by rfl) (by kernel_rfl) (fun u => ?_) ?_; rotate_left; (go_simp; try with_reducible rfl); simp only [Act.put, List.setIfInBounds_toArray, List.set_cons_zero, List.set_cons_succ]
      refine Lex3.run_load (v := ?_) (by rfl) (by kernel_rfl) (fun u hu => ?_) ?_; rotate_left; (obtain ⟨hu0, hu1, hu2⟩ := hu; go_simp; try with_reducible rfl); simp only [Act.put, List.setIfInBounds_toArray, List.set_cons_zero, List.set_cons_succ]
      refine Lex3.run_free (v := ?_) (by rfl) (by kernel_rfl) (fun u => ?_) ?_; rotate_left; (go_simp; try with_reducible rfl); simp only [Act.put, List.setIfInBounds_toArray, List.set_cons_zero, List.set_cons_succ]
      refine Lex3.run_free (v := ?_) (by rfl) (by rfl) (fun u => ?_) ?_; rotate_left; (go_simp; try with_reducible rfl); simp only [Act.put, List.setIfInBounds_toArray, List.set_cons_zero, List.set_cons_succ]
      refine Lex3.run_free (v := ?_) (by rfl) (by rfl) (fun u => ?_) ?_; rotate_left; (go_simp; try with_reducible rfl); simp only [Act.put, List.setIfInBounds_toArray, List.set_cons_zero, List.set_cons_succ]
      refine Lex3.run_skip (by kernel_rfl) ?_; simp only [Act.put, List.setIfInBounds_toArray, List.set_cons_zero, List.set_cons_succ]
      refine Lex3.run_skip (by kernel_rfl) ?_; simp only [Act.put, List.setIfInBounds_toArray, List.set_cons_zero, List.set_cons_succ]
      refine Lex3.run_skip (by kernel_rfl) ?_; simp only [Act.put, List.setIfInBounds_toArray, List.set_cons_zero, List.set_cons_succ]
      refine Lex3.run_skip (by kernel_rfl) ?_; simp only [Act.put, List.setIfInBounds_toArray, List.set_cons_zero, List.set_cons_succ]
      refine Lex3.run_skip (by kernel_rfl) ?_; simp only [Act.put, List.setIfInBounds_toArray, List.set_cons_zero, List.set_cons_succ]
      refine Lex3.run_skip (by kernel_rfl) ?_; simp only [Act.put, List.setIfInBounds_toArray, List.set_cons_zero, List.set_cons_succ]
      refine Lex3.run_skip (by kernel_rfl) ?_; simp only [Act.put, List.setIfInBounds_toArray, List.set_cons_zero, List.set_cons_succ]
      refine Lex3.run_free (v := ?_) (by rfl) (by rfl) (fun u => ?_) ?_; rotate_left; (go_simp; try with_reducible rfl); simp only [Act.put, List.setIfInBounds_toArray, List.set_cons_zero, List.set_cons_succ]
      refine Lex3.run_free (v := ?_) (by rfl) (by rfl) (fun u => ?_) ?_; rotate_left; (go_simp; try with_reducible rfl); simp only [Act.put, List.setIfInBounds_toArray, List.set_cons_zero, List.set_cons_succ]
      refine Lex3.run_nil (fun n3 => ?_)
      go_wp2_with fail
      go_ret
      exact ⟨rfl, below_drewN (below_drewN (below_drewN (Below.refl _ _) n1) 1) n3⟩
  · have eR : (decide (W = W' ∧ H = H') && P8.eqL zs ys) = false := by simp [hW]
    rw [eR]
    have e0 : ((W : Int) == (W' : Int)) = false := by simp; omega
    go_enter Try.func21, Try.ntmps21
    go_wp2_with fail
    refine (P8.size_any b g W H c _ w hp).mono ?_
    rintro e w' ⟨rfl, n1, rfl⟩
    go_upto_region 4 with fail
    refine Lex3.wp_region_lex [80] (fun u => u.cell? ⟨r, 0, none⟩ = some (.int .i64 W') ∧ u.cell? ⟨r, 1, none⟩ = some (.int .i64 H') ∧ u.cell? ⟨r, 2, none⟩ = some (.slice A (W' * H') c')) (fun u n h => h) ⟨c0, c1, c2⟩ (by kernel_rfl) (by kernel_rfl) ?_
    refine Lex3.run_free (v := ?_) (by rfl) (by rfl) (fun u => ?_) ?_; rotate_left; (go_simp; try with_reducible rfl); simp only [Act.put, List.setIfInBounds_toArray, List.set_cons_zero, List.set_cons_succ]
    refine Lex3.run_free (v := ?_) (by rfl) (by rfl) (fun u => ?_) ?_; rotate_left; (go_simp; try with_reducible rfl); simp only [Act.put, List.setIfInBounds_toArray, List.set_cons_zero, List.set_cons_succ]
    refine Lex3.run_free (v := ?_) (by rfl) (by rfl) (fun u => ?_) ?_; rotate_left; (go_simp; try with_reducible rfl); simp only [Act.put, List.setIfInBounds_toArray, List.set_cons_zero, List.set_cons_succ]
    refine Lex3.run_free (v := ?_) (by rfl) (by rfl) (fun u => ?_) ?_; rotate_left; (go_simp; try with_reducible rfl); simp only [Act.put, List.setIfInBounds_toArray, List.set_cons_zero, List.set_cons_succ]
    refine Lex3.run_load (v := ?_) (by rfl) (by rfl) (fun u hu => ?_) ?_; rotate_left; (obtain ⟨hu0, hu1, hu2⟩ := hu; go_simp; try with_reducible rfl); simp only [Act.put, List.setIfInBounds_toArray, List.set_cons_zero, List.set_cons_succ]
    refine Lex3.run_free (v := ?_) (by rfl) (by rfl) (fun u => ?_) ?_; rotate_left; (go_simp; try with_reducible rfl); simp only [Act.put, List.setIfInBounds_toArray, List.set_cons_zero, List.set_cons_succ]
    refine Lex3.run_free (v := ?_) (by rfl) (by rfl) (fun u => ?_) ?_; rotate_left; (go_simp; try with_reducible rfl); simp only [Act.put, List.setIfInBounds_toArray, List.set_cons_zero, List.set_cons_succ]
    refine Lex3.run_skip (by kernel_rfl) ?_; simp only [Act.put, List.setIfInBounds_toArray, List.set_cons_zero, List.set_cons_succ]
    refine Lex3.run_skip (by kernel_rfl) ?_; simp only [Act.put, List.setIfInBounds_toArray, List.set_cons_zero, List.set_cons_succ]
    refine Lex3.run_skip (by kernel_rfl) ?_; simp only [Act.put, List.setIfInBounds_toArray, List.set_cons_zero, List.set_cons_succ]
    refine Lex3.run_skip (by kernel_rfl) ?_; simp only [Act.put, List.setIfInBounds_toArray, List.set_cons_zero, List.set_cons_succ]
    refine Lex3.run_skip (by kernel_rfl) ?_; simp only [Act.put, List.setIfInBounds_toArray, List.set_cons_zero, List.set_cons_succ]
    refine Lex3.run_skip (by kernel_rfl) ?_; simp only [Act.put, List.setIfInBounds_toArray, List.set_cons_zero, List.set_cons_succ]
    refine Lex3.run_free (v := ?_) (by rfl) (by rfl) (fun u => ?_) ?_; rotate_left; (go_simp; try with_reducible rfl); simp only [Act.put, List.setIfInBounds_toArray, List.set_cons_zero, List.set_cons_succ]
    refine Lex3.run_free (v := ?_) (by rfl) (by rfl) (fun u => ?_) ?_; rotate_left; (go_simp; try with_reducible rfl); simp only [Act.put, List.setIfInBounds_toArray, List.set_cons_zero, List.set_cons_succ]
    refine Lex3.run_skip (by kernel_rfl) ?_; simp only [Act.put, List.setIfInBounds_toArray, List.set_cons_zero, List.set_cons_succ]
    refine Lex3.run_skip (by kernel_rfl) ?_; simp only [Act.put, List.setIfInBounds_toArray, List.set_cons_zero, List.set_cons_succ]
    refine Lex3.run_skip (by kernel_rfl) ?_; simp only [Act.put, List.setIfInBounds_toArray, List.set_cons_zero, List.set_cons_succ]
    refine Lex3.run_skip (by kernel_rfl) ?_; simp only [Act.put, List.setIfInBounds_toArray, List.set_cons_zero, List.set_cons_succ]
    refine Lex3.run_skip (by kernel_rfl) ?_; simp only [Act.put, List.setIfInBounds_toArray, List.set_cons_zero, List.set_cons_succ]
    refine Lex3.run_skip (by kernel_rfl) ?_; simp only [Act.put, List.setIfInBounds_toArray, List.set_cons_zero, List.set_cons_succ]
    refine Lex3.run_skip (by kernel_rfl) ?_; simp only [Act.put, List.setIfInBounds_toArray, List.set_cons_zero, List.set_cons_succ]
    refine Lex3.run_free (v := ?_) (by rfl) (by rfl) (fun u => ?_) ?_; rotate_left; (go_simp; try with_reducible rfl); simp only [Act.put, List.setIfInBounds_toArray, List.set_cons_zero, List.set_cons_succ]
    refine Lex3.run_free (v := ?_) (by rfl) (by rfl) (fun u => ?_) ?_; rotate_left; (go_simp; try with_reducible rfl); simp only [Act.put, List.setIfInBounds_toArray, List.set_cons_zero, List.set_cons_succ]
    refine Lex3.run_nil (fun n3 => ?_)
    go_wp2_with fail
    go_ret
    exact ⟨rfl, below_drewN (below_drewN (below_drewN (Below.refl _ _) n1) 1) n3⟩
end Go.Proofs.Ytlbocfinjlkebaa.Samp
