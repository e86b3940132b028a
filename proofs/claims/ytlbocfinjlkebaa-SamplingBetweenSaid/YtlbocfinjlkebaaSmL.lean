/- SamplingSmooth: the law's own call returns true, whatever the shape and the sizes. -/
import Derived.Test.YtlbocfinjlkebaaSmR
import Derived.Test.YtlbocfinjlkebaaSampDl
import Derived.Test.YtlbocfinjlkebaaPlanePF
namespace Go.Proofs.Ytlbocfinjlkebaa.Samp
open Go.RowKit

theorem sm_no (b g W H c : Nat) (xs : List Value) (fx fy wide high : Int) (w : World) (hp : P8.PA w b g W H c xs) (he : upE fx fy wide high W H ≠ 0) :
    Calls Try.prog 39 #[.pointer (some ⟨b, 0, none⟩), .int .i64 fx, .int .i64 fy, .int .i64 wide, .int .i64 high] w fun e w' => e = .returned (.tuple #[.pointer none, .int .i64 (upE fx fy wide high W H)]) ∧ ∃ k, w' = w.drewN k := by
  obtain ⟨E, hE⟩ : ∃ E, upE fx fy wide high W H = E := ⟨_, rfl⟩
  rw [hE] at he ⊢
  have HE := Lib.hid hE; clear hE
  go_enter Try.func39, Try.ntmps39
  go_wp2_with fail
  refine (larger_any b g W H c _ fx fy wide high w hp).mono ?_
  rintro e w' ⟨rfl, n0, rfl⟩
  simp only [HE.out]
  go_wp2_with fail
  go_ret2
  exact ⟨rfl, n0, rfl⟩
theorem sm_nil (fx fy wide high : Int) (w : World) :
    Calls Try.prog 39 #[.pointer none, .int .i64 fx, .int .i64 fy, .int .i64 wide, .int .i64 high] w fun e w' => e = .returned (.tuple #[.pointer none, .int .i64 2]) ∧ w = w' := by
  go_enter Try.func39, Try.ntmps39
  go_wp2_with fail
  refine (larger_nil fx fy wide high w).mono ?_
  rintro e w' ⟨rfl, rfl⟩
  go_wp2_with fail
  go_ret2
  exact ⟨rfl, rfl⟩
theorem rsm_no (b : Nat) (A : Option Addr) (W H c : Nat) (zs : List Int) (fx fy wide high : Int) (w : World) (hp : RefAt w b A W H c zs) (hW : W ≤ 67108864) (hH : H ≤ 67108864) (he : upE fx fy wide high W H ≠ 0) :
    Calls Try.prog 38 #[.pointer (some ⟨b, 0, none⟩), .int .i64 fx, .int .i64 fy, .int .i64 wide, .int .i64 high] w fun e w' => e = .returned (.tuple #[.slice none 0 0, .int .i64 (upE fx fy wide high W H)]) ∧ ∃ k, w' = w.drewN k := by
  obtain ⟨E, hE⟩ : ∃ E, upE fx fy wide high W H = E := ⟨_, rfl⟩
  rw [hE] at he ⊢
  have HE := Lib.hid hE; clear hE
  go_enter Try.func38, Try.ntmps38
  go_wp2_with fail
  refine (rlarger_any b A W H c _ fx fy wide high w hp hW hH).mono ?_
  rintro e w' ⟨rfl, n0, rfl⟩
  simp only [HE.out]
  go_wp2_with fail
  go_ret2
  exact ⟨rfl, n0, rfl⟩
theorem rsm_nil (fx fy wide high : Int) (w : World) :
    Calls Try.prog 38 #[.pointer none, .int .i64 fx, .int .i64 fy, .int .i64 wide, .int .i64 high] w fun e w' => e = .returned (.tuple #[.slice none 0 0, .int .i64 2]) ∧ w = w' := by
  go_enter Try.func38, Try.ntmps38
  go_wp2_with fail
  refine (rlarger_nil fx fy wide high w).mono ?_
  rintro e w' ⟨rfl, rfl⟩
  go_wp2_with fail
  go_ret2
  exact ⟨rfl, rfl⟩

set_option maxRecDepth 100000 in
set_option maxHeartbeats 4000000 in
theorem lawSm_none (wd : Int) (A : Option Addr) (n c : Nat) (fx fy wide high : Int) (w : World) (hn : n ≤ maxLen) (hs : shaped wd n = false) :
    Calls Try.prog 8 #[.agg #[.int .i64 wd, .slice A n c], .int .i64 fx, .int .i64 fy, .int .i64 wide, .int .i64 high] w (TrueB w) := by
  go_enter Try.func8, Try.ntmps8
  go_wp2_with fail
  refine (made_no wd A n c _ hn hs).mono ?_
  rintro e w1 ⟨rfl, b1⟩
  go_wp2_with fail
  refine (rsm_nil fx fy wide high _).mono ?_
  rintro e w' ⟨rfl, rfl⟩
  go_wp2_with fail
  refine (sm_nil fx fy wide high _).mono ?_
  rintro e w' ⟨rfl, rfl⟩
  go_wp2_with fail
  refine (sm_nil fx fy wide high _).mono ?_
  rintro e w' ⟨rfl, rfl⟩
  go_wp2_with fail
  refine (is_nil _).mono ?_
  rintro e w' ⟨rfl, rfl⟩
  go_wp2_with fail
  go_ret
  exact ⟨rfl, below_then ((Below.refl _ _).alloc (Nat.le_refl _) _) b1⟩

set_option maxRecDepth 100000 in
set_option maxHeartbeats 4000000 in
theorem lawSm_no (W : Nat) (A : Option Addr) (n c : Nat) (zs : List Int) (fx fy wide high : Int) (w : World) (hnc : n ≤ c) (hc : c ≤ maxLen) (hsl : Sl w A n (zs.map (.int .u8))) (h1 : 1 ≤ W) (h2 : W ≤ n) (h3 : n ≤ 67108864)
    (he : upE fx fy wide high W (n / W) ≠ 0) :
    Calls Try.prog 8 #[.agg #[.int .i64 W, .slice A n c], .int .i64 fx, .int .i64 fy, .int .i64 wide, .int .i64 high] w (TrueB w) := by
  have hWH : W * (n / W) ≤ 67108864 := Nat.le_trans (Nat.mul_div_le n W) h3
  obtain ⟨H, hH⟩ : ∃ H, n / W = H := ⟨_, rfl⟩
  have hbH : H ≤ 67108864 := by rw [← hH]; exact Nat.le_trans (Nat.div_le_self n W) h3
  rw [hH] at he hWH
  obtain ⟨E, hE⟩ : ∃ E, upE fx fy wide high W H = E := ⟨_, rfl⟩
  have he' : ¬ E = 0 := by rw [← hE]; exact he
  have HE := Lib.hid hE; clear hE
  have HH := Lib.hid hH; clear hH
  have HHE := Lib.hid he; clear he
  have HWH := Lib.hid hWH; clear hWH
  go_enter Try.func8, Try.ntmps8
  go_wp2_with fail
  refine (made_yes W A n c zs _ hnc hc (hsl.alloc _) h1 h2 h3).mono ?_
  rintro e w1 ⟨r, p, g, cp, rfl, hr1, hp1, k1, k2, k3, k4, k5, b1⟩
  simp only [HH.out] at hr1 hp1
  generalize zs.take (W * H) = ys at *
  go_wp2_with fail
  refine (rsm_no r A W H c _ fx fy wide high _ hr1 (by omega) hbH HHE.out).mono ?_
  rintro e w' ⟨rfl, n1, rfl⟩
  rw [HE.out]
  go_wp2_with fail
  have hp2 := hp1.drewN n1
  refine (sm_no p g W H cp _ fx fy wide high _ hp2 HHE.out).mono ?_
  rintro e w' ⟨rfl, n2, rfl⟩
  rw [HE.out]
  go_wp2_with fail
  refine (sm_no p g W H cp _ fx fy wide high _ (hp1.drewN _) HHE.out).mono ?_
  rintro e w' ⟨rfl, n3, rfl⟩
  rw [HE.out]
  go_wp2_with fail
  refine (is_any p g W H cp _ r A W H c _ _ (hp1.drewN _) (hr1.drewN _) HWH.out).mono ?_
  rintro e w2 ⟨rfl, b2⟩
  simp only [isB_self]
  go_wp2_with fail
  go_ret
  exact ⟨rfl, below_then (below_drewN (below_then ((Below.refl _ _).alloc (Nat.le_refl _) _) b1) _) b2⟩

/-- a float slice is kept where another block grows -/
theorem Sl.grown {w w' : World} {g n : Nat} {xs : List Value} {row : Option Nat} (h : Sl w (some ⟨g, 0, none⟩) n xs) (hg : w.grownBy w' row) (h2 : some g ≠ row) : Sl w' (some ⟨g, 0, none⟩) n xs := by
  refine ⟨h.1, fun h0 => ⟨g, 0, rfl, fun j hj => ?_⟩⟩
  have h3 := Sl.cells h h0 j hj
  have h4 : j < xs.length := by rw [h.1]; exact hj
  rw [List.getElem?_eq_getElem h4] at h3
  have h5 := World.block_lt_of_cell? w _ h3
  have e : w'.cell? ⟨g, 0 + j, none⟩ = w.cell? ⟨g, 0 + j, none⟩ := by
    have := hg.block g h5 h2
    unfold World.cell?
    rw [this]
  rw [e, h3, List.getElem?_eq_getElem h4]
theorem smV_fin {zs : List Int} (hz : Bytes zs) (W H : Nat) {fx fy : Nat} (x y : Nat) (e1 : 1 ≤ fx) (e2 : fx ≤ 4) (e3 : 1 ≤ fy) (e4 : fy ≤ 4) : Flo.Fin (smV zs W H fx fy x y) := by
  obtain ⟨u, v, a, b, c, d⟩ := four_ok (lo := 0) (hi := 255) (s := Flo.wayS x fx) (t := Flo.wayS y fy) (by omega) (by omega) (hz.near W H (Flo.wayI x fx) (Flo.wayI y fy)) (hz.near W H (Flo.wayI x fx + 1) (Flo.wayI y fy)) (hz.near W H (Flo.wayI x fx) (Flo.wayI y fy + 1)) (hz.near W H (Flo.wayI x fx + 1) (Flo.wayI y fy + 1)) (Flo.wayS_ok e1 e2).2 (Flo.wayS_ok e3 e4).2
  exact d.fin
theorem smp_flt (l : List Nat) (W : Nat) (x y : Nat) (h : y * W + x < l.length) : smp (l.map (.float .f32)) W (x : Int) (y : Int) = .float .f32 (l.getD (y * W + x) 0) := by
  unfold smp
  simp only [Int.toNat_natCast]
  rw [List.getD_eq_getElem?_getD, List.getElem?_map, List.getElem?_eq_getElem h, List.getD_eq_getElem?_getD, List.getElem?_eq_getElem h]
  rfl
theorem Sl.flt {w : World} {g n : Nat} {l : List Nat} (h : Sl w (some ⟨g, 0, none⟩) n (l.map (.float .f32))) {k : Nat} (hk : k < n) : w.cell? ⟨g, k, none⟩ = some (.float .f32 (l.getD k 0)) := by
  have h1 := Sl.cells h (by omega) k hk
  have h2 : k < l.length := by have := h.1; simp at this; omega
  rw [Nat.zero_add, List.getElem?_map, List.getElem?_eq_getElem h2] at h1
  rw [h1, List.getD_eq_getElem?_getD, List.getElem?_eq_getElem h2]
  rfl

set_option maxRecDepth 100000 in
set_option maxHeartbeats 8000000 in
theorem lawSm_yes (W : Nat) (A : Option Addr) (n c : Nat) (zs : List Int) (fx fy wide high : Nat) (w : World) (hnc : n ≤ c) (hc : c ≤ maxLen) (hsl : Sl w A n (zs.map (.int .u8))) (hz : Bytes zs) (h1 : 1 ≤ W) (h2 : W ≤ n) (h3 : n ≤ 67108864)
    (he : upE fx fy wide high W (n / W) = 0) (e1 : 1 ≤ fx) (e2 : fx ≤ 4) (e3 : 1 ≤ fy) (e4 : fy ≤ 4) (e5 : 1 ≤ wide) (e6 : 1 ≤ high) (e7 : wide * high ≤ 67108864) :
    Calls Try.prog 8 #[.agg #[.int .i64 W, .slice A n c], .int .i64 fx, .int .i64 fy, .int .i64 wide, .int .i64 high] w (TrueB w) := by
  have hWH : W * (n / W) ≤ 67108864 := Nat.le_trans (Nat.mul_div_le n W) h3
  obtain ⟨H, hH⟩ : ∃ H, n / W = H := ⟨_, rfl⟩
  have hH1 : 1 ≤ H := by rw [← hH]; exact (Nat.le_div_iff_mul_le (by omega)).2 (by omega)
  rw [hH] at he hWH
  have bw : wide ≤ 67108864 := by have := Nat.le_mul_of_pos_right wide (show 0 < high by omega); omega
  have bh : high ≤ 67108864 := by have := Nat.le_mul_of_pos_left high (show 0 < wide by omega); omega
  obtain ⟨N, hN⟩ : ∃ N, wide * high = N := ⟨_, rfl⟩
  have hN' : high * wide = N := by rw [Nat.mul_comm]; exact hN
  have hN1 : 1 ≤ N := by rw [← hN]; exact Nat.mul_le_mul e5 e6
  rw [hN] at e7
  have HN := Lib.hid hN; clear hN
  have HN' := Lib.hid hN'; clear hN'
  have hzt := hz.take (W * H)
  have HZT := Lib.hid hzt; clear hzt
  have HE := Lib.hid he; clear he
  have HH := Lib.hid hH; clear hH
  have HWH := Lib.hid hWH; clear hWH
  go_enter Try.func8, Try.ntmps8
  go_wp2_with fail
  refine (made_yes W A n c zs _ hnc hc (hsl.alloc _) h1 h2 h3).mono ?_
  rintro e w1 ⟨r, p, g, cp, rfl, hr1, hp1, k1, k2, k3, k4, k5, b1⟩
  simp only [HH.out] at hr1 hp1
  generalize zs.take (W * H) = ys at *
  have hfin : ∀ k, k < N → Flo.Fin ((gridL wide (smV ys W H fx fy) N).getD k 0) := by
    intro k hk
    rw [List.getD_eq_getElem?_getD, List.getElem?_eq_getElem (by rw [gridL_length]; exact hk)]
    unfold gridL
    simp only [List.getElem_map, Option.getD_some]
    exact smV_fin HZT.out W H _ _ e1 e2 e3 e4
  obtain ⟨l, hl⟩ : ∃ l, gridL wide (smV ys W H fx fy) N = l := ⟨_, rfl⟩
  have hll : l.length = N := by rw [← hl, gridL_length]
  rw [hl] at hfin
  have HL := Lib.hid hl; clear hl
  have HFIN := Lib.hid hfin; clear hfin
  go_wp2_with fail
  refine (rsm_yes r A W H c _ fx fy wide high _ hr1 h1 hH1 HWH.out HZT.out HE.out).mono ?_
  rintro e w2 ⟨gq, cq, rfl, hq2, m1, m2, q1, q2, b2⟩
  simp only [HN'.out, HL.out] at hq2 q1 ⊢
  have hp2 := hp1.below b2
  have hr2 := hr1.below b2
  have s2 := b2.size
  go_wp2_with fail
  refine (sm_yes p g W H cp _ fx fy wide high _ hp2 HZT.out HE.out).mono ?_
  rintro e w3 ⟨pa, ga, ca, rfl, ha3, m3, m4, b3⟩
  simp only [HN'.out, HL.out] at ha3
  have hp3 := hp2.below b3
  have hr3 := hr2.below b3
  have hq3 := hq2.below b3
  have s3 := b3.size
  have l3 := ha3.blt
  have l4 := ha3.glt
  go_wp2_with fail
  refine (sm_yes p g W H cp _ fx fy wide high _ hp3 HZT.out HE.out).mono ?_
  rintro e w4 ⟨pb, gb, cb, rfl, hb4, m5, m6, b4⟩
  simp only [HN'.out, HL.out] at hb4
  have hp4 := hp3.below b4
  have hr4 := hr3.below b4
  have hq4 := hq3.below b4
  have ha4 := ha3.below b4
  have s4 := b4.size
  go_wp2_with fail
  refine (is_any p g W H cp _ r A W H c _ _ hp4 hr4 HWH.out).mono ?_
  rintro e w5 ⟨rfl, b5⟩
  simp only [isB_self]
  have hp5 := hp4.below b5
  have hr5 := hr4.below b5
  have hq5 := hq4.below b5
  have ha5 := ha4.below b5
  have hb5 := hb4.below b5
  go_wp2_with fail
  refine (PF.size_any pa ga wide high ca _ _ ha5).mono ?_
  rintro e w' ⟨rfl, n1, rfl⟩
  go_wp2_with fail
  refine (PF.pix_any pa ga wide high ca _ _ (ha5.drewN _) (flts_oneCell _)).mono ?_
  rintro e w6 ⟨v, rfl, ⟨gl, cl, curl, rfl, i1, i2, i3, i4, i5, i6⟩, b6⟩
  have sl6 : Sl w6 (some ⟨gl, 0, none⟩) (wide * high) (l.map (.float .f32)) := Sl.of_blk i1 i3 (by omega)
  simp only [HN.out] at sl6 i4 ⊢
  have b6' : Below w5.heap.size w5 w6 := ⟨b6.os, b6.tape, b6.output, b6.size, b6.block⟩
  have hp6 := hp5.below b6'
  have hr6 := hr5.below b6'
  have hq6 := hq5.below b6'
  have ha6 := ha5.below b6'
  have hb6 := hb5.below b6'
  have s5 := b5.size
  have s6 := b6'.size
  go_wp2_with fail
  go_loopw [22] (fun i wr => ∃ k m : Nat, k ≤ N ∧ i = .int .i64 k ∧ wr = w6.drewN m) (fun i _ => N - (intOf i).toNat)
  case atStart => exact ⟨0, 0, Nat.zero_le _, rfl, rfl⟩
  case round =>
    obtain ⟨k, m, hk, rfl, rfl⟩ := hrel
    by_cases hkl : k < N
    · have d1 : (w6.drewN m).cell? ⟨gl, k, none⟩ = some (.float .f32 (l.getD k 0)) := Sl.flt (sl6.drewN m) hkl
      have d2 : (w6.drewN m).cell? ⟨gq, k, none⟩ = some (.float .f32 (l.getD k 0)) := Sl.flt (hq6.drewN m) hkl
      have ho : FloatKind.f32.format.order (l.getD k 0) (l.getD k 0) = some .eq := Flo.order_self (HFIN.out k hkl)
      obtain ⟨z, hz'⟩ : ∃ z, l.getD k 0 = z := ⟨_, rfl⟩
      rw [hz'] at d1 d2 ho
      clear hz'
      go_upto_region 18 with fail
      refine Lex3.wp_region_lex [] (fun u' => u'.cell? ⟨gl, k, none⟩ = some (.float .f32 z) ∧ u'.cell? ⟨gq, k, none⟩ = some (.float .f32 z)) (fun u n h => h) ⟨d1, d2⟩ (by kernel_rfl) (by kernel_rfl) ?_
      refine Lex3.run_free (v := ?_) (by rfl) (by rfl) (fun u => ?_) ?_; rotate_left; (go_simp; try with_reducible rfl); simp only [Act.put, List.setIfInBounds_toArray, List.set_cons_zero, List.set_cons_succ]
      refine Lex3.run_free (v := ?_) (by rfl) (by rfl) (fun u => ?_) ?_; rotate_left; (go_simp; try with_reducible rfl); simp only [Act.put, List.setIfInBounds_toArray, List.set_cons_zero, List.set_cons_succ]
      refine Lex3.run_free (v := ?_) (by rfl) (by rfl) (fun u => ?_) ?_; rotate_left; (go_simp; try with_reducible rfl); simp only [Act.put, List.setIfInBounds_toArray, List.set_cons_zero, List.set_cons_succ]
      refine Lex3.run_load (v := ?_) (by rfl) (by rfl) (fun u hu => ?_) ?_; rotate_left; (obtain ⟨hu0, hu1⟩ := hu; go_simp; try with_reducible rfl); simp only [Act.put, List.setIfInBounds_toArray, List.set_cons_zero, List.set_cons_succ]
      refine Lex3.run_free (v := ?_) (by rfl) (by rfl) (fun u => ?_) ?_; rotate_left; (go_simp; try with_reducible rfl); simp only [Act.put, List.setIfInBounds_toArray, List.set_cons_zero, List.set_cons_succ]
      refine Lex3.run_free (v := ?_) (by rfl) (by rfl) (fun u => ?_) ?_; rotate_left; (go_simp; try with_reducible rfl); simp only [Act.put, List.setIfInBounds_toArray, List.set_cons_zero, List.set_cons_succ]
      refine Lex3.run_free (v := ?_) (by rfl) (by rfl) (fun u => ?_) ?_; rotate_left; (go_simp; try with_reducible rfl); simp only [Act.put, List.setIfInBounds_toArray, List.set_cons_zero, List.set_cons_succ]
      refine Lex3.run_load (v := ?_) (by rfl) (by rfl) (fun u hu => ?_) ?_; rotate_left; (obtain ⟨hu0, hu1⟩ := hu; go_simp; try with_reducible rfl); simp only [Act.put, List.setIfInBounds_toArray, List.set_cons_zero, List.set_cons_succ]
      refine Lex3.run_free (v := ?_) (by rfl) (by rfl) (fun u => ?_) ?_; rotate_left; (go_simp; try with_reducible rfl); simp only [Act.put, List.setIfInBounds_toArray, List.set_cons_zero, List.set_cons_succ]
      refine Lex3.run_nil (fun n3 => ?_)
      go_wp2_with fail
      go_roundw
      case rel => exact ⟨k + 1, m + 1 + n3, by omega, by go_num, by simp [Nat.add_assoc]⟩
      case measure => simp [intOf]; omega
    · have hkn : k = N := by omega
      clear hk hkl
      subst hkn
      have ho : FloatKind.f32.format.order (l.getD 0 0) (l.getD 0 0) = some .eq := Flo.order_self (HFIN.out 0 (by omega))
      go_wp2_with fail
      refine (PF.set_in pa ga wide high ca _ ((0 : Nat) : Int) ((0 : Nat) : Int) _ _ (ha6.drewN m) (by omega) (by omega) (by omega) (by omega)).mono ?_
      rintro e w7 ⟨rfl, ha7, hg7⟩
      have hg7' : w6.grownBy w7 (some ga) := ⟨hg7.os, hg7.tape, hg7.output, hg7.size, hg7.block⟩
      have hb7 := hb6.grown hg7' (by simp; omega) (by simp; omega)
      have hq7 := Sl.grown hq6 hg7' (by simp; omega)
      have c16 : Below w1.heap.size w1 w6 := below_then (below_then (below_then (below_then b2 b3) b4) b5) b6'
      have c17 := c16.grown hg7' c16.size (fun k hk => by injection hk with hk; omega)
      have hp7 := hp1.below c17
      have hr7 := hr1.below c17
      have d2 : w7.cell? ⟨gq, 0, none⟩ = some (.float .f32 (l.getD 0 0)) := Sl.flt hq7 (by omega)
      have hv := smp_flt l wide 0 0 (by rw [Nat.zero_mul, hll]; omega)
      rw [Nat.zero_mul, Nat.zero_add] at hv
      obtain ⟨z, hz'⟩ : ∃ z, l.getD 0 0 = z := ⟨_, rfl⟩
      rw [hz'] at d2 ho hv
      have HV := Lib.hid hv; clear hv
      clear hz'
      go_wp2_with fail
      refine (PF.at_in pb gb wide high cb _ ((0 : Nat) : Int) ((0 : Nat) : Int) _ hb7 (by omega) (by omega) (by omega) (by omega)).mono ?_
      rintro e w' ⟨hee, n8, rfl⟩
      rw [HV.out] at hee
      subst hee
      go_wp2_with fail
      refine (is_any p g W H cp _ r A W H c _ _ (hp7.drewN _) (hr7.drewN _) HWH.out).mono ?_
      rintro e w9 ⟨rfl, b9⟩
      simp only [isB_self]
      go_wp2_with fail
      go_ret
      exact ⟨rfl, below_then (below_drewN (below_then (below_then ((Below.refl _ _).alloc (Nat.le_refl _) _) b1) c17) _) b9⟩
end Go.Proofs.Ytlbocfinjlkebaa.Samp
