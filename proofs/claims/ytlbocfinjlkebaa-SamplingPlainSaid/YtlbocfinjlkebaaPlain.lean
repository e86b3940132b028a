/- SamplingPlain: by factors of 1 all three are the plane, and planes of their own: the walk. -/
import Derived.Test.YtlbocfinjlkebaaFloZ
import Derived.Test.YtlbocfinjlkebaaBack
import Derived.Test.YtlbocfinjlkebaaPlaneP8g
namespace Go.Proofs.Ytlbocfinjlkebaa.Samp
open Go.RowKit

theorem smV_one {zs : List Int} (hz : Bytes zs) {W H x y : Nat} (hx : x < W) (hy : y < H) : Flo.V (smV zs W H 1 1 x y) = zs.getD (y * W + x) 0 * (Flo.P 0 : Int) := by
  have r : ∀ x, Flo.wayR x 1 = 0 := fun x => by unfold Flo.wayR; omega
  have i : ∀ x, Flo.wayI x 1 = x := fun x => by unfold Flo.wayI; omega
  rw [smV_mid hz (by omega) (by omega) (by omega) (by omega) (r x) (r y), i, i, near_in hx hy]
theorem sm_one {zs : List Int} (hz : Bytes zs) {W H k : Nat} (hk : k < H * W) :
    Flo.Fin ((gridL W (smV zs W H 1 1) (H * W)).getD k 0) ∧ Flo.V ((gridL W (smV zs W H 1 1) (H * W)).getD k 0) = zs.getD k 0 * (Flo.P 0 : Int) := by
  have hW : 0 < W := Nat.pos_of_ne_zero (fun h0 => by rw [h0, Nat.mul_zero] at hk; omega)
  have e : k / W * W + k % W = k := by rw [Nat.mul_comm]; exact Nat.div_add_mod k W
  have e1 : (gridL W (smV zs W H 1 1) (H * W)).getD k 0 = smV zs W H 1 1 (k % W) (k / W) := by
    rw [List.getD_eq_getElem?_getD]
    unfold gridL
    rw [List.getElem?_map, List.getElem?_range hk]
    rfl
  rw [e1]
  refine ⟨smV_fin hz W H _ _ (by omega) (by omega) (by omega) (by omega), ?_⟩
  rw [smV_one hz (Nat.mod_lt _ hW) (Nat.div_lt_of_lt_mul (by rw [Nat.mul_comm]; exact hk)), e]
/-- the beginning of each row -/
theorem cut_up {zs : List Int} {W H wide high : Nat} (hl : zs.length = W * H) (h1 : 1 ≤ wide) (h2 : wide ≤ W) (h3 : high ≤ H) :
    P8.rowsL W 0 0 wide (zs.map (.int .u8)) high = (gridL wide (upV zs W 1 1) (high * wide)).map (.int .u8) := by
  have hfit : ∀ j, j < high → (0 + j) * W + 0 + wide ≤ (zs.map (Value.int .u8)).length := by
    intro j hj
    rw [List.length_map, hl, Nat.mul_comm W H, Nat.zero_add, Nat.add_zero]
    have : (j + 1) * W ≤ H * W := Nat.mul_le_mul_right W (by omega)
    rw [Nat.add_mul, Nat.one_mul] at this
    omega
  have hlen := P8.rowsL_length high hfit
  apply List.ext_getElem?
  intro k
  by_cases hk : k < high * wide
  · have e : k / wide * wide + k % wide = k := by rw [Nat.mul_comm]; exact Nat.div_add_mod k wide
    have r1 : k % wide < wide := Nat.mod_lt _ (by omega)
    have r2 : k / wide < high := Nat.div_lt_of_lt_mul (by rw [Nat.mul_comm]; exact hk)
    have h4 := P8.rowsL_get high hfit _ _ r2 r1
    rw [e] at h4
    rw [h4]
    unfold gridL
    rw [List.getElem?_map, List.getElem?_map, List.getElem?_map, List.getElem?_range hk]
    have hb : k / wide * W + k % wide < zs.length := by
      have := hfit _ r2
      rw [List.length_map, Nat.zero_add, Nat.add_zero] at this
      omega
    rw [Nat.zero_add, Nat.add_zero, List.getElem?_eq_getElem hb]
    simp only [Option.map_some]
    congr 2
    unfold upV
    rw [Nat.div_one, Nat.div_one, List.getD_eq_getElem?_getD, List.getElem?_eq_getElem hb]
    rfl
  · rw [List.getElem?_eq_none (by omega), List.getElem?_eq_none (by rw [List.length_map, gridL_length]; omega)]
theorem Sl.byt {w : World} {g n : Nat} {l : List Int} (h : Sl w (some ⟨g, 0, none⟩) n (l.map (.int .u8))) {k : Nat} (hk : k < n) : w.cell? ⟨g, k, none⟩ = some (.int .u8 (l.getD k 0)) := by
  have h1 := Sl.cells h (by omega) k hk
  have h2 : k < l.length := by have := h.1; simp at this; omega
  rw [Nat.zero_add, List.getElem?_map, List.getElem?_eq_getElem h2] at h1
  rw [h1, List.getD_eq_getElem?_getD, List.getElem?_eq_getElem h2]
  rfl

set_option maxRecDepth 100000 in
set_option maxHeartbeats 4000000 in
theorem lawPlain_none (wd : Int) (A : Option Addr) (n c : Nat) (x y : Int) (w : World) (hn : n ≤ maxLen) (hs : shaped wd n = false) :
    Calls Try.prog 15 #[.agg #[.int .i64 wd, .slice A n c], .int .i64 x, .int .i64 y] w (TrueB w) := by
  have bx := Blk.new w 30 #[.int .i64 wd, .slice A n c]
  go_enter Try.func15, Try.ntmps15
  go_wp2_with fail
  refine (alive_any _).mono ?_
  rintro e w1 ⟨rfl, b1⟩
  have bx1 := bx.kept b1
  have x0 : w1.cell? ⟨w.heap.size, 0, none⟩ = some (.int .i64 wd) := by rw [bx1.cell]; rfl
  have x1 : w1.cell? ⟨w.heap.size, 1, none⟩ = some (.slice A n c) := by rw [bx1.cell]; rfl
  have a1 : Below w.heap.size w w1 := below_then ((Below.refl _ _).alloc (Nat.le_refl _) _) b1
  go_wp2_with fail
  refine (whole_no wd A n c _ hn hs).mono ?_
  rintro e w2 ⟨rfl, b2⟩
  go_wp2_with fail
  go_ret
  exact ⟨rfl, below_then a1 b2⟩

theorem upE_one {wide high : Int} {W H : Nat} (h : wide < 1 ∨ (W : Int) < wide ∨ high < 1 ∨ (H : Int) < high) : upE 1 1 wide high W H = 120 := by
  unfold upE
  rw [if_neg (by omega), if_pos]
  rw [Int.one_mul, Int.one_mul]
  rcases h with h | h | h | h
  · exact .inl h
  · exact .inr (.inr (.inl h))
  · exact .inr (.inl h)
  · exact .inr (.inr (.inr (.inl h)))
theorem upE_fit {wide high : Nat} {W H : Nat} (h1 : 1 ≤ wide) (h2 : wide ≤ W) (h3 : 1 ≤ high) (h4 : high ≤ H) (h5 : W * H ≤ 67108864) : upE 1 1 wide high W H = 0 := by
  have h6 : wide * high ≤ W * H := Nat.mul_le_mul h2 h4
  unfold upE
  rw [if_neg (by omega), if_neg]
  rw [← Int.natCast_mul]
  omega

set_option maxRecDepth 100000 in
set_option maxHeartbeats 8000000 in
theorem lawPlain_some (W : Nat) (A : Option Addr) (n c : Nat) (zs : List Int) (wide high : Int) (w : World) (hnc : n ≤ c) (hc : c ≤ maxLen) (hsl : Sl w A n (zs.map (.int .u8))) (hz : Bytes zs) (h1 : 1 ≤ W) (h2 : W ≤ n) (h3 : n ≤ 67108864) :
    Calls Try.prog 15 #[.agg #[.int .i64 W, .slice A n c], .int .i64 wide, .int .i64 high] w (TrueB w) := by
  have hWH : W * (n / W) ≤ 67108864 := Nat.le_trans (Nat.mul_div_le n W) h3
  obtain ⟨H, hH⟩ : ∃ H, n / W = H := ⟨_, rfl⟩
  have hH1 : 1 ≤ H := by rw [← hH]; exact (Nat.le_div_iff_mul_le (by omega)).2 (by omega)
  have hbH : H ≤ 67108864 := by rw [← hH]; exact Nat.le_trans (Nat.div_le_self n W) h3
  rw [hH] at hWH
  have he0 := upE_fit (wide := W) (high := H) h1 (Nat.le_refl _) hH1 (Nat.le_refl _) hWH
  obtain ⟨N, hN⟩ : ∃ N, W * H = N := ⟨_, rfl⟩
  have hN' : H * W = N := by rw [Nat.mul_comm]; exact hN
  have hN1 : 1 ≤ N := by rw [← hN]; exact Nat.mul_le_mul h1 hH1
  have HWH := Lib.hid hWH
  rw [hN] at hWH
  have HE0 := Lib.hid he0; clear he0
  have HN := Lib.hid hN; clear hN
  have HN' := Lib.hid hN'; clear hN'
  have HH := Lib.hid hH; clear hH
  have HZT := Lib.hid (hz.take (W * H))
  have bx := Blk.new w 30 #[.int .i64 W, .slice A n c]
  go_enter Try.func15, Try.ntmps15
  go_wp2_with fail
  refine (alive_any _).mono ?_
  rintro e w1 ⟨rfl, b1⟩
  have bx1 := bx.kept b1
  have x0 : w1.cell? ⟨w.heap.size, 0, none⟩ = some (.int .i64 W) := by rw [bx1.cell]; rfl
  have x1 : w1.cell? ⟨w.heap.size, 1, none⟩ = some (.slice A n c) := by rw [bx1.cell]; rfl
  have a1 : Below w.heap.size w w1 := below_then ((Below.refl _ _).alloc (Nat.le_refl _) _) b1
  have hsl1 := (hsl.alloc (.cells #[.int .i64 W, .slice A n c] 30)).below b1
  go_wp2_with fail
  refine (whole_yes W A n c zs _ hnc hc hsl1 h1 h2 h3).mono ?_
  rintro e w2 ⟨p, g, cp, rfl, hp2, k1, k2, b2⟩
  simp only [HH.out] at hp2 ⊢
  generalize zs.take (W * H) = ys at *
  have hyl : ys.length = W * H := by simpa using hp2.len
  have a2 := below_then a1 b2
  have l1 := hp2.blt
  have l2 := hp2.glt
  have hup := up_one hyl
  have hdn := dn_one hyl
  have dw := dnS_one W
  have dh := dnS_one H
  have hsm : ∀ k, k < H * W → _ := fun k hk => sm_one (H := H) HZT.out hk
  obtain ⟨l, hll⟩ : ∃ l, gridL W (smV ys W H 1 1) (H * W) = l := ⟨_, rfl⟩
  rw [hll, HN'.out] at hsm
  have llen : l.length = N := by rw [← hll, gridL_length, HN'.out]
  have HSM := Lib.hid hsm; clear hsm
  have HUP := Lib.hid hup; clear hup
  have HDN := Lib.hid hdn; clear hdn
  have HDW := Lib.hid dw; clear dw
  have HDH := Lib.hid dh; clear dh
  have HLL := Lib.hid hll; clear hll
  have HYL := Lib.hid hyl; clear hyl
  go_wp2_with fail
  refine (up_yes p g W H cp ys 1 1 W H _ hp2 HE0.out).mono ?_
  rintro e w3 ⟨pa, ga, ca, rfl, ha3, m1, m2, b3⟩
  rw [HUP.out] at ha3
  have hp3 := hp2.below b3
  have s3 := b3.size
  have l3 := ha3.blt
  have l4 := ha3.glt
  go_wp2_with fail
  refine (dn_yes p g W H cp ys 1 1 _ hp3 HZT.out (by omega) (by omega) (by omega) (by omega)).mono ?_
  rintro e w4 ⟨pb, gb, cb, rfl, hb4, m3, m4, b4⟩
  simp only [HDW.out, HDH.out, HDN.out] at hb4
  have hp4 := hp3.below b4
  have ha4 := ha3.below b4
  have s4 := b4.size
  have l5 := hb4.blt
  have l6 := hb4.glt
  go_wp2_with fail
  refine (sm_yes p g W H cp ys 1 1 W H _ hp4 HZT.out HE0.out).mono ?_
  rintro e w5 ⟨pc, gc, cc, rfl, hc5, m5, m6, b5⟩
  rw [HLL.out] at hc5
  have hp5 := hp4.below b5
  have ha5 := ha4.below b5
  have hb5 := hb4.below b5
  have s5 := b5.size
  go_wp2_with fail
  refine (P8.same_any pa ga W H ca p g W H cp ys ys _ ha5 hp5).mono ?_
  rintro e w' ⟨rfl, n1, rfl⟩
  rw [sameB_self]
  go_wp2_with fail
  refine (P8.same_any pb gb W H cb p g W H cp ys ys _ (hb5.drewN _) (hp5.drewN _)).mono ?_
  rintro e w' ⟨rfl, n2, rfl⟩
  rw [sameB_self]
  go_wp2_with fail
  refine (PF.pix_any pc gc W H cc _ _ (hc5.drewN _) (flts_oneCell _)).mono ?_
  rintro e w6 ⟨v, rfl, ⟨gl, cl, curl, rfl, i1, i2, i3, i4, i5, i6⟩, b6⟩
  have sl6 : Sl w6 (some ⟨gl, 0, none⟩) (W * H) (l.map (.float .f32)) := Sl.of_blk i1 i3 (by omega)
  have b6' : Below w5.heap.size w5 w6 := ⟨b6.os, b6.tape, b6.output, b6.size, b6.block⟩
  have hp6 := hp5.below b6'
  have ha6 := ha5.below b6'
  have hb6 := hb5.below b6'
  have s6 := b6'.size
  go_wp2_with fail
  refine (P8.pix_any p g W H cp _ _ hp6 (ints_oneCell .u8 ys)).mono ?_
  rintro e w7 ⟨v, rfl, ⟨gp, cq, curp, rfl, j1, j2, j3, j4, j5, j6⟩, b7⟩
  have sl7 := sl6.below b7
  have sp7 : Sl w7 (some ⟨gp, 0, none⟩) (W * H) (ys.map (.int .u8)) := Sl.of_blk j1 j3 (by omega)
  simp only [HN.out] at sl7 sp7 i4 j4 ⊢
  have hp7 := hp6.below b7
  have ha7 := ha6.below b7
  have hb7 := hb6.below b7
  have s7 := b7.size
  have a7 : Below w.heap.size w w7 := below_then (below_then (below_then (below_then (below_then a2 b3) b4) b5) b6') b7
  go_wp2_with fail
  go_loopw [19] (fun i wr => ∃ k m : Nat, k ≤ N ∧ i = .int .i64 k ∧ wr = w7.drewN m) (fun i _ => N - (intOf i).toNat)
  case atStart => exact ⟨0, 0, Nat.zero_le _, rfl, rfl⟩
  case round =>
    obtain ⟨k, m, hk, rfl, rfl⟩ := hrel
    by_cases hkl : k < N
    · have d1 : (w7.drewN m).cell? ⟨gl, k, none⟩ = some (.float .f32 (l.getD k 0)) := Sl.flt (sl7.drewN m) hkl
      have d2 : (w7.drewN m).cell? ⟨gp, k, none⟩ = some (.int .u8 (ys.getD k 0)) := Sl.byt (sp7.drewN m) hkl
      obtain ⟨q1, q2⟩ := HSM.out k hkl
      have q3 := HZT.out.getD k
      obtain ⟨q4, q5⟩ := Flo.int_fin (ys.getD k 0) (by omega)
      have ho : FloatKind.f32.format.order (l.getD k 0) (floatOfInt .f32 (ys.getD k 0)) = some .eq := order_eq q1 q4 (by rw [q2, q5])
      clear q1 q2 q4 q5
      obtain ⟨z, hz'⟩ : ∃ z, l.getD k 0 = z := ⟨_, rfl⟩
      obtain ⟨v, hv'⟩ : ∃ v, ys.getD k 0 = v := ⟨_, rfl⟩
      rw [hz'] at d1 ho
      rw [hv'] at d2 ho q3
      clear hz' hv'
      go_upto_region 17 with fail
      refine Lex3.wp_region_lex [] (fun u' => u'.cell? ⟨gl, k, none⟩ = some (.float .f32 z) ∧ u'.cell? ⟨gp, k, none⟩ = some (.int .u8 v)) (fun u n h => h) ⟨d1, d2⟩ (by kernel_rfl) (by kernel_rfl) ?_
      refine Lex3.run_free (v := ?_) (by rfl) (by rfl) (fun u => ?_) ?_; rotate_left; (go_simp; try with_reducible rfl); simp only [Act.put, List.setIfInBounds_toArray, List.set_cons_zero, List.set_cons_succ]
      refine Lex3.run_free (v := ?_) (by rfl) (by rfl) (fun u => ?_) ?_; rotate_left; (go_simp; try with_reducible rfl); simp only [Act.put, List.setIfInBounds_toArray, List.set_cons_zero, List.set_cons_succ]
      refine Lex3.run_free (v := ?_) (by rfl) (by rfl) (fun u => ?_) ?_; rotate_left; (go_simp; try with_reducible rfl); simp only [Act.put, List.setIfInBounds_toArray, List.set_cons_zero, List.set_cons_succ]
      refine Lex3.run_load (v := ?_) (by rfl) (by rfl) (fun u hu => ?_) ?_; rotate_left; (obtain ⟨hu0, hu1⟩ := hu; go_simp; try with_reducible rfl); simp only [Act.put, List.setIfInBounds_toArray, List.set_cons_zero, List.set_cons_succ]
      refine Lex3.run_free (v := ?_) (by rfl) (by rfl) (fun u => ?_) ?_; rotate_left; (go_simp; try with_reducible rfl); simp only [Act.put, List.setIfInBounds_toArray, List.set_cons_zero, List.set_cons_succ]
      refine Lex3.run_free (v := ?_) (by rfl) (by rfl) (fun u => ?_) ?_; rotate_left; (go_simp; try with_reducible rfl); simp only [Act.put, List.setIfInBounds_toArray, List.set_cons_zero, List.set_cons_succ]
      refine Lex3.run_free (v := ?_) (by rfl) (by rfl) (fun u => ?_) ?_; rotate_left; (go_simp; try with_reducible rfl); simp only [Act.put, List.setIfInBounds_toArray, List.set_cons_zero, List.set_cons_succ]
      refine Lex3.run_load (v := ?_) (by rfl) (by rfl) (fun u hu => ?_) ?_; rotate_left; (obtain ⟨hu0, hu1⟩ := hu; go_simp; try with_reducible rfl); simp only [Act.put, List.setIfInBounds_toArray, List.set_cons_zero, List.set_cons_succ]
      refine Lex3.run_free (v := ?_) (by rfl) (by rfl) (fun u => ?_) ?_; rotate_left; (go_simp; try with_reducible rfl); simp only [Act.put, List.setIfInBounds_toArray, List.set_cons_zero, List.set_cons_succ]
      refine Lex3.run_free (v := ?_) (by rfl) (by rfl) (fun u => ?_) ?_; rotate_left; (go_simp; try with_reducible rfl); simp only [Act.put, List.setIfInBounds_toArray, List.set_cons_zero, List.set_cons_succ]

      refine Lex3.run_nil (fun n3 => ?_)
      go_wp2_with fail
      go_roundw
      case rel => exact ⟨k + 1, m + 1 + n3, by omega, by go_num, by simp [Nat.add_assoc]⟩
      case measure => simp [intOf]; omega
    · have hkn : k = N := by omega
      clear hk hkl
      subst hkn
      have hbz := HZT.out.getD 0
      have hv := smp_map ys W 0 0 (by rw [HYL.out, HN.out]; omega)
      obtain ⟨v0, hv0⟩ : ∃ v, ys.getD (0 * W + 0) 0 = v := ⟨_, rfl⟩
      rw [hv0] at hv
      rw [Nat.zero_mul, Nat.add_zero] at hv0
      rw [hv0] at hbz
      clear hv0
      have HV := Lib.hid hv; clear hv
      go_wp2_with fail
      refine (P8.at_in p g W H cp _ ((0 : Nat) : Int) ((0 : Nat) : Int) _ (hp7.drewN m) (by omega) (by omega) (by omega) (by omega)).mono ?_
      rintro e w' ⟨hee, n4, rfl⟩
      rw [HV.out] at hee
      subst hee
      go_wp2_with fail
      refine (P8.set_in pa ga W H ca _ ((0 : Nat) : Int) ((0 : Nat) : Int) _ _ (ha7.drewN _) (by omega) (by omega) (by omega) (by omega)).mono ?_
      rintro e w8 ⟨rfl, ha8, hg8⟩
      have hg8' : w7.grownBy w8 (some ga) := ⟨hg8.os, hg8.tape, hg8.output, hg8.size, hg8.block⟩
      have hp8 := hp7.grown hg8' (by simp; omega) (by simp; omega)
      have hb8 := hb7.grown hg8' (by simp; omega) (by simp; omega)
      have a8 := a7.grown hg8' a7.size (fun k hk => by injection hk with hk; have := a2.size; omega)
      go_wp2_with fail
      refine (P8.set_in pb gb W H cb _ ((0 : Nat) : Int) ((0 : Nat) : Int) _ _ hb8 (by omega) (by omega) (by omega) (by omega)).mono ?_
      rintro e w9 ⟨rfl, hb9, hg9⟩
      have hp9 := hp8.grown hg9 (by simp; omega) (by simp; omega)
      have a9 := a8.grown hg9 a8.size (fun k hk => by injection hk with hk; have := a2.size; omega)
      clear hp8 a8
      go_wp2_with fail
      refine (P8.at_in p g W H cp _ ((0 : Nat) : Int) ((0 : Nat) : Int) _ hp9 (by omega) (by omega) (by omega) (by omega)).mono ?_
      rintro e w' ⟨hee, n5, rfl⟩
      rw [HV.out] at hee
      subst hee
      have hp8 := hp9.drewN n5
      have a8 := below_drewN a9 n5
      by_cases t1 : wide < 1
      · have h120 := upE_one (wide := wide) (high := high) (W := W) (H := H) (.inl t1)
        have HE120 := Lib.hid h120
        have HUE := Lib.hid (show upE 1 1 wide high W H ≠ 0 by rw [h120]; decide); clear h120
        go_wp2_with fail
        refine (up_no p g W H cp _ 1 1 wide high _ hp8 HUE.out).mono ?_
        rintro e w' ⟨rfl, n9, rfl⟩
        rw [HE120.out]
        go_wp2_with fail
        go_ret
        exact ⟨rfl, below_drewN a9 _⟩
      by_cases t2 : (W : Int) < wide
      · have h120 := upE_one (wide := wide) (high := high) (W := W) (H := H) (.inr (.inl t2))
        have HE120 := Lib.hid h120
        have HUE := Lib.hid (show upE 1 1 wide high W H ≠ 0 by rw [h120]; decide); clear h120
        go_wp2_with fail
        refine (up_no p g W H cp _ 1 1 wide high _ hp8 HUE.out).mono ?_
        rintro e w' ⟨rfl, n9, rfl⟩
        rw [HE120.out]
        go_wp2_with fail
        go_ret
        exact ⟨rfl, below_drewN a9 _⟩
      by_cases t3 : high < 1
      · have h120 := upE_one (wide := wide) (high := high) (W := W) (H := H) (.inr (.inr (.inl t3)))
        have HE120 := Lib.hid h120
        have HUE := Lib.hid (show upE 1 1 wide high W H ≠ 0 by rw [h120]; decide); clear h120
        go_wp2_with fail
        refine (up_no p g W H cp _ 1 1 wide high _ hp8 HUE.out).mono ?_
        rintro e w' ⟨rfl, n9, rfl⟩
        rw [HE120.out]
        go_wp2_with fail
        go_ret
        exact ⟨rfl, below_drewN a9 _⟩
      by_cases t4 : (H : Int) < high
      · have h120 := upE_one (wide := wide) (high := high) (W := W) (H := H) (.inr (.inr (.inr t4)))
        have HE120 := Lib.hid h120
        have HUE := Lib.hid (show upE 1 1 wide high W H ≠ 0 by rw [h120]; decide); clear h120
        go_wp2_with fail
        refine (up_no p g W H cp _ 1 1 wide high _ hp8 HUE.out).mono ?_
        rintro e w' ⟨rfl, n9, rfl⟩
        rw [HE120.out]
        go_wp2_with fail
        go_ret
        exact ⟨rfl, below_drewN a9 _⟩
      obtain ⟨wd, rfl⟩ := Int.eq_ofNat_of_zero_le (show 0 ≤ wide by omega)
      obtain ⟨hg, rfl⟩ := Int.eq_ofNat_of_zero_le (show 0 ≤ high by omega)
      have hef := upE_fit (wide := wd) (high := hg) (W := W) (H := H) (by omega) (by omega) (by omega) (by omega) HWH.out
      have hcut := cut_up (wide := wd) (high := hg) HYL.out (by omega) (by omega) (by omega)
      have HEF := Lib.hid hef; clear hef
      have HCUT := Lib.hid hcut; clear hcut
      go_wp2_with fail
      refine (up_yes p g W H cp ys 1 1 wd hg _ hp8 HEF.out).mono ?_
      rintro e w10 ⟨pd, gd, cd, rfl, hd10, m7, m8, b10⟩
      have hp10 := hp8.below b10
      go_wp2_with fail
      refine (P8.cut_yes p g W H cp _ 0 0 wd hg _ hp10 (ints_oneCell .u8 ys) (by omega) (by omega) (by omega) (by omega)).mono ?_
      rintro e w11 ⟨pe, ge, ce, rfl, he11, m9, m10, b11⟩
      rw [HCUT.out] at he11
      have hd11 := hd10.below b11
      go_wp2_with fail
      refine (P8.same_any pd gd wd hg cd pe ge wd hg ce _ _ _ hd11 he11).mono ?_
      rintro e w' ⟨rfl, n6, rfl⟩
      rw [sameB_self]
      go_wp2_with fail
      go_ret
      exact ⟨rfl, below_drewN (below_then (below_then a8 b10) b11) _⟩
end Go.Proofs.Ytlbocfinjlkebaa.Samp
