/- The document's planes of ints: Tile, Same, Ends, Of. -/
import Derived.Test.YtlbocfinjlkebaaRa
namespace Go.Proofs.Ytlbocfinjlkebaa.R12
open Go.RowKit Go.Proofs.Ytlbocfinjlkebaa.Byt

set_option maxRecDepth 100000 in
set_option maxHeartbeats 4000000 in
theorem tile_any (b g W H c : Nat) (zs : List Int) (x y : Int) (w : World) (hp : RA w b g W H c zs) :
    Calls Try.prog 115 #[.pointer (some ⟨b, 0, none⟩), .int .i64 x, .int .i64 y] w fun e w' => e = .returned (.agg (tileC (fun j => .int .i64 (nearZ zs W H (tileX x j) (tileY y j))) (.int .i64 0) 64)) ∧ Below w.heap.size w w' := by
  obtain ⟨hzv, hsz⟩ := zero_of_info PI.info64
  obtain ⟨F, hF⟩ : ∃ F : Nat → Value, F = fun j => .int .i64 (nearZ zs W H (tileX x j) (tileY y j)) := ⟨_, rfl⟩
  have h1 : ∀ k, (F k).oneCell' = true := fun k => by rw [hF]; rfl
  have hv0 : ∀ k, F k = .int .i64 (nearZ zs W H (tileX x k) (tileY y k)) := fun k => by rw [hF]
  rw [← hF]
  clear hF
  obtain ⟨X, hX⟩ : ∃ X, IntKind.i64.wrap (8 * x) = X := ⟨_, rfl⟩
  obtain ⟨Y, hY⟩ : ∃ Y, IntKind.i64.wrap (8 * y) = Y := ⟨_, rfl⟩
  have hz0 : tileC (fun _ => (.int .i64 0)) (.int .i64 0) 0 = tileC F (.int .i64 0) 0 := rfl
  rw [hz0] at hzv
  have HTV : ∀ k, F k = .int .i64 (nearZ zs W H (IntKind.i64.wrap (X + ((k % 8 : Nat) : Int))) (IntKind.i64.wrap (Y + ((k / 8 : Nat) : Int)))) := fun k => by
    rw [hv0]
    unfold tileX tileY
    rw [hX, hY]
  have htv := Lib.hid HTV; clear HTV
  obtain ⟨C0, hC0⟩ : ∃ C0, tileC F (.int .i64 0) 0 = C0 := ⟨_, rfl⟩
  rw [hC0] at hzv
  have HC0 := Lib.hid hC0; clear hC0
  go_enter Try.func115, Try.ntmps115
  go_wp2_with fail
  have hb0 : Blk ((w.alloc (.cells C0 97)).alloc (.cells C0 97)) (w.heap.size + 1) 97 C0 := heap_alloc2_new w _ _
  have hb1 : Blk ((w.alloc (.cells C0 97)).alloc (.cells C0 97)) w.heap.size 97 C0 := heap_alloc2_old w _ _
  have hb2 : Below w.heap.size w ((w.alloc (.cells C0 97)).alloc (.cells C0 97)) := ((Below.refl _ _).alloc (Nat.le_refl _) _).alloc (by simp) _
  go_loopw [8] (fun i wr => ∃ k : Nat, k ≤ 64 ∧ i = .int .i64 k ∧ Blk wr (w.heap.size + 1) 97 (tileC F (.int .i64 0) k) ∧ Blk wr w.heap.size 97 C0 ∧ Below w.heap.size w wr) (fun i _ => 64 - (intOf i).toNat)
  case atStart => exact ⟨0, Nat.zero_le _, rfl, by rw [HC0.out]; exact hb0, hb1, hb2⟩
  clear hb0 hb1 hb2
  case round =>
    obtain ⟨k, hk, rfl, q1, q2, hb⟩ := hrel
    by_cases hlt : k < 64
    · have f1 : wr.frozen? ⟨w.heap.size + 1, k, none⟩ = false := q1.frozen k
      have y1 : (k : Int).tmod 8 = ((k % 8 : Nat) : Int) := by rw [Int.tmod_eq_emod_of_nonneg (by omega)]; omega
      have y2 : (k : Int).tdiv 8 = ((k / 8 : Nat) : Int) := by rw [Int.tdiv_eq_ediv_of_nonneg (by omega)]; omega
      have y3 : (k : Int) % 8 = ((k % 8 : Nat) : Int) := by omega
      have y4 : (k : Int) / 8 = ((k / 8 : Nat) : Int) := by omega
      have d1 : wr.cell? ⟨w.heap.size + 1, k, none⟩ = some ((tileC F (.int .i64 0) k).getD k undef) := by
        rw [q1.cell, Array.getElem?_eq_getElem (by rw [tileC_size _ _ hk]; exact hlt), Array.getD, dif_pos (by rw [tileC_size _ _ hk]; exact hlt)]
        rfl
      have hnx := tileC_next F (.int .i64 0) hlt
      have hv := htv.out k
      have HNX := Lib.hid hnx; clear hnx
      have HV := Lib.hid hv; clear hv
      obtain ⟨k1, hk1⟩ : ∃ k1, k % 8 = k1 := ⟨_, rfl⟩
      obtain ⟨k2, hk2⟩ : ∃ k2, k / 8 = k2 := ⟨_, rfl⟩
      have b1 : k1 < 8 := by omega
      have b2 : k2 < 8 := by omega
      have HK1 := Lib.hid hk1
      have HK2 := Lib.hid hk2
      rw [hk1] at y1 y3
      rw [hk2] at y2 y4
      clear hk1 hk2
      go_wp2_with fail
      refine (near_any b g W H c zs _ _ _ (hp.below hb)).mono ?_
      rintro e w' ⟨rfl, n1, rfl⟩
      have hvs := HV.out
      rw [HK1.out, HK2.out, IntWalk.i64_left, IntWalk.i64_left] at hvs
      obtain ⟨zz, hzz⟩ : ∃ zz, nearZ zs W H (wrap64 (X + (k1 : Int))) (wrap64 (Y + (k2 : Int))) = zz := ⟨_, rfl⟩
      rw [hzz] at hvs ⊢
      clear hzz
      have HVS := Lib.hid hvs; clear hvs
      go_wp2_with fail
      go_roundw
      case rel => exact ⟨k + 1, by omega, by go_num, by rw [← HNX.out, HVS.out]; exact Blk.set (q1.drewN n1) k _, Blk.far (q2.drewN n1) (by simp) _, (below_drewN hb n1).setCell (by simp) _⟩
      case measure => simp [intOf]; omega
    · have hk64 : k = 64 := by omega
      clear hk hlt
      subst hk64
      have hsz1 : (Try.prog.info? 97).map (·.size) = some (tileC F (.int .i64 0) 64).size := by rw [tileC_size _ _ (Nat.le_refl _)]; exact hsz
      have hc0 : C0.size = (tileC F (.int .i64 0) 64).size := by rw [← HC0.out, tileC_size _ _ (Nat.zero_le _), tileC_size _ _ (Nat.le_refl _)]
      have hone := tileC_one (f := F) (z := (.int .i64 0)) (k := 64) h1 rfl
      obtain ⟨C, hC⟩ : ∃ C, tileC F (.int .i64 0) 64 = C := ⟨_, rfl⟩
      rw [hC] at q1 hsz1 hc0 hone
      have HC := Lib.hid hC
      clear hC
      have hu := Try.underlying97
      go_wp2_with (first | (refine wpList_load_row rfl _ _ rfl _ rfl _ _ _ _ q1 hu rfl hsz1 ?_) | (refine wpList_store_row rfl _ _ _ rfl _ _ rfl rfl _ _ q2 hsz1 hc0 hone ?_))
      have hgC : (wr.setRow w.heap.size C).heap[w.heap.size]? = some (.cells C 97 (0, 0)) := setRow_heap wr w.heap.size C0 C 97 (0, 0) q2
      refine bodyPost_ret (results_cell_row rfl _ _ w.heap.size 97 C (0, 0) _ rfl hgC hu rfl hsz1) rfl ?_
      exact ⟨by rw [HC.out], ⟨hb.os, hb.tape, hb.output, by simp; exact hb.size, fun i hi => (setRow_other wr w.heap.size i C (by omega)).trans (hb.block i hi)⟩⟩

set_option maxRecDepth 100000 in
set_option maxHeartbeats 4000000 in
theorem same_any (b g W H c b' g' W' H' c' : Nat) (zs ys : List Int) (w : World) (hp : RA w b g W H c zs) (ho : RA w b' g' W' H' c' ys) :
    Calls Try.prog 116 #[.pointer (some ⟨b, 0, none⟩), .pointer (some ⟨b', 0, none⟩)] w fun e w' => e = .returned (.bool (PI.sameB W H W' H' zs ys)) ∧ ∃ k, w' = w.drewN k := by
  have c0 := hp.c0
  have c1 := hp.c1
  have c2 := hp.c2
  have d0 := ho.c0
  have d1 := ho.c1
  have d2 := ho.c2
  unfold PI.sameB
  by_cases hW : W = W'
  · by_cases hH : H = H'
    · subst hW hH
      have hd : (decide (W = W ∧ H = H) && PI.eqL zs ys) = PI.eqL zs ys := by simp
      rw [hd]
      clear hd
      have e0 : ((W : Int) != (W : Int)) = false := by simp
      have e1 : ((H : Int) != (H : Int)) = false := by simp
      have hl1 : zs.length = W * H := by simpa using hp.len
      have hl2 : ys.length = W * H := by simpa using ho.len
      have hsz := hp.size
      have hc1 : ∀ j, j < W * H → w.cell? ⟨g, j, none⟩ = some (.int .i64 (zs.getD j 0)) := fun j hj => hp.cellZ hj
      have hc2 : ∀ j, j < W * H → w.cell? ⟨g', j, none⟩ = some (.int .i64 (ys.getD j 0)) := fun j hj => ho.cellZ hj
      generalize W * H = N at *
      have HL1 := Lib.hid hl1; clear hl1
      have HL2 := Lib.hid hl2; clear hl2
      have HC1 := Lib.hid hc1; clear hc1
      have HC2 := Lib.hid hc2; clear hc2
      go_enter Try.func116, Try.ntmps116
      go_wp2
      go_quiet (fail)
      go_wp2
      go_loopw [5] (fun i wr => ∃ k q : Nat, k ≤ N ∧ i = .int .i64 k ∧ wr = w.drewN q ∧ PI.eqL (zs.drop k) (ys.drop k) = PI.eqL zs ys) (fun i _ => N - (intOf i).toNat)
      case atStart => exact ⟨0, _, Nat.zero_le _, rfl, rfl, rfl⟩
      case round =>
        obtain ⟨k, q, hk, rfl, rfl, hr⟩ := hrel
        have HR := Lib.hid hr; clear hr
        by_cases hlt : k < N
        · have g1 : k < zs.length := by rw [HL1.out]; exact hlt
          have g2 : k < ys.length := by rw [HL2.out]; exact hlt
          have t1 := HC1.out k hlt
          have t2 := HC2.out k hlt
          have x1 : zs.drop k = zs.getD k 0 :: zs.drop (k + 1) := by rw [List.getD_eq_getElem?_getD, List.getElem?_eq_getElem g1]; exact List.drop_eq_getElem_cons g1
          have x2 : ys.drop k = ys.getD k 0 :: ys.drop (k + 1) := by rw [List.getD_eq_getElem?_getD, List.getElem?_eq_getElem g2]; exact List.drop_eq_getElem_cons g2
          generalize zs.getD k 0 = a at *
          generalize ys.getD k 0 = bb at *
          have X1 := Lib.hid x1; clear x1
          have X2 := Lib.hid x2; clear x2
          cases hab : PI.eqE a bb
          · have f1 : (a != bb) = true := by simpa [PI.eqE] using hab
            have HAB := Lib.hid hab; clear hab
            go_wp2
            go_quiet (fail)
            go_wp2
            go_ret
            exact ⟨by rw [← HR.out, X1.out, X2.out, PI.eqL, HAB.out]; rfl, q + nq, by simp⟩
          · have f1 : (a != bb) = false := by simpa [PI.eqE] using hab
            have HAB := Lib.hid hab; clear hab
            go_wp2
            go_quiet (fail)
            go_wp2
            go_roundw
            case rel => exact ⟨k + 1, _, by omega, by go_num, rfl, by rw [← HR.out, X1.out, X2.out, PI.eqL, HAB.out, Bool.true_and]⟩
            case measure => simp [intOf]; omega
        · have hkn : N ≤ k := by omega
          go_wp2
          go_ret
          exact ⟨by rw [← HR.out, List.drop_of_length_le (by rw [HL1.out]; exact hkn), List.drop_of_length_le (by rw [HL2.out]; exact hkn)]; rfl, _, rfl⟩
    · subst hW
      have e0 : ((W : Int) != (W : Int)) = false := by simp
      have e1 : ((H : Int) != (H' : Int)) = true := by simp; omega
      have hd : (decide (W = W ∧ H = H') && PI.eqL zs ys) = false := by simp [hH]
      rw [hd]
      clear hd
      go_enter Try.func116, Try.ntmps116
      go_wp2
      go_quiet (fail)
      go_wp2
      go_ret
      exact ⟨rfl, _, rfl⟩
  · have e0 : ((W : Int) != (W' : Int)) = true := by simp; omega
    have hd : (decide (W = W' ∧ H = H') && PI.eqL zs ys) = false := by simp [hW]
    rw [hd]
    clear hd
    go_enter Try.func116, Try.ntmps116
    go_wp2
    go_quiet (fail)
    go_wp2
    go_ret
    exact ⟨rfl, _, rfl⟩

/-- the least and the greatest of all -/
def minL (zs : List Int) (k : Nat) : Int := (zs.take k).foldl min (zs.getD 0 0)
def maxL (zs : List Int) (k : Nat) : Int := (zs.take k).foldl max (zs.getD 0 0)
theorem minL_next {zs : List Int} {k : Nat} (h : k < zs.length) : minL zs (k + 1) = min (minL zs k) (zs.getD k 0) := by
  unfold minL
  rw [List.take_succ_eq_append_getElem h, List.foldl_append, List.getD_eq_getElem?_getD (i := k), List.getElem?_eq_getElem h]
  rfl
theorem maxL_next {zs : List Int} {k : Nat} (h : k < zs.length) : maxL zs (k + 1) = max (maxL zs k) (zs.getD k 0) := by
  unfold maxL
  rw [List.take_succ_eq_append_getElem h, List.foldl_append, List.getD_eq_getElem?_getD (i := k), List.getElem?_eq_getElem h]
  rfl
theorem ends_fold : ∀ (l : List Int) (a b : Int), a ≤ b → l.foldl PI.endS (a, b, true) = (l.foldl min a, l.foldl max b, true)
  | [], _, _, _ => rfl
  | v :: l, a, b, h => by
    have e : PI.endS (a, b, true) v = (min a v, max b v, true) := by
      unfold PI.endS PI.eqE PI.ltE PI.gtE
      simp only [beq_self_eq_true, if_true]
      by_cases h1 : v < a
      · rw [if_pos (by simpa using h1), show min a v = v by omega, show max b v = b by omega]
      · rw [if_neg (by simpa using h1)]
        by_cases h2 : b < v
        · rw [if_pos (by simpa using h2), show min a v = a by omega, show max b v = v by omega]
        · rw [if_neg (by simpa using h2), show min a v = a by omega, show max b v = b by omega]
    rw [List.foldl_cons, e, ends_fold l _ _ (by omega)]
    rfl
theorem ends_min {zs : List Int} (h : 1 ≤ zs.length) : PI.endsL zs = (minL zs zs.length, maxL zs zs.length, true) := by
  unfold minL maxL
  rw [List.take_of_length_le (Nat.le_refl _)]
  cases zs with
  | nil => simp at h
  | cons v l =>
    have e : PI.endsL (v :: l) = l.foldl PI.endS (v, v, true) := by
      unfold PI.endsL
      rw [List.foldl_cons, show PI.endS (0, 0, false) v = (v, v, true) by simp [PI.endS, PI.eqE]]
    rw [e, ends_fold l v v (Int.le_refl _)]
    simp
set_option maxRecDepth 100000 in
set_option maxHeartbeats 4000000 in
theorem ends_any (b g W H c : Nat) (zs : List Int) (w : World) (hp : RA w b g W H c zs) :
    Calls Try.prog 117 #[.pointer (some ⟨b, 0, none⟩)] w fun e w' => e = .returned (.tuple #[.int .i64 (PI.endsL zs).1, .int .i64 (PI.endsL zs).2.1]) ∧ ∃ k, w' = w.drewN k := by
  have c2 := hp.c2
  have hsz := hp.size
  have h1 : 1 ≤ W * H := Nat.mul_le_mul hp.wide hp.high
  have hl : zs.length = W * H := by simpa using hp.len
  have hc1 : ∀ j, j < W * H → w.cell? ⟨g, j, none⟩ = some (.int .i64 (zs.getD j 0)) := fun j hj => hp.cellZ hj
  rw [ends_min (by omega)]
  generalize W * H = N at *
  have HL := Lib.hid hl; clear hl
  have HC1 := Lib.hid hc1; clear hc1
  have t0 := HC1.out 0 (by omega)
  go_enter Try.func117, Try.ntmps117
  go_wp2
  go_loopw [4, 5, 6] (fun x y i wr => ∃ k q : Nat, k ≤ N ∧ i = .int .i64 k ∧ wr = w.drewN q ∧ x = .int .i64 (minL zs k) ∧ y = .int .i64 (maxL zs k)) (fun _ _ i _ => N - (intOf i).toNat)
  case atStart => exact ⟨0, 0, Nat.zero_le _, rfl, rfl, rfl, rfl⟩
  clear t0
  case round =>
    obtain ⟨k, q, hk, rfl, rfl, rfl, rfl⟩ := hrel
    by_cases hlt : k < N
    · have g1 : k < zs.length := by rw [HL.out]; exact hlt
      have t1 := HC1.out k hlt
      have m1 := minL_next g1
      have m2 := maxL_next g1
      generalize zs.getD k 0 = v at *
      generalize minL zs k = lo at *
      generalize maxL zs k = hi at *
      have M1 := Lib.hid m1; clear m1
      have M2 := Lib.hid m2; clear m2
      go_wp2
      go_roundw
      case rel => exact ⟨k + 1, _, by omega, by go_num, rfl, by rw [M1.out]; congr 1; split <;> omega, by rw [M2.out]; congr 1; split <;> omega⟩
      case measure => simp [intOf]; omega
    · have hkn : k = N := by omega
      subst hkn
      go_wp2
      go_ret2
      exact ⟨by rw [HL.out]; rfl, _, rfl⟩

set_option maxHeartbeats 2000000 in
theorem of_no (W H : Int) (A : Option Addr) (n c : Nat) (w : World) (hf : fitsB W H = false) : Calls Try.prog 110 #[.int .i64 W, .int .i64 H, .slice A n c] w fun e w' => e = .returned (.tuple #[.pointer none, .int .i64 120]) ∧ w = w' := by
  have HF := Lib.hid hf; clear hf
  go_enter Try.func110, Try.ntmps110
  go_wp2_with fail
  refine (fits_any W H w).mono ?_
  rintro e w' ⟨rfl, rfl⟩
  rw [HF.out]
  go_wp2_with fail
  go_ret2
  exact ⟨rfl, rfl⟩
set_option maxHeartbeats 2000000 in
theorem of_len (W H : Nat) (A : Option Addr) (n c : Nat) (w : World) (hf : fitsB W H = true) (hn : n ≠ W * H) : Calls Try.prog 110 #[.int .i64 W, .int .i64 H, .slice A n c] w fun e w' => e = .returned (.tuple #[.pointer none, .int .i64 120]) ∧ w = w' := by
  have h3 := ((fitsB_iff _ _).1 hf).2.2
  obtain ⟨N, hN⟩ : ∃ N, W * H = N := ⟨_, rfl⟩
  have hNi : (W : Int) * (H : Int) = (N : Int) := by rw [← hN, Int.natCast_mul]
  rw [hNi] at h3
  rw [hN] at hn
  have wN : IntKind.i64.wrap (N : Int) = (N : Int) := IntWalk.i64_in _ (by omega)
  have e1 : ((n : Int) != (N : Int)) = true := by simp; omega
  have HF := Lib.hid hf; clear hf hN
  go_enter Try.func110, Try.ntmps110
  go_wp2_with fail
  refine (fits_any W H w).mono ?_
  rintro e w' ⟨rfl, rfl⟩
  rw [HF.out]
  go_wp2_with fail
  go_ret2
  exact ⟨rfl, rfl⟩
set_option maxRecDepth 100000 in
set_option maxHeartbeats 4000000 in
theorem of_yes (W H : Nat) (b o c : Nat) (zs : List Int) (w : World) (hf : fitsB W H = true) (hs : Sl w (some ⟨b, o, none⟩) (W * H) (zs.map (.int .i64))) :
    Calls Try.prog 110 #[.int .i64 W, .int .i64 H, .slice (some ⟨b, o, none⟩) (W * H) c] w (MadeR w W H zs) := by
  obtain ⟨i0, hi, hz0, hz1, hz2⟩ := info_parts PI.info
  have hb3 := (fitsB_iff _ _).1 hf
  have h1 : 1 ≤ W * H := Nat.mul_le_mul (show 1 ≤ W by omega) (show 1 ≤ H by omega)
  have h3 := hb3.2.2
  obtain ⟨N, hN⟩ : ∃ N, W * H = N := ⟨_, rfl⟩
  have hNi : (W : Int) * (H : Int) = (N : Int) := by rw [← hN, Int.natCast_mul]
  rw [hNi] at h3
  rw [hN] at h1 hs ⊢
  have wN : IntKind.i64.wrap (N : Int) = (N : Int) := IntWalk.i64_in _ (by omega)
  have e1 : ((N : Int) != (N : Int)) = false := by simp
  have HF := Lib.hid hf; clear hf
  have HN := Lib.hid hN; clear hN
  clear hb3
  have hl : zs.length = N := by simpa using hs.1
  have hone := ints_oneCell .i64 zs
  go_enter Try.func110, Try.ntmps110
  go_wp2_with fail
  refine (fits_any W H w).mono ?_
  rintro e w' ⟨rfl, rfl⟩
  rw [HF.out]
  have q0 : Blk (w.alloc (.cells #[.int .i64 W, .int .i64 H, .slice none 0 0] 122)) w.heap.size 122 #[.int .i64 W, .int .i64 H, .slice none 0 0] := Blk.new w _ _
  have sl1 := hs.alloc (.cells #[.int .i64 W, .int .i64 H, .slice none 0 0] 122)
  obtain ⟨b', o', e, hcell⟩ := sl1.2 (by omega)
  injection e with e
  injection e with e1' e2'
  subst e1' e2'
  go_wp2_with (at_builtin; refine wpList_append_lies _ rfl (.tmp 31) (.tmp 32) 50 rfl w.heap.size 3 i0 (.int .i64 0) 1 8 Try.underlying50 hi hz0 hz1 hz2 rfl (by decide) (.slice none 0 0) 0 [] rfl (World.ownsRow_nil _ _ _ _) ⟨b, o, none⟩ N c (zs.map (.int .i64)) rfl (by simp [hl]) (news_of_sl (by simp [hl]) hcell) hone (by omega) (by unfold maxLen; omega) (by omega) (by simp) _ rfl ?_; intro g1 cap1 w2 hown2 hgrow2 hat2 hlt2; have bx2 := q0.grown hgrow2 (by simp [Value.ownBlock]); have x0 : w2.cell? ⟨w.heap.size, 2, none⟩ = some (.slice none 0 0) := (by rw [bx2.cell]; rfl); have x1 : w2.frozen? ⟨w.heap.size, 2, none⟩ = false := bx2.frozen 2)
  go_ret2
  obtain ⟨curg, hgb, hgs, hgt, hgn, hgc, hgm⟩ := row_of_owns hown2
  simp only [Nat.zero_add, List.nil_append] at hgt hgc ⊢
  have hat : g1 ≠ w.heap.size := by
    rcases hat2 with h | h
    · simp [Value.ownBlock] at h
    · rw [h]
      simp
  have q1 := Blk.set bx2 2 (.slice (some ⟨g1, 0, none⟩) N cap1)
  have q2 := hgb.far (p := ⟨w.heap.size, 2, none⟩) hat (.slice (some ⟨g1, 0, none⟩) N cap1)
  have := plane_mk (W := W) (H := H) (c := cap1) (by rw [HN.out]; exact q1) q2 hgs (fun h => hat h.symm) HF.out (by rw [HN.out]; exact hgc) hgm
  rw [HN.out, hgt] at this
  have a1 : Below w.heap.size w w2 := ((Below.refl _ _).alloc (Nat.le_refl _) _).grown hgrow2 (by simp) (fun k hk => by simp [Value.ownBlock] at hk)
  exact ⟨w.heap.size, g1, cap1, rfl, this, Nat.le_refl _, hgn, a1.setCell (Nat.le_refl _) _⟩
end Go.Proofs.Ytlbocfinjlkebaa.R12
