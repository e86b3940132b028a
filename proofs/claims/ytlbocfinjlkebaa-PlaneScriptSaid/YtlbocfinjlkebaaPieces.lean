/- PlanePieces: a piece is cut, laid back, laid elsewhere: the law's own call returns true. -/
import Derived.Test.YtlbocfinjlkebaaAwake
import Derived.Test.YtlbocfinjlkebaaPieceL
namespace Go.Proofs.Ytlbocfinjlkebaa.Pieces
open Go.RowKit

/-- a number from 0 to n - 1 comes back -/
def AtP (n : Int) (w : World) (e : Ending) (w' : World) : Prop := ∃ v : Int, e = .returned (.int .i64 v) ∧ 0 ≤ v ∧ v < n ∧ w = w'

set_option maxHeartbeats 1000000 in
theorem at_any (i n : Int) (w : World) (hn : 1 ≤ n) (hn' : n ≤ 4611686018427387904) : Calls Try.prog 28 #[.int .i64 i, .int .i64 n] w (AtP n w) := by
  by_cases h0 : 0 ≤ i
  · have h1 : 0 ≤ i % n := Int.emod_nonneg _ (by omega)
    have h2 : i % n < n := Int.emod_lt_of_pos _ (by omega)
    have hz : ¬ n = 0 := by omega
    go_enter Try.func28, Try.ntmps28
    go_wp2
    go_ret
    exact ⟨_, rfl, h1, h2, rfl⟩
  · obtain ⟨k, hk⟩ : ∃ k, i.tmod n = k := ⟨_, rfl⟩
    have e1 : i.tmod n = -((-i) % n) := by
      obtain ⟨j, rfl⟩ : ∃ j, i = -j := ⟨-i, by omega⟩
      rw [Int.neg_tmod, Int.neg_neg, Int.tmod_eq_emod_of_nonneg (by omega)]
    have e2 := Int.emod_nonneg (-i) (show n ≠ 0 by omega)
    have e3 := Int.emod_lt_of_pos (-i) (show 0 < n by omega)
    have h1 : -n < k := by rw [← hk, e1]; omega
    have h2 : k ≤ 0 := by rw [← hk, e1]; omega
    clear e1 e2 e3
    have hz : ¬ n = 0 := by omega
    by_cases h3 : k < 0
    · go_enter Try.func28, Try.ntmps28
      go_wp2
      go_ret
      exact ⟨_, rfl, by omega, by omega, rfl⟩
    · go_enter Try.func28, Try.ntmps28
      go_wp2
      go_ret
      exact ⟨_, rfl, by omega, by omega, rfl⟩

theorem eqL_self : ∀ l : List Int, PI.eqL l l = true
  | [] => rfl
  | a :: l => by simp [PI.eqL, PI.eqE, eqL_self l]

/-- the piece laid anywhere -/
def LaidAt (w : World) (p gp W H cp a b c d : Nat) (x y : Int) (xs : List Value) (e : Ending) (w' : World) : Prop :=
  e = .returned (.tuple #[]) ∧ ∃ xs', PI.PA w' p gp W H cp xs' ∧ w.grownBy w' (some gp) ∧
    ∀ i j : Nat, i < W → j < H → xs'[j * W + i]? = if x ≤ i ∧ (i : Int) < x + c ∧ y ≤ j ∧ (j : Int) < y + d then xs[(b + ((j : Int) - y).toNat) * W + a + ((i : Int) - x).toNat]? else xs[j * W + i]?

theorem lay_piece (p gp W H cp q gq c d cq a b : Nat) (xs : List Value) (x y : Int) (w : World) (hp : PI.PA w p gp W H cp xs) (hq : PI.PA w q gq c d cq (PI.rowsL W a b c xs d)) (hxl : xs.length = W * H)
    (hW : 1 ≤ W) (hH : 1 ≤ H) (hc : 1 ≤ c ∧ a + c ≤ W) (hd : 1 ≤ d ∧ b + d ≤ H) (hqp : q ≠ p) (hgg : gq ≠ gp) (h1 : ∀ u ∈ xs, u.oneCell' = true) :
    Calls Try.prog 31 #[.pointer (some ⟨p, 0, none⟩), .pointer (some ⟨q, 0, none⟩), .int .i64 x, .int .i64 y] w (LaidAt w p gp W H cp a b c d x y xs) := by
  by_cases hn : (W : Int) ≤ x ∨ (H : Int) ≤ y ∨ x ≤ -(c : Int) ∨ y ≤ -(d : Int)
  · refine (PI.lay_no p gp W H cp q gq c d cq xs _ x y w hp hq hn).mono ?_
    rintro e w' ⟨rfl, rfl⟩
    refine ⟨rfl, xs, hp, grown_of_below (Below.refl _ _) _, fun i j hi hj => ?_⟩
    rw [if_neg (by omega)]
  · refine (PI.lay_other p gp W H cp q gq c d cq xs _ x y w hp hq hqp hgg (fun u hu => h1 u (PI.mem_rowsL _ hu)) (by omega) (by omega) (by omega) (by omega)).mono ?_
    rintro e w' ⟨rfl, h2, h3⟩
    exact ⟨rfl, _, h2, h3, fun i j hi hj => piece_get hxl hW hH hc hd (by omega) (by omega) (by omega) (by omega) i j hi hj⟩

/-- the law's list: the first n of 1, 2, 5, 10, .. -/
def sq (n : Nat) : List Int := (List.range n).map fun i : Nat => (i : Int) * (i : Int) + 1
def sqv (t : Nat) : Int := (t : Int) * (t : Int) + 1
theorem sq_get {n t : Nat} (h : t < n) : (sq n)[t]? = some (sqv t) := by
  unfold sq
  rw [List.getElem?_map, List.getElem?_range h]
  rfl
theorem sq_length (n : Nat) : (sq n).length = n := by simp [sq]
theorem sq_succ (n : Nat) : sq (n + 1) = sq n ++ [(n : Int) * (n : Int) + 1] := by simp [sq, List.range_succ]

set_option maxRecDepth 100000 in
set_option maxHeartbeats 8000000 in
theorem pieces_any (wide high x y k0 k1 k2 k3 : Int) (w : World) :
    Calls Try.prog 6 #[.int .i64 wide, .int .i64 high, .agg #[.int .i64 k0, .int .i64 k1, .int .i64 k2, .int .i64 k3], .int .i64 x, .int .i64 y] w (TrueB w) := by
  obtain ⟨i0, hi, hz0, hz1, hz2⟩ := info_parts PI.info
  go_enter Try.func6, Try.ntmps6
  go_wp2_with fail
  refine (awake_any _).mono ?_
  rintro e w1 ⟨rfl, b1⟩
  go_wp2_with fail
  refine (at_any _ _ _ (by decide) (by decide)).mono ?_
  rintro e w' ⟨wv, rfl, hw0, hw1, rfl⟩
  obtain ⟨wn, rfl⟩ := Int.eq_ofNat_of_zero_le hw0
  go_wp2_with fail
  refine (at_any _ _ _ (by decide) (by decide)).mono ?_
  rintro e w' ⟨hv, rfl, hh0, hh1, rfl⟩
  obtain ⟨hn, rfl⟩ := Int.eq_ofNat_of_zero_le hh0
  go_wp2_with fail
  obtain ⟨W, hW⟩ : ∃ W, 1 + wn = W := ⟨_, rfl⟩
  obtain ⟨H, hH⟩ : ∃ H, 1 + hn = H := ⟨_, rfl⟩
  have eW : 1 + (wn : Int) = (W : Int) := by omega
  have eH : 1 + (hn : Int) = (H : Int) := by omega
  have bW : 1 ≤ W ∧ W ≤ 30 := by omega
  have bH : 1 ≤ H ∧ H ≤ 30 := by omega
  clear hw0 hw1 hh0 hh1
  simp only [eW, eH]
  obtain ⟨N, hN⟩ : ∃ N, W * H = N := ⟨_, rfl⟩
  have hNi : (W : Int) * (H : Int) = (N : Int) := by rw [← hN, Int.natCast_mul]
  have bN : N ≤ 900 := by rw [← hN]; exact Nat.mul_le_mul bW.2 bH.2
  have HN := Lib.hid hN; clear hN
  go_loopw [14, 15] (fun l i wr => ∃ k : Nat, k ≤ N ∧ i = .int .i64 k ∧ Below w1.heap.size w1 wr ∧ wr.ownsRow w1.heap.size 3 1 l k ((sq k).map (.int .i64))) (fun _ i _ => N - (intOf i).toNat)
  case atStart => exact ⟨0, Nat.zero_le _, rfl, Below.refl _ _, World.ownsRow_nil _ _ _ _⟩
  case round =>
    obtain ⟨k, hk, rfl, hb, hown⟩ := hrel
    by_cases hlt : k < N
    · obtain ⟨m, hm⟩ : ∃ m, k * k = m := ⟨_, rfl⟩
      have hmi : (k : Int) * (k : Int) = (m : Int) := by rw [← hm, Int.natCast_mul]
      have bm : m ≤ 810000 := by rw [← hm]; exact Nat.le_trans (Nat.mul_le_mul (show k ≤ 900 by omega) (show k ≤ 900 by omega)) (by decide)
      have HMI := Lib.hid hmi
      clear hm
      go_wp2_with (at_builtin; refine wpList_append_lies _ rfl (.tmp 45) (.tmp 50) 50 rfl w1.heap.size 3 i0 (.int .i64 0) 1 8 Try.underlying50 hi hz0 hz1 hz2 rfl (by decide) _ _ _ rfl (hown.alloc _) ⟨wr.heap.size, 0, none⟩ 1 1 [.int .i64 (m + 1)] rfl rfl (cell_one_new _ _ _) (by intro u hu; simp at hu; subst hu; rfl) (by decide) (by unfold maxLen; omega) (by omega) (by simp; have := hb.size; omega) _ rfl ?_; intro g cap w2 hown2 hgrow2 hat2 hlt2)
      go_roundw
      case rel =>
        refine ⟨k + 1, by omega, by go_num, ?_, by rw [sq_succ, List.map_append, HMI.out]; exact hown2⟩
        exact (hb.alloc hb.size _).grown hgrow2 (by simp; have := hb.size; omega) (fun j hj => (hown.lt j hj).1)
      case measure => simp [intOf]; omega
    · have hkN : k = N := by omega
      subst hkN
      obtain ⟨g, cap, rfl, hg0, hg1⟩ := hown.form (by have := HN.out; have := Nat.mul_le_mul bW.1 bH.1; omega)
      obtain ⟨curg, hgb, hgs, hgt, hgn⟩ := row_of_owns hown
      have sl0 : Sl wr (some ⟨g, 0, none⟩) (W * H) ((sq (W * H)).map (.int .i64)) := by
        rw [HN.out]
        exact Sl.of_blk hgb hgt (by omega)
      have fit : fitsB W H = true := by
        rw [fitsB_iff]
        refine ⟨by omega, by omega, ?_⟩
        rw [hNi]; omega
      clear hown
      go_wp2_with fail
      refine (show Calls Try.prog 29 #[.int .i64 W, .int .i64 H, .slice (some ⟨g, 0, none⟩) k cap] _ _ from HN.out ▸ PI.of_yes W H g 0 cap _ _ fit sl0 (oneI _)).mono ?_
      rintro e w2 ⟨p, gp, cp, rfl, hp, hpn, hgpn, hb2⟩
      have hbx := ((Blk.new w 48 #[.int .i64 k0, .int .i64 k1, .int .i64 k2, .int .i64 k3]).kept b1).kept hb |>.kept hb2
      have x0 : w2.cell? ⟨w.heap.size, 0, none⟩ = some (.int .i64 k0) := by rw [hbx.cell]; rfl
      have x1 : w2.cell? ⟨w.heap.size, 1, none⟩ = some (.int .i64 k1) := by rw [hbx.cell]; rfl
      have x2 : w2.cell? ⟨w.heap.size, 2, none⟩ = some (.int .i64 k2) := by rw [hbx.cell]; rfl
      have x3 : w2.cell? ⟨w.heap.size, 3, none⟩ = some (.int .i64 k3) := by rw [hbx.cell]; rfl
      go_wp2_with fail
      refine (at_any _ _ _ (by omega) (by omega)).mono ?_
      rintro e w' ⟨va, rfl, ha0, ha1, rfl⟩
      obtain ⟨a, rfl⟩ := Int.eq_ofNat_of_zero_le ha0
      go_wp2_with fail
      refine (at_any _ _ _ (by omega) (by omega)).mono ?_
      rintro e w' ⟨vb, rfl, hb0, hb1, rfl⟩
      obtain ⟨b, rfl⟩ := Int.eq_ofNat_of_zero_le hb0
      go_wp2_with fail
      refine (at_any _ _ _ (by omega) (by omega)).mono ?_
      rintro e w' ⟨vc, rfl, hc0, hc1, rfl⟩
      obtain ⟨c', rfl⟩ := Int.eq_ofNat_of_zero_le hc0
      go_wp2_with fail
      refine (at_any _ _ _ (by omega) (by omega)).mono ?_
      rintro e w' ⟨vd, rfl, hd0, hd1, rfl⟩
      obtain ⟨d', rfl⟩ := Int.eq_ofNat_of_zero_le hd0
      obtain ⟨c, hc⟩ : ∃ c, 1 + c' = c := ⟨_, rfl⟩
      obtain ⟨d, hd⟩ : ∃ d, 1 + d' = d := ⟨_, rfl⟩
      have ec : 1 + (c' : Int) = (c : Int) := by omega
      have ed : 1 + (d' : Int) = (d : Int) := by omega
      have bc : 1 ≤ c ∧ a + c ≤ W := by omega
      have bd : 1 ≤ d ∧ b + d ≤ H := by omega
      clear ha0 ha1 hb0 hb1 hc0 hc1 hd0 hd1
      simp only [ec]
      go_wp2_with fail
      have hlx := hp.len
      refine (PI.cut_yes p gp W H cp _ a b c d w2 hp (oneI _) bc.1 bd.1 bc.2 bd.2).mono ?_
      rintro e w3 ⟨q, gq, cq, rfl, hq, hqn, hgqn, hb3⟩
      have hp3 := hp.below hb3
      have l1 := hp.blt
      have l2 := hp.glt
      go_wp2_with fail
      refine (PI.lay_other p gp W H cp q gq c d cq _ _ a b w3 hp3 hq (by omega) (by omega) (fun u hu => oneI _ u (PI.mem_rowsL _ hu)) (by omega) (by omega) (by omega) (by omega)).mono ?_
      rintro e w4 ⟨rfl, hp4, hg4⟩
      rw [piece_back hlx bW.1 bH.1 bc bd] at hp4
      go_wp2_with fail
      refine (PI.pix_any p gp W H cp _ w4 hp4 (oneI _)).mono ?_
      rintro e w5 ⟨v, rfl, ⟨g5, c5, cur5, rfl, i1, i2, i3, i4, i5, i6⟩, hb5⟩
      have hp5 := hp4.below hb5
      have sl5 : Sl w5 (some ⟨g5, 0, none⟩) (W * H) ((sq k).map (.int .i64)) := Sl.of_blk i1 i3 (by omega)
      simp only [HN.out]
      go_wp2_with fail
      refine (show Calls Try.prog 29 #[.int .i64 W, .int .i64 H, .slice (some ⟨g5, 0, none⟩) k c5] _ _ from HN.out ▸ PI.of_yes W H g5 0 c5 _ _ fit sl5 (oneI _)).mono ?_
      rintro e w6 ⟨r, gr, cr, rfl, hr, hrn, hgrn, hb6⟩
      have hp6 := hp5.below hb6
      go_wp2_with fail
      refine (PI.same_any r gr W H cr p gp W H cp (sq k) (sq k) w6 hr hp6).mono ?_
      rintro e w7 ⟨rfl, n7, rfl⟩
      have z7 : PI.sameB W H W H (sq k) (sq k) = true := by
        unfold PI.sameB
        simp [eqL_self]
      simp only [z7]
      have hp7 := hp6.drewN n7
      go_wp2_with fail
      refine (PI.pix_any p gp W H cp _ _ hp7 (oneI _)).mono ?_
      rintro e w8 ⟨v, rfl, ⟨g8, c8, cur8, rfl, j1, j2, j3, j4, j5, j6⟩, hb8⟩
      have hp8 := hp7.below hb8
      simp only [HN.out]
      have lg : g < wr.heap.size := hg1
      have bg2 := hgb.kept hb2
      have bg4 := (bg2.kept hb3).grown hg4 (by simp; omega)
      have bg8 := (((bg4.kept hb5).kept hb6).drewN n7).kept hb8
      have hq4 := hq.grown hg4 (by simp; omega) (by simp; omega)
      have hq8 := (((hq4.below hb5).below hb6).drewN n7).below hb8
      have t1 : Sl w8 (some ⟨g8, 0, none⟩) (W * H) ((sq k).map (.int .i64)) := Sl.of_blk j1 j3 (by omega)
      rw [HN.out] at t1
      have t2 : Sl w8 (some ⟨g, 0, none⟩) k ((sq k).map (.int .i64)) := Sl.of_blk bg8 hgt (by omega)
      go_wp2_with fail
      refine (same12_any _ _ _ _ _ _ (sq k) (sq k) w8 t1 t2 (by omega) (by omega)).mono ?_
      rintro e w9 ⟨rfl, n9, rfl⟩
      simp only [eqL_self]
      go_wp2_with fail
      refine (at_any x 80 _ (by decide) (by decide)).mono ?_
      rintro e w' ⟨vx, rfl, hx0, hx1, rfl⟩
      obtain ⟨xx, hxx⟩ : ∃ xx, vx - 40 = xx := ⟨_, rfl⟩
      go_wp2_with fail
      refine (at_any y 80 _ (by decide) (by decide)).mono ?_
      rintro e w' ⟨vy, rfl, hy0, hy1, rfl⟩
      obtain ⟨yy, hyy⟩ : ∃ yy, vy - 40 = yy := ⟨_, rfl⟩
      have bx : -40 ≤ xx ∧ xx < 40 := by omega
      have by' : -40 ≤ yy ∧ yy < 40 := by omega
      go_wp2_with fail
      refine (lay_piece p gp W H cp q gq c d cq a b _ xx yy _ (hp8.drewN n9) (hq8.drewN n9) hlx bW.1 bH.1 bc bd (by omega) (by omega) (oneI _)).mono ?_
      rintro e w10 ⟨rfl, xs', hp10, hg10, hget⟩
      have bg10 := (bg8.drewN n9).grown hg10 (by simp; omega)
      have hcell : ∀ t, t < k → w10.cell? ⟨g, t, none⟩ = some (.int .i64 (sqv t)) := by
        intro t ht
        have h1 : (curg.toList.take k)[t]? = some (.int .i64 (sqv t)) := by rw [hgt, List.getElem?_map, sq_get ht]; rfl
        rw [bg10.cell, ← Array.getElem?_toList]
        rwa [List.getElem?_take, if_pos ht] at h1
      have hsmp : ∀ t, t < k → ((sq k).map (Value.int .i64))[t]? = some (.int .i64 (sqv t)) := by
        intro t ht
        rw [List.getElem?_map, sq_get ht]; rfl
      have HN' := HN.out
      go_wp2_with fail
      go_loopw [26] (fun j wr => ∃ n m : Nat, n ≤ H ∧ j = .int .i64 n ∧ wr = w10.drewN m) (fun j _ => H - (intOf j).toNat)
      case atStart => exact ⟨0, 0, Nat.zero_le _, rfl, rfl⟩
      case round =>
        obtain ⟨j, m, hj, rfl, rfl⟩ := hrel
        by_cases hjl : j < H
        · go_wp2_with fail
          go_loopw [27] (fun i wr => ∃ n m : Nat, n ≤ W ∧ i = .int .i64 n ∧ wr = w10.drewN m) (fun i _ => W - (intOf i).toNat)
          case atStart => exact ⟨0, m, Nat.zero_le _, rfl, rfl⟩
          case round =>
            obtain ⟨i, m', hi, rfl, rfl⟩ := hrel
            by_cases hil : i < W
            · have hpm := hp10.drewN m'
              have hgij := hget i j hil hjl
              obtain ⟨mm, hmm⟩ : ∃ mm, j * W = mm := ⟨_, rfl⟩
              have hmi : (W : Int) * (j : Int) = (mm : Int) := by rw [← hmm, Int.natCast_mul, Int.mul_comm]
              have b1 : mm + i < k := by rw [← hmm, ← HN', Nat.mul_comm W H]; exact row_lt hjl hil
              rw [hmm] at hgij
              have e1 : smp xs' W i j = (xs'[mm + i]?).getD undef := by rw [← hmm]; rfl
              rw [hgij] at e1
              have d1 := hcell (mm + i) b1
              have v1 := hsmp (mm + i) b1
              clear hgij hmm
              have N1 : ((mm : Int) + (i : Int)).toNat = mm + i := by omega
              by_cases h1 : xx ≤ i
              · by_cases h2 : i < xx + c
                · by_cases h3 : yy ≤ j
                  · by_cases h4 : j < yy + d
                    · obtain ⟨bs, hbs⟩ : ∃ bs, b + ((j : Int) - yy).toNat = bs := ⟨_, rfl⟩
                      obtain ⟨r', hr'⟩ : ∃ r', ((i : Int) - xx).toNat = r' := ⟨_, rfl⟩
                      obtain ⟨m2, hm2⟩ : ∃ m2, bs * W = m2 := ⟨_, rfl⟩
                      rw [if_pos ⟨h1, h2, h3, h4⟩, hbs, hr', hm2] at e1
                      have hbi : (b : Int) + (j : Int) - yy = (bs : Int) := by omega
                      have hm2i : (W : Int) * (bs : Int) = (m2 : Int) := by rw [← hm2, Int.natCast_mul, Int.mul_comm]
                      have b2 : m2 + (a + r') < k := by rw [← hm2, ← HN', Nat.mul_comm W H]; exact row_lt (by omega) (by omega)
                      rw [Nat.add_assoc] at e1
                      have d2 := hcell (m2 + (a + r')) b2
                      rw [hsmp _ b2] at e1
                      obtain ⟨t2, ht2⟩ : ∃ t2, m2 + (a + r') = t2 := ⟨_, rfl⟩
                      rw [ht2] at e1 d2
                      have hti : (m2 : Int) + (a : Int) + (i : Int) - xx = (t2 : Int) := by omega
                      have bm2 : m2 ≤ 900 := by omega
                      have ht2k : t2 < k := by omega
                      clear hbs hr' hm2 ht2
                      have E1 := Lib.hid e1; clear e1
                      clear v1 hsmp hcell
                      go_wp2_with fail
                      refine (PI.at_in p gp W H cp xs' i j _ hpm (by omega) (by omega) (by omega) (by omega)).mono ?_
                      rintro e wz ⟨he, nz, rfl⟩
                      rw [E1.out] at he
                      subst he
                      clear E1
                      go_wp2_with fail
                      go_roundw
                      case rel => exact ⟨i + 1, _, by omega, by go_num, rfl⟩
                      case measure => simp [intOf]; omega
                    · rw [if_neg (by omega), v1] at e1
                      have E1 := Lib.hid e1; clear e1
                      clear v1 hsmp hcell
                      go_wp2_with fail
                      refine (PI.at_in p gp W H cp xs' i j _ hpm (by omega) (by omega) (by omega) (by omega)).mono ?_
                      rintro e wz ⟨he, nz, rfl⟩
                      rw [E1.out] at he
                      subst he
                      clear E1
                      go_wp2_with fail
                      go_roundw
                      case rel => exact ⟨i + 1, _, by omega, by go_num, rfl⟩
                      case measure => simp [intOf]; omega
                  · rw [if_neg (by omega), v1] at e1
                    have E1 := Lib.hid e1; clear e1
                    clear v1 hsmp hcell
                    go_wp2_with fail
                    refine (PI.at_in p gp W H cp xs' i j _ hpm (by omega) (by omega) (by omega) (by omega)).mono ?_
                    rintro e wz ⟨he, nz, rfl⟩
                    rw [E1.out] at he
                    subst he
                    clear E1
                    go_wp2_with fail
                    go_roundw
                    case rel => exact ⟨i + 1, _, by omega, by go_num, rfl⟩
                    case measure => simp [intOf]; omega
                · rw [if_neg (by omega), v1] at e1
                  have E1 := Lib.hid e1; clear e1
                  clear v1 hsmp hcell
                  go_wp2_with fail
                  refine (PI.at_in p gp W H cp xs' i j _ hpm (by omega) (by omega) (by omega) (by omega)).mono ?_
                  rintro e wz ⟨he, nz, rfl⟩
                  rw [E1.out] at he
                  subst he
                  clear E1
                  go_wp2_with fail
                  go_roundw
                  case rel => exact ⟨i + 1, _, by omega, by go_num, rfl⟩
                  case measure => simp [intOf]; omega
              · rw [if_neg (by omega), v1] at e1
                have E1 := Lib.hid e1; clear e1
                clear v1 hsmp hcell
                go_wp2_with fail
                refine (PI.at_in p gp W H cp xs' i j _ hpm (by omega) (by omega) (by omega) (by omega)).mono ?_
                rintro e wz ⟨he, nz, rfl⟩
                rw [E1.out] at he
                subst he
                clear E1
                go_wp2_with fail
                go_roundw
                case rel => exact ⟨i + 1, _, by omega, by go_num, rfl⟩
                case measure => simp [intOf]; omega
            · go_wp2_with fail
              go_roundw
              case rel => exact ⟨j + 1, _, by omega, by go_num, rfl⟩
              case measure => simp [intOf]; omega
        · go_wp2_with fail
          go_ret
          have a1 : Below w.heap.size w w1 := below_then ((Below.refl _ _).alloc (Nat.le_refl _) _) b1
          have a2 := below_then a1 hb
          have lw := a2.size
          have a3 := below_then (below_then a2 hb2) hb3
          have a4 := a3.grown hg4 a3.size (fun n hn => by injection hn with hn; omega)
          have a8 := below_then (below_drewN (below_then (below_then a4 hb5) hb6) n7) hb8
          have a9 := below_drewN a8 n9
          have a10 := a9.grown hg10 a9.size (fun n hn => by injection hn with hn; omega)
          exact ⟨rfl, below_drewN a10 _⟩
end Go.Proofs.Ytlbocfinjlkebaa.Pieces
