/- PlaneScript: make, a plane of samples. -/
import Derived.Test.YtlbocfinjlkebaaScd
import Derived.Test.YtlbocfinjlkebaaLex3
namespace Go.Proofs.Ytlbocfinjlkebaa.Scr
open Go.RowKit Go.Proofs.Ytlbocfinjlkebaa.Byt Go.Proofs.Ytlbocfinjlkebaa.R12

/-- the list, k numbers behind it -/
def longL (zs : List Int) (k : Nat) : List Int := zs ++ (List.range k).map (fun (i : Nat) => -70 - (i : Int))
theorem longL_zero (zs : List Int) : longL zs 0 = zs := by simp [longL]
theorem longL_next (zs : List Int) (k : Nat) : longL zs (k + 1) = longL zs k ++ [-70 - (k : Int)] := by simp [longL, List.range_succ]
theorem longL_length (zs : List Int) (k : Nat) : (longL zs k).length = zs.length + k := by simp [longL]
theorem longL_old {zs : List Int} {k j : Nat} (h : j < zs.length) : (longL zs k).getD j 0 = zs.getD j 0 := by
  rw [List.getD_eq_getElem?_getD, List.getD_eq_getElem?_getD, longL, List.getElem?_append_left h]
theorem longL_new {zs : List Int} {k j : Nat} (h : zs.length ≤ j) (h2 : j < zs.length + k) : (longL zs k).getD j 0 = -70 - ((j : Int) - (zs.length : Int)) := by
  rw [List.getD_eq_getElem?_getD, longL, List.getElem?_append_right h, List.getElem?_map, List.getElem?_range (by omega)]
  simp
  omega
theorem ofP_no (a b : Int) (A : Option Addr) (n c : Nat) (w : World) (hno : ¬ (fitsB a b = true ∧ a * b = (n : Int))) :
    Calls Try.prog 29 #[.int .i64 a, .int .i64 b, .slice A n c] w fun e w' => e = .returned (.tuple #[.pointer none, .int .i64 120]) ∧ w = w' := by
  cases hf : fitsB a b
  · exact PI.of_no a b A n c w hf
  · obtain ⟨q1, q2, q3⟩ := (fitsB_iff _ _).1 hf
    obtain ⟨W, rfl⟩ := Int.eq_ofNat_of_zero_le (show 0 ≤ a by omega)
    obtain ⟨H, rfl⟩ := Int.eq_ofNat_of_zero_le (show 0 ≤ b by omega)
    exact PI.of_len W H A n c w hf (fun e => hno ⟨hf, by rw [e, Int.natCast_mul]⟩)
theorem ofQ_no (a b : Int) (A : Option Addr) (n c : Nat) (w : World) (hno : ¬ (fitsB a b = true ∧ a * b = (n : Int))) :
    Calls Try.prog 110 #[.int .i64 a, .int .i64 b, .slice A n c] w fun e w' => e = .returned (.tuple #[.pointer none, .int .i64 120]) ∧ w = w' := by
  cases hf : fitsB a b
  · exact of_no a b A n c w hf
  · obtain ⟨q1, q2, q3⟩ := (fitsB_iff _ _).1 hf
    obtain ⟨W, rfl⟩ := Int.eq_ofNat_of_zero_le (show 0 ≤ a by omega)
    obtain ⟨H, rfl⟩ := Int.eq_ofNat_of_zero_le (show 0 ≤ b by omega)
    exact of_len W H A n c w hf (fun e => hno ⟨hf, by rw [e, Int.natCast_mul]⟩)
theorem ofP_yes (W H b o n c : Nat) (zs : List Int) (w : World) (hf : fitsB W H = true) (hn : W * H = n) (hs : Sl w (some ⟨b, o, none⟩) n (zs.map (.int .i64))) :
    Calls Try.prog 29 #[.int .i64 W, .int .i64 H, .slice (some ⟨b, o, none⟩) n c] w (PI.MadeP w W H (zs.map (.int .i64))) := by
  subst hn
  exact PI.of_yes W H b o c _ w hf hs (ints_oneCell .i64 zs)
theorem ofQ_yes (W H b o n c : Nat) (zs : List Int) (w : World) (hf : fitsB W H = true) (hn : W * H = n) (hs : Sl w (some ⟨b, o, none⟩) n (zs.map (.int .i64))) :
    Calls Try.prog 110 #[.int .i64 W, .int .i64 H, .slice (some ⟨b, o, none⟩) n c] w (MadeR w W H zs) := by
  subst hn
  exact of_yes W H b o c zs w hf hs
set_option maxRecDepth 100000 in
set_option maxHeartbeats 8000000 in
theorem make_of (base B n : Nat) (r : Nat → Nat) (vp vq : Value) (es : List Ent) (I J a b c d v : Int) (A : Option Addr) (m mc : Nat) (zs : List Int) (w : World) (h : Book base w B r vp vq (es.map pP) (es.map pQ) es) (hz : ∀ e ∈ es, e.zp = e.zq) (hn : es.length = n) (hm : n ≤ 8388608) (hpix : ∀ u, Below base w u → Sl u A m (zs.map (.int .i64))) (hmc : m ≤ mc) (hm1 : m ≤ 1048576) :
    Calls Try.prog 98 #[.pointer (some ⟨B, 0, none⟩), .agg #[.int .i64 2, .int .i64 I, .int .i64 J, .int .i64 a, .int .i64 b, .int .i64 c, .int .i64 d, .int .i64 v, .slice A m mc]] w (Goes base B n w) := by
  obtain ⟨i0, hi, hz0, hz1, hz2⟩ := info_parts PI.info
  obtain ⟨r1, h1, f1, hrt, t1, b1⟩ := h.box #[.int .i64 2, .int .i64 I, .int .i64 J, .int .i64 a, .int .i64 b, .int .i64 c, .int .i64 d, .int .i64 v, .slice A m mc] 119
  go_enter Try.func98, Try.ntmps98
  go_upto_region 1 with fail
  generalize (w.alloc (.cells #[.int .i64 2, .int .i64 I, .int .i64 J, .int .i64 a, .int .i64 b, .int .i64 c, .int .i64 d, .int .i64 v, .slice A m mc] 119)) = w1 at h1 f1 t1 b1 ⊢
  generalize w.heap.size = t at hrt t1 ⊢
  have o0 : w1.cell? ⟨t, 0, none⟩ = some (.int .i64 2) := by rw [t1.cell]; rfl
  have o8 : w1.cell? ⟨t, 8, none⟩ = some (.slice A m mc) := by rw [t1.cell]; rfl
  have hlz := Lib.hid (show zs.length = m by simpa using (hpix w1 b1).1)
  go_wp2_with fail
  refine (copied_any A m mc zs w1 (hpix w1 b1) (by omega) hmc).mono ?_
  rintro e w2 ⟨l0, rfl, hrow, b2⟩
  go_wp2_with fail
  go_loopw [8, 9] (fun l i wr => ∃ k : Nat, k ≤ 12 ∧ i = .int .i64 k ∧ Below w1.heap.size w1 wr ∧ wr.ownsRow w1.heap.size 3 1 l (m + k) ((longL zs k).map (.int .i64))) (fun _ i _ => 12 - (intOf i).toNat)
  case atStart => exact ⟨0, Nat.zero_le _, rfl, b2, by rw [longL_zero]; exact hrow⟩
  clear hrow b2
  clear w2
  case round =>
    obtain ⟨k, hk, rfl, hb, hown⟩ := hrel
    by_cases hlt : k < 12
    · have y1 : IntKind.i64.wrap (-70 - (k : Int)) = -70 - (k : Int) := IntWalk.i64_in _ (by omega)
      go_wp2_with (at_builtin; refine wpList_append_lies _ rfl (.tmp 47) (.tmp 50) 50 rfl w1.heap.size 3 i0 (.int .i64 0) 1 8 Try.underlying50 hi hz0 hz1 hz2 rfl (by decide) _ (m + k) _ rfl (hown.alloc _) ⟨wr.heap.size, 0, none⟩ 1 1 [.int .i64 (-70 - (k : Int))] rfl rfl (show ∀ i u, _ → World.cell? _ _ = _ from cell_one_new wr _ _) (by intro u hu; simp at hu; subst hu; rfl) (by decide) (by unfold maxLen; omega) (by omega) (show w1.heap.size ≤ (wr.alloc (.cells #[.int .i64 (-70 - (k : Int))] 3)).heap.size by simp; have := hb.size; omega) (wr.heap.size + 1) (show (wr.alloc (.cells #[.int .i64 (-70 - (k : Int))] 3)).heap.size = _ by simp) ?_; intro gg cap w2 hown2 hgrow2 hat2 hlt2)
      go_roundw
      case rel =>
        refine ⟨k + 1, by omega, by go_num, ?_, by rw [longL_next, List.map_append]; exact hown2⟩
        exact (hb.alloc hb.size _).grown hgrow2 (by simp; have := hb.size; omega) (fun j hj => (hown.lt j hj).1)
      case measure => simp [intOf]; omega
    · have hk12 : k = 12 := by omega
      subst hk12
      clear hlt hk
      obtain ⟨g, cap, rfl, hg0, hg1⟩ := hown.form (by omega)
      obtain ⟨cur, hgb, hgs, hgt', hgn, hgc, hgm⟩ := row_of_owns hown
      obtain ⟨N, hN⟩ : ∃ N, m + 12 = N := ⟨_, rfl⟩
      rw [hN] at hgt' hgc ⊢
      have hcur : ∀ j, j < N → cur[j]? = some (.int .i64 ((longL zs 12).getD j 0)) := fun j hj => by
        have h5 : (cur.toList.take N)[j]? = ((longL zs 12).map (Value.int .i64))[j]? := by rw [hgt']
        rw [List.getElem?_take, if_pos hj] at h5
        have hll : j < (longL zs 12).length := by rw [longL_length, hlz.out]; omega
        rw [List.getElem?_map, List.getElem?_eq_getElem hll] at h5
        rw [List.getD_eq_getElem?_getD, List.getElem?_eq_getElem hll]
        simpa using h5
      have hsl : Sl wr (some ⟨g, 0, none⟩) m (zs.map (.int .i64)) := by
        refine Sl.of_blk hgb ?_ (by omega)
        have h5 : (cur.toList.take N).take m = ((longL zs 12).map (Value.int .i64)).take m := by rw [hgt']
        rw [List.take_take, Nat.min_eq_left (by omega)] at h5
        rw [h5, ← List.map_take, longL, List.take_left' hlz.out]
      have hgt : t ≠ g := by have := t1.lt; omega
      have hgbase : base ≤ g := by have := h1.le; omega
      have t3 := t1.kept hb
      obtain ⟨h3, f3⟩ := h1.role hb hg0
      have hrg : (fun x => if x = g then 3 else r1 x) g = 3 := if_pos rfl
      have hrt3 : (fun x => if x = g then 3 else r1 x) t = 3 := f3.role t1.lt hrt
      have b3 := b1.trans (hb.mono h1.le)
      generalize (fun x => if x = g then 3 else r1 x) = r3 at h3 f3 hrg hrt3
      have t30 := t3
      clear hown hgt' f3 hgn o0 o8
      have hmcap : m ≤ cap := by omega
      have o3 : wr.cell? ⟨t, 3, none⟩ = some (.int .i64 a) := by rw [t3.cell]; rfl
      have o4 : wr.cell? ⟨t, 4, none⟩ = some (.int .i64 b) := by rw [t3.cell]; rfl
      have o8 : wr.cell? ⟨t, 8, none⟩ = some (.slice A m mc) := by rw [t3.cell]; rfl
      go_upto_region 10 with fail
      refine Lex3.wp_region_lex [] (fun u => u.cell? ⟨t, 3, none⟩ = some (.int .i64 a) ∧ u.cell? ⟨t, 4, none⟩ = some (.int .i64 b) ∧ u.cell? ⟨t, 8, none⟩ = some (.slice A m mc)) (fun u n h => h) ⟨o3, o4, o8⟩ (by kernel_rfl) (by kernel_rfl) ?_
      refine Lex3.run_free (v := ?_) (by rfl) (by rfl) (fun u => ?_) ?_; rotate_left; (go_simp; try with_reducible rfl); simp only [Act.put, List.setIfInBounds_toArray, List.set_cons_zero, List.set_cons_succ]
      refine Lex3.run_load (v := ?_) (by rfl) (by rfl) (fun u hu => ?_) ?_; rotate_left; (obtain ⟨hu0, hu1, hu2⟩ := hu; go_simp; try with_reducible rfl); simp only [Act.put, List.setIfInBounds_toArray, List.set_cons_zero, List.set_cons_succ]
      refine Lex3.run_free (v := ?_) (by rfl) (by rfl) (fun u => ?_) ?_; rotate_left; (go_simp; try with_reducible rfl); simp only [Act.put, List.setIfInBounds_toArray, List.set_cons_zero, List.set_cons_succ]
      refine Lex3.run_load (v := ?_) (by rfl) (by rfl) (fun u hu => ?_) ?_; rotate_left; (obtain ⟨hu0, hu1, hu2⟩ := hu; go_simp; try with_reducible rfl); simp only [Act.put, List.setIfInBounds_toArray, List.set_cons_zero, List.set_cons_succ]
      refine Lex3.run_free (v := ?_) (by rfl) (by rfl) (fun u => ?_) ?_; rotate_left; (go_simp; try with_reducible rfl); simp only [Act.put, List.setIfInBounds_toArray, List.set_cons_zero, List.set_cons_succ]
      refine Lex3.run_free (v := ?_) (by rfl) (by rfl) (fun u => ?_) ?_; rotate_left; (go_simp; try with_reducible rfl); simp only [Act.put, List.setIfInBounds_toArray, List.set_cons_zero, List.set_cons_succ]
      refine Lex3.run_load (v := ?_) (by rfl) (by rfl) (fun u hu => ?_) ?_; rotate_left; (obtain ⟨hu0, hu1, hu2⟩ := hu; go_simp; try with_reducible rfl); simp only [Act.put, List.setIfInBounds_toArray, List.set_cons_zero, List.set_cons_succ]
      refine Lex3.run_free (v := ?_) (by rfl) (by rfl) (fun u => ?_) ?_; rotate_left; (go_simp; try with_reducible rfl); simp only [Act.put, List.setIfInBounds_toArray, List.set_cons_zero, List.set_cons_succ]
      refine Lex3.run_free (v := ?_) (by rfl) (by rfl) (fun u => ?_) ?_; rotate_left; (go_simp; try with_reducible rfl); simp only [Act.put, List.setIfInBounds_toArray, List.set_cons_zero, List.set_cons_succ]
      refine Lex3.run_eff (by rfl) (by rfl) (fun n' K' hK => ?_)
      go_simp
      by_cases hyes : fitsB a b = true ∧ a * b = (m : Int)
      · obtain ⟨hf, hab⟩ := hyes
        obtain ⟨q1, q2, q3⟩ := (fitsB_iff _ _).1 hf
        clear q3
        obtain ⟨W, rfl⟩ := Int.eq_ofNat_of_zero_le (show 0 ≤ a by omega)
        obtain ⟨H, rfl⟩ := Int.eq_ofNat_of_zero_le (show 0 ≤ b by omega)
        have hWH : W * H = m := by rw [← Int.natCast_mul] at hab; omega
        clear hab
        have h11 : 1 * 1 ≤ W * H := Nat.mul_le_mul (by omega) (by omega)
        have hm0 : 1 ≤ m := by omega
        clear h11
        have HWH := Lib.hid hWH; clear hWH
        obtain ⟨pb, po, hA, _⟩ := (hpix wr b3).2 (by omega)
        subst hA
        refine (ofP_yes W H g 0 m cap zs _ hf HWH.out (hsl.drewN (1 + n'))).mono ?_
        rintro e w4 ⟨p1, g1, c1, rfl, hp, hp1, hg2, b4⟩
        have t4 := (t3.drewN (1 + n')).kept b4
        have hGd : Blk w4 g 3 cur := (hgb.drewN (1 + n')).kept b4
        refine hK _ _ ⟨by rw [t4.cell]; rfl, by rw [t4.cell]; rfl, by rw [t4.cell]; rfl⟩ ?_
        clear hK K'
        try simp only [Act.put, List.setIfInBounds_toArray, List.set_cons_zero, List.set_cons_succ]
        refine Lex3.run_free (v := ?_) (by rfl) (by rfl) (fun u => ?_) ?_; rotate_left; (go_simp; try with_reducible rfl); simp only [Act.put, List.setIfInBounds_toArray, List.set_cons_zero, List.set_cons_succ]
        refine Lex3.run_free (v := ?_) (by rfl) (by rfl) (fun u => ?_) ?_; rotate_left; (go_simp; try with_reducible rfl); simp only [Act.put, List.setIfInBounds_toArray, List.set_cons_zero, List.set_cons_succ]
        refine Lex3.run_free (v := ?_) (by rfl) (by rfl) (fun u => ?_) ?_; rotate_left; (go_simp; try with_reducible rfl); simp only [Act.put, List.setIfInBounds_toArray, List.set_cons_zero, List.set_cons_succ]
        refine Lex3.run_free (v := ?_) (by rfl) (by rfl) (fun u => ?_) ?_; rotate_left; (go_simp; try with_reducible rfl); simp only [Act.put, List.setIfInBounds_toArray, List.set_cons_zero, List.set_cons_succ]
        refine Lex3.run_free (v := ?_) (by rfl) (by rfl) (fun u => ?_) ?_; rotate_left; (go_simp; try with_reducible rfl); simp only [Act.put, List.setIfInBounds_toArray, List.set_cons_zero, List.set_cons_succ]
        refine Lex3.run_nil (fun n3 => ?_)
        have b34 : Below wr.heap.size wr (w4.drewN n3) := below_drewN (below_then (below_drewN (Below.refl wr.heap.size wr) (1 + n')) b4) n3
        have o3 : (w4.drewN n3).cell? ⟨t, 3, none⟩ = some (.int .i64 W) := by rw [(t4.drewN n3).cell]; rfl
        have o4 : (w4.drewN n3).cell? ⟨t, 4, none⟩ = some (.int .i64 H) := by rw [(t4.drewN n3).cell]; rfl
        have o8 : (w4.drewN n3).cell? ⟨t, 8, none⟩ = some (.slice (some ⟨pb, po, none⟩) m mc) := by rw [(t4.drewN n3).cell]; rfl
        have hp := hp.drewN n3
        generalize (w4.drewN n3) = w5 at b34 o3 o4 o8 hp ⊢
        have hl1 := hp.blt
        have hl2 := hp.glt
        have b5 := b3.trans (b34.mono (Nat.le_trans h3.le (Nat.le_refl _)))
        go_wp2_with fail
        refine (ofQ_yes W H pb po m mc zs w5 hf HWH.out (hpix w5 b5)).mono ?_
        rintro e w6 ⟨p2, g2, c2, rfl, hq, hp2, hg3, b6⟩
        have b36 := below_then b34 b6
        have hwr : wr.heap.size ≤ p1 ∧ wr.heap.size ≤ g1 := ⟨hp1, hg2⟩
        have hs34 := b34.size
        obtain ⟨r6, h6, f6⟩ := h3.add (e := ⟨p1, g1, c1, p2, g2, c2, W, H, zs, zs⟩) b36 ⟨hp.below b6, hq⟩ hwr.1 hwr.2 (by dsimp only; omega) (by dsimp only; omega) (by dsimp only; omega) (by dsimp only; omega)
        go_wp2_with fail
        refine (keep_yes base B n _ _ _ _ _ _ _ _ w6 h6 (by simp [hn]) (by simp [hn]) (by omega)).mono ?_
        rintro e w7 ⟨rfl, b7, r7, vp7, vq7, HB, f7⟩
        have f37 := f6.trans f7
        have HRT := f37.role t3.lt hrt3
        have HRG := f37.role hgb.lt hrg
        have TB := f37.blk t3 hrt3
        replace hgb := f37.blk hgb hrg
        have HBL := (b5.trans (b6.mono (Nat.le_trans h3.le hs34))).trans b7
        clear f37 f7 f6 b7 h6 hq hp b6 b34 b36 o3 o4 o8 hGd t4 b4 hsl
        go_wp2_with fail
        go_loopw [14] (fun i wr => ∃ (k : Nat) (cur' : Array Value), k ≤ N ∧ i = .int .i64 k ∧ Book base wr B r7 vp7 vq7 (es.map pP ++ [.pointer (some ⟨p1, 0, none⟩)]) (es.map pQ ++ [.pointer (some ⟨p2, 0, none⟩)]) (es ++ [⟨p1, g1, c1, p2, g2, c2, W, H, zs, zs⟩]) ∧ Below base w wr ∧ Blk wr t 119 #[.int .i64 2, .int .i64 I, .int .i64 J, .int .i64 W, .int .i64 H, .int .i64 c, .int .i64 d, .int .i64 v, .slice (some ⟨pb, po, none⟩) m mc] ∧ Blk wr g 3 cur' ∧ ∀ j, k ≤ j → j < N → cur'[j]? = some (.int .i64 ((longL zs 12).getD j 0))) (fun i _ => N - (intOf i).toNat)
        case atStart => exact ⟨0, cur, Nat.zero_le _, rfl, HB, HBL, TB, hgb, fun j _ hj => hcur j hj⟩
        case round =>
          clear HB HBL TB hgb
          obtain ⟨k, cur', hk, rfl, hB, hBl, hT, hG, hC⟩ := hrel
          by_cases hlt : k < N
          · have o8 : wr.cell? ⟨t, 8, none⟩ = some (.slice (some ⟨pb, po, none⟩) m mc) := by rw [hT.cell]; rfl
            have c2 := hB.p2
            have f2 := hB.frozen 2
            have d1 : wr.cell? ⟨g, k, none⟩ = some (.int .i64 ((longL zs 12).getD k 0)) := by rw [hG.cell]; exact hC k (Nat.le_refl _) hlt
            by_cases hkm : k < m
            · have d2 := sl_int (hpix wr hBl) hkm
              rw [longL_old (by rw [hlz.out]; exact hkm)] at d1
              obtain ⟨z, hz⟩ : ∃ z, zs.getD k 0 = z := ⟨_, rfl⟩
              rw [hz] at d1 d2
              have HZ := Lib.hid hz; clear hz
              go_upto_region 17 with fail
              refine Lex3.wp_region_lex [] (fun u => u.cell? ⟨B, 2, none⟩ = some (.bool true) ∧ u.cell? ⟨g, k, none⟩ = some (.int .i64 z) ∧ u.cell? ⟨t, 8, none⟩ = some (.slice (some ⟨pb, po, none⟩) m mc) ∧ u.cell? ⟨pb, po + k, none⟩ = some (.int .i64 z)) (fun u n h => h) ⟨c2, d1, o8, d2⟩ (by kernel_rfl) (by kernel_rfl) ?_
              refine Lex3.run_free (v := ?_) (by rfl) (by rfl) (fun u => ?_) ?_; rotate_left; (go_simp; try with_reducible rfl); simp only [Act.put, List.setIfInBounds_toArray, List.set_cons_zero, List.set_cons_succ]
              refine Lex3.run_free (v := ?_) (by rfl) (by rfl) (fun u => ?_) ?_; rotate_left; (go_simp; try with_reducible rfl); simp only [Act.put, List.setIfInBounds_toArray, List.set_cons_zero, List.set_cons_succ]
              refine Lex3.run_free (v := ?_) (by rfl) (by rfl) (fun u => ?_) ?_; rotate_left; (go_simp; try with_reducible rfl); simp only [Act.put, List.setIfInBounds_toArray, List.set_cons_zero, List.set_cons_succ]
              refine Lex3.run_free (v := ?_) (by rfl) (by rfl) (fun u => ?_) ?_; rotate_left; (go_simp; try with_reducible rfl); simp only [Act.put, List.setIfInBounds_toArray, List.set_cons_zero, List.set_cons_succ]
              refine Lex3.run_load (v := ?_) (by rfl) (by rfl) (fun u hu => ?_) ?_; rotate_left; (obtain ⟨hu0, hu1, hu2, hu3⟩ := hu; go_simp; try with_reducible rfl); simp only [Act.put, List.setIfInBounds_toArray, List.set_cons_zero, List.set_cons_succ]
              refine Lex3.run_free (v := ?_) (by rfl) (by rfl) (fun u => ?_) ?_; rotate_left; (go_simp; try with_reducible rfl); simp only [Act.put, List.setIfInBounds_toArray, List.set_cons_zero, List.set_cons_succ]
              refine Lex3.run_free (v := ?_) (by rfl) (by kernel_rfl) (fun u => ?_) ?_; rotate_left; (go_simp; try with_reducible rfl); simp only [Act.put, List.setIfInBounds_toArray, List.set_cons_zero, List.set_cons_succ]
              refine Lex3.run_free (v := ?_) (by rfl) (by kernel_rfl) (fun u => ?_) ?_; rotate_left; (go_simp; try with_reducible rfl); simp only [Act.put, List.setIfInBounds_toArray, List.set_cons_zero, List.set_cons_succ]
              refine Lex3.run_free (v := ?_) (by rfl) (by kernel_rfl) (fun u => ?_) ?_; rotate_left; (go_simp; try with_reducible rfl); simp only [Act.put, List.setIfInBounds_toArray, List.set_cons_zero, List.set_cons_succ]
              refine Lex3.run_load (v := ?_) (by rfl) (by kernel_rfl) (fun u hu => ?_) ?_; rotate_left; (obtain ⟨hu0, hu1, hu2, hu3⟩ := hu; go_simp; try with_reducible rfl); simp only [Act.put, List.setIfInBounds_toArray, List.set_cons_zero, List.set_cons_succ]
              refine Lex3.run_free (v := ?_) (by rfl) (by kernel_rfl) (fun u => ?_) ?_; rotate_left; (go_simp; try with_reducible rfl); simp only [Act.put, List.setIfInBounds_toArray, List.set_cons_zero, List.set_cons_succ]
              refine Lex3.run_load (v := ?_) (by rfl) (by kernel_rfl) (fun u hu => ?_) ?_; rotate_left; (obtain ⟨hu0, hu1, hu2, hu3⟩ := hu; go_simp; try with_reducible rfl); simp only [Act.put, List.setIfInBounds_toArray, List.set_cons_zero, List.set_cons_succ]
              refine Lex3.run_free (v := ?_) (by rfl) (by kernel_rfl) (fun u => ?_) ?_; rotate_left; (go_simp; try with_reducible rfl); simp only [Act.put, List.setIfInBounds_toArray, List.set_cons_zero, List.set_cons_succ]
              refine Lex3.run_free (v := ?_) (by rfl) (by kernel_rfl) (fun u => ?_) ?_; rotate_left; (go_simp; try with_reducible rfl); simp only [Act.put, List.setIfInBounds_toArray, List.set_cons_zero, List.set_cons_succ]
              refine Lex3.run_load (v := ?_) (by rfl) (by kernel_rfl) (fun u hu => ?_) ?_; rotate_left; (obtain ⟨hu0, hu1, hu2, hu3⟩ := hu; go_simp; try with_reducible rfl); simp only [Act.put, List.setIfInBounds_toArray, List.set_cons_zero, List.set_cons_succ]
              refine Lex3.run_free (v := ?_) (by rfl) (by kernel_rfl) (fun u => ?_) ?_; rotate_left; (go_simp; try with_reducible rfl); simp only [Act.put, List.setIfInBounds_toArray, List.set_cons_zero, List.set_cons_succ]
              refine Lex3.run_free (v := ?_) (by rfl) (by rfl) (fun u => ?_) ?_; rotate_left; (go_simp; try with_reducible rfl); simp only [Act.put, List.setIfInBounds_toArray, List.set_cons_zero, List.set_cons_succ]
              refine Lex3.run_free (v := ?_) (by rfl) (by rfl) (fun u => ?_) ?_; rotate_left; (go_simp; try with_reducible rfl); simp only [Act.put, List.setIfInBounds_toArray, List.set_cons_zero, List.set_cons_succ]
              refine Lex3.run_free (v := ?_) (by rfl) (by rfl) (fun u => ?_) ?_; rotate_left; (go_simp; try with_reducible rfl); simp only [Act.put, List.setIfInBounds_toArray, List.set_cons_zero, List.set_cons_succ]
              refine Lex3.run_eff (by rfl) (by rfl) (fun n' K' hK => ?_)
              have f2' : (wr.drewN (1 + n')).frozen? ⟨B, 2, none⟩ = false := f2
              have c2' : (wr.drewN (1 + n')).cell? ⟨B, 2, none⟩ = some (.bool true) := c2
              go_simp
              have hB2 := (hB.drewN (1 + n')).mark
              have hF2 := (hB.drewN (1 + n')).markF
              have hBl2 := (hB.drewN (1 + n')).markB (below_drewN hBl (1 + n'))
              have hT2 := hF2.blk (hT.drewN (1 + n')) HRT
              have hG2 := hF2.blk (hG.drewN (1 + n')) HRG
              refine hK _ _ ⟨hB2.p2, by rw [hG2.cell, ← hG.cell]; exact d1, by rw [hT2.cell]; rfl, by rw [← HZ.out]; exact sl_int (hpix _ hBl2) hkm⟩ ?_
              clear hK K'
              try simp only [Act.put, List.setIfInBounds_toArray, List.set_cons_zero, List.set_cons_succ]

              refine Lex3.run_nil (fun n3 => ?_)
              have hB3 := hB2.drewN n3
              have hG3 := hG2.drewN n3
              have hT3 := hT2.drewN n3
              have hBl3 := below_drewN hBl2 n3
              have d3 : (((wr.drewN (1 + n')).setCell ⟨B, 2, none⟩ (.bool true)).drewN n3).cell? ⟨g, k, none⟩ = some (.int .i64 z) := by rw [hG3.cell, ← hG.cell]; exact d1
              have f3 := hG3.frozen k
              generalize (((wr.drewN (1 + n')).setCell ⟨B, 2, none⟩ (.bool true)).drewN n3) = u at hB3 hG3 hT3 hBl3 d3 f3 ⊢
              go_wp2_with fail
              go_roundw
              case rel =>
                refine ⟨k + 1, cur'.setIfInBounds k (.int .i64 (-1)), by omega, by go_num, hB3.off (a := ⟨g, k, none⟩) HRG _, hBl3.setCell hgbase _, hT3.far hgt _, hG3.set k _, ?_⟩
                intro j hj1 hj2
                rw [Array.getElem?_setIfInBounds_ne (by omega)]
                exact hC j (by omega) hj2
              case measure => simp [intOf]; omega

            · rw [longL_new (by rw [hlz.out]; omega) (by rw [hlz.out]; omega)] at d1
              rw [show zs.length = m from hlz.out] at d1
              have y1 : IntKind.i64.wrap ((k : Int) - (m : Int)) = (k : Int) - (m : Int) := IntWalk.i64_in _ (by omega)
              have y2 : IntKind.i64.wrap (-70 - ((k : Int) - (m : Int))) = -70 - ((k : Int) - (m : Int)) := IntWalk.i64_in _ (by omega)
              go_upto_region 18 with fail
              refine Lex3.wp_region_lex [] (fun u => u.cell? ⟨B, 2, none⟩ = some (.bool true) ∧ u.cell? ⟨g, k, none⟩ = some (.int .i64 (-70 - ((k : Int) - (m : Int)))) ∧ u.cell? ⟨t, 8, none⟩ = some (.slice (some ⟨pb, po, none⟩) m mc)) (fun u n h => h) ⟨c2, d1, o8⟩ (by kernel_rfl) (by kernel_rfl) ?_
              refine Lex3.run_free (v := ?_) (by rfl) (by rfl) (fun u => ?_) ?_; rotate_left; (go_simp; try with_reducible rfl); simp only [Act.put, List.setIfInBounds_toArray, List.set_cons_zero, List.set_cons_succ]
              refine Lex3.run_free (v := ?_) (by rfl) (by rfl) (fun u => ?_) ?_; rotate_left; (go_simp; try with_reducible rfl); simp only [Act.put, List.setIfInBounds_toArray, List.set_cons_zero, List.set_cons_succ]
              refine Lex3.run_free (v := ?_) (by rfl) (by rfl) (fun u => ?_) ?_; rotate_left; (go_simp; try with_reducible rfl); simp only [Act.put, List.setIfInBounds_toArray, List.set_cons_zero, List.set_cons_succ]
              refine Lex3.run_free (v := ?_) (by rfl) (by rfl) (fun u => ?_) ?_; rotate_left; (go_simp; try with_reducible rfl); simp only [Act.put, List.setIfInBounds_toArray, List.set_cons_zero, List.set_cons_succ]
              refine Lex3.run_load (v := ?_) (by rfl) (by rfl) (fun u hu => ?_) ?_; rotate_left; (obtain ⟨hu0, hu1, hu2⟩ := hu; go_simp; try with_reducible rfl); simp only [Act.put, List.setIfInBounds_toArray, List.set_cons_zero, List.set_cons_succ]
              refine Lex3.run_free (v := ?_) (by rfl) (by rfl) (fun u => ?_) ?_; rotate_left; (go_simp; try with_reducible rfl); simp only [Act.put, List.setIfInBounds_toArray, List.set_cons_zero, List.set_cons_succ]
              refine Lex3.run_free (v := ?_) (by rfl) (by kernel_rfl) (fun u => ?_) ?_; rotate_left; (go_simp; try with_reducible rfl); simp only [Act.put, List.setIfInBounds_toArray, List.set_cons_zero, List.set_cons_succ]
              refine Lex3.run_free (v := ?_) (by rfl) (by kernel_rfl) (fun u => ?_) ?_; rotate_left; (go_simp; try with_reducible rfl); simp only [Act.put, List.setIfInBounds_toArray, List.set_cons_zero, List.set_cons_succ]
              refine Lex3.run_free (v := ?_) (by rfl) (by kernel_rfl) (fun u => ?_) ?_; rotate_left; (go_simp; try with_reducible rfl); simp only [Act.put, List.setIfInBounds_toArray, List.set_cons_zero, List.set_cons_succ]
              refine Lex3.run_load (v := ?_) (by rfl) (by kernel_rfl) (fun u hu => ?_) ?_; rotate_left; (obtain ⟨hu0, hu1, hu2⟩ := hu; go_simp; try with_reducible rfl); simp only [Act.put, List.setIfInBounds_toArray, List.set_cons_zero, List.set_cons_succ]
              refine Lex3.run_free (v := ?_) (by rfl) (by kernel_rfl) (fun u => ?_) ?_; rotate_left; (go_simp; try with_reducible rfl); simp only [Act.put, List.setIfInBounds_toArray, List.set_cons_zero, List.set_cons_succ]
              refine Lex3.run_free (v := ?_) (by rfl) (by kernel_rfl) (fun u => ?_) ?_; rotate_left; (go_simp; try with_reducible rfl); simp only [Act.put, List.setIfInBounds_toArray, List.set_cons_zero, List.set_cons_succ]
              refine Lex3.run_load (v := ?_) (by rfl) (by kernel_rfl) (fun u hu => ?_) ?_; rotate_left; (obtain ⟨hu0, hu1, hu2⟩ := hu; go_simp; try with_reducible rfl); simp only [Act.put, List.setIfInBounds_toArray, List.set_cons_zero, List.set_cons_succ]
              refine Lex3.run_free (v := ?_) (by rfl) (by kernel_rfl) (fun u => ?_) ?_; rotate_left; (go_simp; try with_reducible rfl); simp only [Act.put, List.setIfInBounds_toArray, List.set_cons_zero, List.set_cons_succ]
              refine Lex3.run_free (v := ?_) (by rfl) (by kernel_rfl) (fun u => ?_) ?_; rotate_left; (go_simp; try with_reducible rfl); simp only [Act.put, List.setIfInBounds_toArray, List.set_cons_zero, List.set_cons_succ]
              refine Lex3.run_free (v := ?_) (by rfl) (by kernel_rfl) (fun u => ?_) ?_; rotate_left; (go_simp; try with_reducible rfl); simp only [Act.put, List.setIfInBounds_toArray, List.set_cons_zero, List.set_cons_succ]
              refine Lex3.run_free (v := ?_) (by rfl) (by kernel_rfl) (fun u => ?_) ?_; rotate_left; (go_simp; try with_reducible rfl); simp only [Act.put, List.setIfInBounds_toArray, List.set_cons_zero, List.set_cons_succ]
              refine Lex3.run_free (v := ?_) (by rfl) (by rfl) (fun u => ?_) ?_; rotate_left; (go_simp; try with_reducible rfl); simp only [Act.put, List.setIfInBounds_toArray, List.set_cons_zero, List.set_cons_succ]
              refine Lex3.run_free (v := ?_) (by rfl) (by rfl) (fun u => ?_) ?_; rotate_left; (go_simp; try with_reducible rfl); simp only [Act.put, List.setIfInBounds_toArray, List.set_cons_zero, List.set_cons_succ]
              refine Lex3.run_free (v := ?_) (by rfl) (by rfl) (fun u => ?_) ?_; rotate_left; (go_simp; try with_reducible rfl); simp only [Act.put, List.setIfInBounds_toArray, List.set_cons_zero, List.set_cons_succ]
              refine Lex3.run_eff (by rfl) (by rfl) (fun n' K' hK => ?_)
              have f2' : (wr.drewN (1 + n')).frozen? ⟨B, 2, none⟩ = false := f2
              have c2' : (wr.drewN (1 + n')).cell? ⟨B, 2, none⟩ = some (.bool true) := c2
              go_simp
              have hB2 := (hB.drewN (1 + n')).mark
              have hF2 := (hB.drewN (1 + n')).markF
              have hBl2 := (hB.drewN (1 + n')).markB (below_drewN hBl (1 + n'))
              have hT2 := hF2.blk (hT.drewN (1 + n')) HRT
              have hG2 := hF2.blk (hG.drewN (1 + n')) HRG
              refine hK _ _ ⟨hB2.p2, by rw [hG2.cell, ← hG.cell]; exact d1, by rw [hT2.cell]; rfl⟩ ?_
              clear hK K'
              try simp only [Act.put, List.setIfInBounds_toArray, List.set_cons_zero, List.set_cons_succ]

              refine Lex3.run_nil (fun n3 => ?_)
              have hB3 := hB2.drewN n3
              have hG3 := hG2.drewN n3
              have hT3 := hT2.drewN n3
              have hBl3 := below_drewN hBl2 n3
              have d3 : (((wr.drewN (1 + n')).setCell ⟨B, 2, none⟩ (.bool true)).drewN n3).cell? ⟨g, k, none⟩ = some (.int .i64 (-70 - ((k : Int) - (m : Int)))) := by rw [hG3.cell, ← hG.cell]; exact d1
              have f3 := hG3.frozen k
              generalize (((wr.drewN (1 + n')).setCell ⟨B, 2, none⟩ (.bool true)).drewN n3) = u at hB3 hG3 hT3 hBl3 d3 f3 ⊢
              go_wp2_with fail
              go_roundw
              case rel =>
                refine ⟨k + 1, cur'.setIfInBounds k (.int .i64 (-1)), by omega, by go_num, hB3.off (a := ⟨g, k, none⟩) HRG _, hBl3.setCell hgbase _, hT3.far hgt _, hG3.set k _, ?_⟩
                intro j hj1 hj2
                rw [Array.getElem?_setIfInBounds_ne (by omega)]
                exact hC j (by omega) hj2
              case measure => simp [intOf]; omega

          · go_wp2_with fail
            refine bodyPost_end (results_none rfl _ _ _) rfl ?_
            exact Goes.more (e := ⟨p1, g1, c1, p2, g2, c2, W, H, zs, zs⟩) hBl hB hz (by rfl) hn

      · refine (ofP_no a b (some ⟨g, 0, none⟩) m cap _ hyes).mono ?_
        rintro e w4 ⟨rfl, rfl⟩
        refine hK _ _ ⟨o3, o4, o8⟩ ?_
        clear hK K'
        try simp only [Act.put, List.setIfInBounds_toArray, List.set_cons_zero, List.set_cons_succ]
        refine Lex3.run_free (v := ?_) (by rfl) (by rfl) (fun u => ?_) ?_; rotate_left; (go_simp; try with_reducible rfl); simp only [Act.put, List.setIfInBounds_toArray, List.set_cons_zero, List.set_cons_succ]
        refine Lex3.run_free (v := ?_) (by rfl) (by rfl) (fun u => ?_) ?_; rotate_left; (go_simp; try with_reducible rfl); simp only [Act.put, List.setIfInBounds_toArray, List.set_cons_zero, List.set_cons_succ]
        refine Lex3.run_free (v := ?_) (by rfl) (by rfl) (fun u => ?_) ?_; rotate_left; (go_simp; try with_reducible rfl); simp only [Act.put, List.setIfInBounds_toArray, List.set_cons_zero, List.set_cons_succ]
        refine Lex3.run_free (v := ?_) (by rfl) (by rfl) (fun u => ?_) ?_; rotate_left; (go_simp; try with_reducible rfl); simp only [Act.put, List.setIfInBounds_toArray, List.set_cons_zero, List.set_cons_succ]
        refine Lex3.run_free (v := ?_) (by rfl) (by rfl) (fun u => ?_) ?_; rotate_left; (go_simp; try with_reducible rfl); simp only [Act.put, List.setIfInBounds_toArray, List.set_cons_zero, List.set_cons_succ]
        refine Lex3.run_nil (fun n3 => ?_)
        have h5 := h3.drewN (1 + n' + n3)
        have t5 := t3.drewN (1 + n' + n3)
        have b5 := below_drewN b3 (1 + n' + n3)
        have hgb := hgb.drewN (1 + n' + n3)
        have e5 : ((wr.drewN (1 + n')).drewN n3) = wr.drewN (1 + n' + n3) := by simp
        try rw [e5]
        clear e5 hsl
        generalize (wr.drewN (1 + n' + n3)) = w5 at h5 t5 b5 hgb ⊢
        have o3 : w5.cell? ⟨t, 3, none⟩ = some (.int .i64 a) := by rw [t5.cell]; rfl
        have o4 : w5.cell? ⟨t, 4, none⟩ = some (.int .i64 b) := by rw [t5.cell]; rfl
        have o8 : w5.cell? ⟨t, 8, none⟩ = some (.slice A m mc) := by rw [t5.cell]; rfl
        go_wp2_with fail
        refine (ofQ_no a b A m mc w5 hyes).mono ?_
        rintro e w6 ⟨rfl, rfl⟩
        go_wp2_with fail
        refine (keep_no base B _ _ _ _ _ _ 120 w5 h5).mono ?_
        rintro e w7 ⟨rfl, b7, HB, f7⟩
        have HRT := f7.role t5.lt hrt3
        have HRG := f7.role hgb.lt hrg
        have TB := f7.blk t5 hrt3
        replace hgb := f7.blk hgb hrg
        have HBL := b5.trans b7
        clear f7 b7 o3 o4 o8
        go_wp2_with fail
        go_loopw [14] (fun i wr => ∃ (k : Nat) (cur' : Array Value), k ≤ N ∧ i = .int .i64 k ∧ Book base wr B r3 vp vq (es.map pP) (es.map pQ) es ∧ Below base w wr ∧ Blk wr t 119 #[.int .i64 2, .int .i64 I, .int .i64 J, .int .i64 a, .int .i64 b, .int .i64 c, .int .i64 d, .int .i64 v, .slice A m mc] ∧ Blk wr g 3 cur' ∧ ∀ j, k ≤ j → j < N → cur'[j]? = some (.int .i64 ((longL zs 12).getD j 0))) (fun i _ => N - (intOf i).toNat)
        case atStart => exact ⟨0, cur, Nat.zero_le _, rfl, HB, HBL, TB, hgb, fun j _ hj => hcur j hj⟩
        case round =>
          clear HB HBL TB hgb
          obtain ⟨k, cur', hk, rfl, hB, hBl, hT, hG, hC⟩ := hrel
          by_cases hlt : k < N
          · have o8 : wr.cell? ⟨t, 8, none⟩ = some (.slice A m mc) := by rw [hT.cell]; rfl
            have c2 := hB.p2
            have f2 := hB.frozen 2
            have d1 : wr.cell? ⟨g, k, none⟩ = some (.int .i64 ((longL zs 12).getD k 0)) := by rw [hG.cell]; exact hC k (Nat.le_refl _) hlt
            by_cases hkm : k < m
            · obtain ⟨pb, po, hA, _⟩ := (hpix wr hBl).2 (by omega)
              subst hA
              have d2 := sl_int (hpix wr hBl) hkm
              rw [longL_old (by rw [hlz.out]; exact hkm)] at d1
              obtain ⟨z, hz⟩ : ∃ z, zs.getD k 0 = z := ⟨_, rfl⟩
              rw [hz] at d1 d2
              have HZ := Lib.hid hz; clear hz
              go_upto_region 17 with fail
              refine Lex3.wp_region_lex [] (fun u => u.cell? ⟨B, 2, none⟩ = some (.bool true) ∧ u.cell? ⟨g, k, none⟩ = some (.int .i64 z) ∧ u.cell? ⟨t, 8, none⟩ = some (.slice (some ⟨pb, po, none⟩) m mc) ∧ u.cell? ⟨pb, po + k, none⟩ = some (.int .i64 z)) (fun u n h => h) ⟨c2, d1, o8, d2⟩ (by kernel_rfl) (by kernel_rfl) ?_
              refine Lex3.run_free (v := ?_) (by rfl) (by rfl) (fun u => ?_) ?_; rotate_left; (go_simp; try with_reducible rfl); simp only [Act.put, List.setIfInBounds_toArray, List.set_cons_zero, List.set_cons_succ]
              refine Lex3.run_free (v := ?_) (by rfl) (by rfl) (fun u => ?_) ?_; rotate_left; (go_simp; try with_reducible rfl); simp only [Act.put, List.setIfInBounds_toArray, List.set_cons_zero, List.set_cons_succ]
              refine Lex3.run_free (v := ?_) (by rfl) (by rfl) (fun u => ?_) ?_; rotate_left; (go_simp; try with_reducible rfl); simp only [Act.put, List.setIfInBounds_toArray, List.set_cons_zero, List.set_cons_succ]
              refine Lex3.run_free (v := ?_) (by rfl) (by rfl) (fun u => ?_) ?_; rotate_left; (go_simp; try with_reducible rfl); simp only [Act.put, List.setIfInBounds_toArray, List.set_cons_zero, List.set_cons_succ]
              refine Lex3.run_load (v := ?_) (by rfl) (by rfl) (fun u hu => ?_) ?_; rotate_left; (obtain ⟨hu0, hu1, hu2, hu3⟩ := hu; go_simp; try with_reducible rfl); simp only [Act.put, List.setIfInBounds_toArray, List.set_cons_zero, List.set_cons_succ]
              refine Lex3.run_free (v := ?_) (by rfl) (by rfl) (fun u => ?_) ?_; rotate_left; (go_simp; try with_reducible rfl); simp only [Act.put, List.setIfInBounds_toArray, List.set_cons_zero, List.set_cons_succ]
              refine Lex3.run_free (v := ?_) (by rfl) (by kernel_rfl) (fun u => ?_) ?_; rotate_left; (go_simp; try with_reducible rfl); simp only [Act.put, List.setIfInBounds_toArray, List.set_cons_zero, List.set_cons_succ]
              refine Lex3.run_free (v := ?_) (by rfl) (by kernel_rfl) (fun u => ?_) ?_; rotate_left; (go_simp; try with_reducible rfl); simp only [Act.put, List.setIfInBounds_toArray, List.set_cons_zero, List.set_cons_succ]
              refine Lex3.run_free (v := ?_) (by rfl) (by kernel_rfl) (fun u => ?_) ?_; rotate_left; (go_simp; try with_reducible rfl); simp only [Act.put, List.setIfInBounds_toArray, List.set_cons_zero, List.set_cons_succ]
              refine Lex3.run_load (v := ?_) (by rfl) (by kernel_rfl) (fun u hu => ?_) ?_; rotate_left; (obtain ⟨hu0, hu1, hu2, hu3⟩ := hu; go_simp; try with_reducible rfl); simp only [Act.put, List.setIfInBounds_toArray, List.set_cons_zero, List.set_cons_succ]
              refine Lex3.run_free (v := ?_) (by rfl) (by kernel_rfl) (fun u => ?_) ?_; rotate_left; (go_simp; try with_reducible rfl); simp only [Act.put, List.setIfInBounds_toArray, List.set_cons_zero, List.set_cons_succ]
              refine Lex3.run_load (v := ?_) (by rfl) (by kernel_rfl) (fun u hu => ?_) ?_; rotate_left; (obtain ⟨hu0, hu1, hu2, hu3⟩ := hu; go_simp; try with_reducible rfl); simp only [Act.put, List.setIfInBounds_toArray, List.set_cons_zero, List.set_cons_succ]
              refine Lex3.run_free (v := ?_) (by rfl) (by kernel_rfl) (fun u => ?_) ?_; rotate_left; (go_simp; try with_reducible rfl); simp only [Act.put, List.setIfInBounds_toArray, List.set_cons_zero, List.set_cons_succ]
              refine Lex3.run_free (v := ?_) (by rfl) (by kernel_rfl) (fun u => ?_) ?_; rotate_left; (go_simp; try with_reducible rfl); simp only [Act.put, List.setIfInBounds_toArray, List.set_cons_zero, List.set_cons_succ]
              refine Lex3.run_load (v := ?_) (by rfl) (by kernel_rfl) (fun u hu => ?_) ?_; rotate_left; (obtain ⟨hu0, hu1, hu2, hu3⟩ := hu; go_simp; try with_reducible rfl); simp only [Act.put, List.setIfInBounds_toArray, List.set_cons_zero, List.set_cons_succ]
              refine Lex3.run_free (v := ?_) (by rfl) (by kernel_rfl) (fun u => ?_) ?_; rotate_left; (go_simp; try with_reducible rfl); simp only [Act.put, List.setIfInBounds_toArray, List.set_cons_zero, List.set_cons_succ]
              refine Lex3.run_free (v := ?_) (by rfl) (by rfl) (fun u => ?_) ?_; rotate_left; (go_simp; try with_reducible rfl); simp only [Act.put, List.setIfInBounds_toArray, List.set_cons_zero, List.set_cons_succ]
              refine Lex3.run_free (v := ?_) (by rfl) (by rfl) (fun u => ?_) ?_; rotate_left; (go_simp; try with_reducible rfl); simp only [Act.put, List.setIfInBounds_toArray, List.set_cons_zero, List.set_cons_succ]
              refine Lex3.run_free (v := ?_) (by rfl) (by rfl) (fun u => ?_) ?_; rotate_left; (go_simp; try with_reducible rfl); simp only [Act.put, List.setIfInBounds_toArray, List.set_cons_zero, List.set_cons_succ]
              refine Lex3.run_eff (by rfl) (by rfl) (fun n' K' hK => ?_)
              have f2' : (wr.drewN (1 + n')).frozen? ⟨B, 2, none⟩ = false := f2
              have c2' : (wr.drewN (1 + n')).cell? ⟨B, 2, none⟩ = some (.bool true) := c2
              go_simp
              have hB2 := (hB.drewN (1 + n')).mark
              have hF2 := (hB.drewN (1 + n')).markF
              have hBl2 := (hB.drewN (1 + n')).markB (below_drewN hBl (1 + n'))
              have hT2 := hF2.blk (hT.drewN (1 + n')) HRT
              have hG2 := hF2.blk (hG.drewN (1 + n')) HRG
              refine hK _ _ ⟨hB2.p2, by rw [hG2.cell, ← hG.cell]; exact d1, by rw [hT2.cell]; rfl, by rw [← HZ.out]; exact sl_int (hpix _ hBl2) hkm⟩ ?_
              clear hK K'
              try simp only [Act.put, List.setIfInBounds_toArray, List.set_cons_zero, List.set_cons_succ]

              refine Lex3.run_nil (fun n3 => ?_)
              have hB3 := hB2.drewN n3
              have hG3 := hG2.drewN n3
              have hT3 := hT2.drewN n3
              have hBl3 := below_drewN hBl2 n3
              have d3 : (((wr.drewN (1 + n')).setCell ⟨B, 2, none⟩ (.bool true)).drewN n3).cell? ⟨g, k, none⟩ = some (.int .i64 z) := by rw [hG3.cell, ← hG.cell]; exact d1
              have f3 := hG3.frozen k
              generalize (((wr.drewN (1 + n')).setCell ⟨B, 2, none⟩ (.bool true)).drewN n3) = u at hB3 hG3 hT3 hBl3 d3 f3 ⊢
              go_wp2_with fail
              go_roundw
              case rel =>
                refine ⟨k + 1, cur'.setIfInBounds k (.int .i64 (-1)), by omega, by go_num, hB3.off (a := ⟨g, k, none⟩) HRG _, hBl3.setCell hgbase _, hT3.far hgt _, hG3.set k _, ?_⟩
                intro j hj1 hj2
                rw [Array.getElem?_setIfInBounds_ne (by omega)]
                exact hC j (by omega) hj2
              case measure => simp [intOf]; omega

            · rw [longL_new (by rw [hlz.out]; omega) (by rw [hlz.out]; omega)] at d1
              rw [show zs.length = m from hlz.out] at d1
              have y1 : IntKind.i64.wrap ((k : Int) - (m : Int)) = (k : Int) - (m : Int) := IntWalk.i64_in _ (by omega)
              have y2 : IntKind.i64.wrap (-70 - ((k : Int) - (m : Int))) = -70 - ((k : Int) - (m : Int)) := IntWalk.i64_in _ (by omega)
              go_upto_region 18 with fail
              refine Lex3.wp_region_lex [] (fun u => u.cell? ⟨B, 2, none⟩ = some (.bool true) ∧ u.cell? ⟨g, k, none⟩ = some (.int .i64 (-70 - ((k : Int) - (m : Int)))) ∧ u.cell? ⟨t, 8, none⟩ = some (.slice A m mc)) (fun u n h => h) ⟨c2, d1, o8⟩ (by kernel_rfl) (by kernel_rfl) ?_
              refine Lex3.run_free (v := ?_) (by rfl) (by rfl) (fun u => ?_) ?_; rotate_left; (go_simp; try with_reducible rfl); simp only [Act.put, List.setIfInBounds_toArray, List.set_cons_zero, List.set_cons_succ]
              refine Lex3.run_free (v := ?_) (by rfl) (by rfl) (fun u => ?_) ?_; rotate_left; (go_simp; try with_reducible rfl); simp only [Act.put, List.setIfInBounds_toArray, List.set_cons_zero, List.set_cons_succ]
              refine Lex3.run_free (v := ?_) (by rfl) (by rfl) (fun u => ?_) ?_; rotate_left; (go_simp; try with_reducible rfl); simp only [Act.put, List.setIfInBounds_toArray, List.set_cons_zero, List.set_cons_succ]
              refine Lex3.run_free (v := ?_) (by rfl) (by rfl) (fun u => ?_) ?_; rotate_left; (go_simp; try with_reducible rfl); simp only [Act.put, List.setIfInBounds_toArray, List.set_cons_zero, List.set_cons_succ]
              refine Lex3.run_load (v := ?_) (by rfl) (by rfl) (fun u hu => ?_) ?_; rotate_left; (obtain ⟨hu0, hu1, hu2⟩ := hu; go_simp; try with_reducible rfl); simp only [Act.put, List.setIfInBounds_toArray, List.set_cons_zero, List.set_cons_succ]
              refine Lex3.run_free (v := ?_) (by rfl) (by rfl) (fun u => ?_) ?_; rotate_left; (go_simp; try with_reducible rfl); simp only [Act.put, List.setIfInBounds_toArray, List.set_cons_zero, List.set_cons_succ]
              refine Lex3.run_free (v := ?_) (by rfl) (by kernel_rfl) (fun u => ?_) ?_; rotate_left; (go_simp; try with_reducible rfl); simp only [Act.put, List.setIfInBounds_toArray, List.set_cons_zero, List.set_cons_succ]
              refine Lex3.run_free (v := ?_) (by rfl) (by kernel_rfl) (fun u => ?_) ?_; rotate_left; (go_simp; try with_reducible rfl); simp only [Act.put, List.setIfInBounds_toArray, List.set_cons_zero, List.set_cons_succ]
              refine Lex3.run_free (v := ?_) (by rfl) (by kernel_rfl) (fun u => ?_) ?_; rotate_left; (go_simp; try with_reducible rfl); simp only [Act.put, List.setIfInBounds_toArray, List.set_cons_zero, List.set_cons_succ]
              refine Lex3.run_load (v := ?_) (by rfl) (by kernel_rfl) (fun u hu => ?_) ?_; rotate_left; (obtain ⟨hu0, hu1, hu2⟩ := hu; go_simp; try with_reducible rfl); simp only [Act.put, List.setIfInBounds_toArray, List.set_cons_zero, List.set_cons_succ]
              refine Lex3.run_free (v := ?_) (by rfl) (by kernel_rfl) (fun u => ?_) ?_; rotate_left; (go_simp; try with_reducible rfl); simp only [Act.put, List.setIfInBounds_toArray, List.set_cons_zero, List.set_cons_succ]
              refine Lex3.run_free (v := ?_) (by rfl) (by kernel_rfl) (fun u => ?_) ?_; rotate_left; (go_simp; try with_reducible rfl); simp only [Act.put, List.setIfInBounds_toArray, List.set_cons_zero, List.set_cons_succ]
              refine Lex3.run_load (v := ?_) (by rfl) (by kernel_rfl) (fun u hu => ?_) ?_; rotate_left; (obtain ⟨hu0, hu1, hu2⟩ := hu; go_simp; try with_reducible rfl); simp only [Act.put, List.setIfInBounds_toArray, List.set_cons_zero, List.set_cons_succ]
              refine Lex3.run_free (v := ?_) (by rfl) (by kernel_rfl) (fun u => ?_) ?_; rotate_left; (go_simp; try with_reducible rfl); simp only [Act.put, List.setIfInBounds_toArray, List.set_cons_zero, List.set_cons_succ]
              refine Lex3.run_free (v := ?_) (by rfl) (by kernel_rfl) (fun u => ?_) ?_; rotate_left; (go_simp; try with_reducible rfl); simp only [Act.put, List.setIfInBounds_toArray, List.set_cons_zero, List.set_cons_succ]
              refine Lex3.run_free (v := ?_) (by rfl) (by kernel_rfl) (fun u => ?_) ?_; rotate_left; (go_simp; try with_reducible rfl); simp only [Act.put, List.setIfInBounds_toArray, List.set_cons_zero, List.set_cons_succ]
              refine Lex3.run_free (v := ?_) (by rfl) (by kernel_rfl) (fun u => ?_) ?_; rotate_left; (go_simp; try with_reducible rfl); simp only [Act.put, List.setIfInBounds_toArray, List.set_cons_zero, List.set_cons_succ]
              refine Lex3.run_free (v := ?_) (by rfl) (by rfl) (fun u => ?_) ?_; rotate_left; (go_simp; try with_reducible rfl); simp only [Act.put, List.setIfInBounds_toArray, List.set_cons_zero, List.set_cons_succ]
              refine Lex3.run_free (v := ?_) (by rfl) (by rfl) (fun u => ?_) ?_; rotate_left; (go_simp; try with_reducible rfl); simp only [Act.put, List.setIfInBounds_toArray, List.set_cons_zero, List.set_cons_succ]
              refine Lex3.run_free (v := ?_) (by rfl) (by rfl) (fun u => ?_) ?_; rotate_left; (go_simp; try with_reducible rfl); simp only [Act.put, List.setIfInBounds_toArray, List.set_cons_zero, List.set_cons_succ]
              refine Lex3.run_eff (by rfl) (by rfl) (fun n' K' hK => ?_)
              have f2' : (wr.drewN (1 + n')).frozen? ⟨B, 2, none⟩ = false := f2
              have c2' : (wr.drewN (1 + n')).cell? ⟨B, 2, none⟩ = some (.bool true) := c2
              go_simp
              have hB2 := (hB.drewN (1 + n')).mark
              have hF2 := (hB.drewN (1 + n')).markF
              have hBl2 := (hB.drewN (1 + n')).markB (below_drewN hBl (1 + n'))
              have hT2 := hF2.blk (hT.drewN (1 + n')) HRT
              have hG2 := hF2.blk (hG.drewN (1 + n')) HRG
              refine hK _ _ ⟨hB2.p2, by rw [hG2.cell, ← hG.cell]; exact d1, by rw [hT2.cell]; rfl⟩ ?_
              clear hK K'
              try simp only [Act.put, List.setIfInBounds_toArray, List.set_cons_zero, List.set_cons_succ]

              refine Lex3.run_nil (fun n3 => ?_)
              have hB3 := hB2.drewN n3
              have hG3 := hG2.drewN n3
              have hT3 := hT2.drewN n3
              have hBl3 := below_drewN hBl2 n3
              have d3 : (((wr.drewN (1 + n')).setCell ⟨B, 2, none⟩ (.bool true)).drewN n3).cell? ⟨g, k, none⟩ = some (.int .i64 (-70 - ((k : Int) - (m : Int)))) := by rw [hG3.cell, ← hG.cell]; exact d1
              have f3 := hG3.frozen k
              generalize (((wr.drewN (1 + n')).setCell ⟨B, 2, none⟩ (.bool true)).drewN n3) = u at hB3 hG3 hT3 hBl3 d3 f3 ⊢
              go_wp2_with fail
              go_roundw
              case rel =>
                refine ⟨k + 1, cur'.setIfInBounds k (.int .i64 (-1)), by omega, by go_num, hB3.off (a := ⟨g, k, none⟩) HRG _, hBl3.setCell hgbase _, hT3.far hgt _, hG3.set k _, ?_⟩
                intro j hj1 hj2
                rw [Array.getElem?_setIfInBounds_ne (by omega)]
                exact hC j (by omega) hj2
              case measure => simp [intOf]; omega

          · go_wp2_with fail
            refine bodyPost_end (results_none rfl _ _ _) rfl ?_
            exact Goes.same hBl hB hz hn

end Go.Proofs.Ytlbocfinjlkebaa.Scr
